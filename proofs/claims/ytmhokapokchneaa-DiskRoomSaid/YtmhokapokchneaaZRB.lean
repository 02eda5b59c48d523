/- Parts of the proof of DiskRoom: merged and given short names by a program of ours. -/
import Derived.Shelf.SlMaps.Clone
import Derived.WalkKit
import Derived.ProofKit
import Derived.OpenShut
import Derived.Deep.Matrix
import Derived.Test.YtmhokapokchneaaZRA
namespace Go.Proofs.Ytmhokapokchneaa
open Go Go.En Go.Pu
set_option maxRecDepth 4000
set_option linter.unusedSimpArgs false
set_option linter.unusedVariables false
abbrev dP (p : Nat) : Value := .pointer (some ⟨p, 0, none⟩)
def mF (w : World) (p : Nat) (X D : Nat → Prop) (S' : pF) (w' : World) : Prop := ∃ X' D', fS w' p X' D' S' ∧ (∀ b, X' b → X b ∨ w.heap.size ≤ b) ∧ (∀ b, D b → D' b) ∧ dD w w' X
theorem mF.refl {w : World} {p : Nat} {X D : Nat → Prop} {S : pF} (h : fS w p X D S) : mF w p X D S w := ⟨X, D, h, fun _ h => .inl h, fun _ h => h, dD.refl _ _⟩
theorem mF.step {w w1 w2 : World} {p : Nat} {X D X1 D1 : Nat → Prop} {S2 : pF} (x : dD w w1 X) (hX : ∀ b, X1 b → X b ∨ w.heap.size ≤ b) (hD : ∀ b, D b → D1 b) (h : mF w1 p X1 D1 S2 w2) : mF w p X D S2 w2 := by
  obtain ⟨X2, D2, h1, h2, h4, h3⟩ := h
  have z := x.size
  refine ⟨X2, D2, h1, fun b hb => ?_, fun b hb => h4 b (hD b hb), x.trans h3 fun b hb hx => ?_⟩
  · rcases h2 b hb with h | h
    · exact hX b h
    · exact .inr (by omega)
  · rcases hX b hx with h | h
    · exact h
    · omega
theorem vN {w : World} {S T : Nat → Prop} {sz n : Nat} {v : Value} {l : List Value} (h : uN w S sz v n l) (hT : ∀ b, S b → T b) : uN w T sz v n l := by
  refine ⟨h.1, ?_⟩
  rcases h.2 with h2 | ⟨b, c, rest, h1, h2, h3⟩
  · exact .inl h2
  · exact .inr ⟨b, c, rest, h1, hT b h2, h3⟩
theorem yI {w : World} {S : Nat → Prop} {sz n : Nat} {v : Value} {l : List Value} (h : uN w S sz v n l) : uN w (fun b => S b ∧ b < w.heap.size) sz v n l := by
  refine ⟨h.1, ?_⟩
  rcases h.2 with h2 | ⟨b, c, rest, h1, h2, h3, h4⟩
  · exact .inl h2
  · exact .inr ⟨b, c, rest, h1, ⟨h2, h3.lt⟩, h3, h4⟩
theorem yU {p : Nat} {X D : Nat → Prop} {S : pF} {w : World} (h : fS w p X D S) : dJ pg eH #[dP p] w (fun r w' => r = .int .i64 (if S.down then 20 else 0) ∧ w' = w) := by
  refine pO ?_
  unfold pI jH
  obtain ⟨ms, mn, sv, ls, ln, cs, h1, h2, h3, h4, h5, h6, hXD, hDl, o, hms, hmn, hfs, hfn, hu, ho⟩ := h
  have c5 := o.cell (off := 5)
  simp only [List.getElem?_cons_zero, List.getElem?_cons_succ] at c5
  cases hd : S.down with
  | true =>
    rw [hd] at c5
    simp (disch := omega) only [bN, dE, aX, bC, cL, cH, cE, cI, cG, cB, dK, cY, bL, cF, cR, cK, cZ, cW, cN, cS, cX, cP, cO, cT, bV, cC, cM, cV, gD, gE, gG, gI, gH, gJ, gA, gF, gB, bG, Result.ok.injEq, Next.value.injEq, true_and, and_true, cA, cD, cU, cQ, cJ, dL, Int.toNat_natCast, bW, bY, bZ, bU, bP, bK, bR, bJ, bH, bF, if_true, if_false, Bool.false_eq_true, Nat.zero_add, Option.isNone_some, Option.isNone_none, Bool.not_true, Bool.not_false, List.getElem?_cons_succ, List.getElem?_cons_zero, aS, aI, aP, aW, aY, aO, bX, aA, aM, aJ, aH, aL, bA, bB, bQ, aN, aQ, aR, aG, aT, aC, bE, aV, aE, bD, aF, aK, aB, aZ, aU, aD, c5]
  | false =>
    rw [hd] at c5
    simp (disch := omega) only [bN, dE, aX, bC, cL, cH, cE, cI, cG, cB, dK, cY, bL, cF, cR, cK, cZ, cW, cN, cS, cX, cP, cO, cT, bV, cC, cM, cV, gD, gE, gG, gI, gH, gJ, gA, gF, gB, bG, Result.ok.injEq, Next.value.injEq, true_and, and_true, cA, cD, cU, cQ, cJ, dL, Int.toNat_natCast, bW, bY, bZ, bU, bP, bK, bR, bJ, bH, bF, if_true, if_false, Bool.false_eq_true, Nat.zero_add, Option.isNone_some, Option.isNone_none, Bool.not_true, Bool.not_false, List.getElem?_cons_succ, List.getElem?_cons_zero, aS, aI, aP, aW, aY, aO, bX, aA, aM, aJ, aH, aL, bA, bB, bQ, aN, aQ, aR, aG, aT, aC, bE, aV, aE, bD, aF, aK, aB, aZ, aU, aD, c5]
def qI (l : Int) : Int := if 0 < l then l - 1 else l
def wM (S : pF) : Bool := S.down || S.left == 0
theorem vA {p : Nat} {a b c d : Value} {left : Int} {down : Bool} {w : World} (o : eQ w p [a, b, c, d, .int .i64 left, .bool down]) (hl : -1 ≤ left ∧ left ≤ 9223372036854775807) :
    dJ pg eK #[dP p] w (fun r w' => r = .bool (down || left == 0) ∧ eQ w' p [a, b, c, d, .int .i64 (qI left), .bool (down || left == 0)] ∧ dD w w' (fun y => y = p)) := by
  refine nT ?_
  unfold lU gZ gS qI
  have c4 := o.cell (off := 4)
  simp only [List.getElem?_cons_zero, List.getElem?_cons_succ] at c4
  by_cases h0 : left = 0
  · subst h0
    have n1 : ((0 : Int) == 0) = true := rfl
    simp (disch := omega) only [bN, dE, aX, bC, cL, cH, cE, cI, cG, cB, dK, cY, bL, cF, cR, cK, cZ, cW, cN, cS, cX, cP, cO, cT, bV, cC, cM, cV, gD, gE, gG, gI, gH, gJ, gA, gF, gB, bG, Result.ok.injEq, Next.value.injEq, true_and, and_true, cA, cD, cU, cQ, cJ, dL, Int.toNat_natCast, bW, bY, bZ, bU, bP, bK, bR, bJ, bH, bF, if_true, if_false, Bool.false_eq_true, Nat.zero_add, Option.isNone_some, Option.isNone_none, Bool.not_true, Bool.not_false, List.getElem?_cons_succ, List.getElem?_cons_zero, aS, aI, aP, aW, aY, aO, bX, aA, aM, aJ, aH, aL, bA, bB, bQ, aN, aQ, aR, aG, aT, aC, bE, aV, aE, bD, aF, aK, aB, aZ, aU, aD, c4, n1]
    refine vF o rfl (by simp) fun w1 o1 x1 s1 => ?_
    simp only [List.set_cons_zero, List.set_cons_succ] at o1
    have c5 := o1.cell (off := 5)
    simp only [List.getElem?_cons_zero, List.getElem?_cons_succ] at c5
    unfold dW
    simp (disch := omega) only [bN, dE, aX, bC, cL, cH, cE, cI, cG, cB, dK, cY, bL, cF, cR, cK, cZ, cW, cN, cS, cX, cP, cO, cT, bV, cC, cM, cV, gD, gE, gG, gI, gH, gJ, gA, gF, gB, bG, Result.ok.injEq, Next.value.injEq, true_and, and_true, cA, cD, cU, cQ, cJ, dL, Int.toNat_natCast, bW, bY, bZ, bU, bP, bK, bR, bJ, bH, bF, if_true, if_false, Bool.false_eq_true, Nat.zero_add, Option.isNone_some, Option.isNone_none, Bool.not_true, Bool.not_false, List.getElem?_cons_succ, List.getElem?_cons_zero, aS, aI, aP, aW, aY, aO, bX, aA, aM, aJ, aH, aL, bA, bB, bQ, aN, aQ, aR, aG, aT, aC, bE, aV, aE, bD, aF, aK, aB, aZ, aU, aD, c5]
    rw [Bool.or_true]
    exact ⟨rfl, o1, x1⟩
  have n1 : (left == 0) = false := beq_eq_false_iff_ne.2 h0
  rw [n1, Bool.or_false]
  by_cases h1 : 0 < left
  · have d1 : decide (0 < left) = true := by simpa using h1
    simp (disch := omega) only [bN, dE, aX, bC, cL, cH, cE, cI, cG, cB, dK, cY, bL, cF, cR, cK, cZ, cW, cN, cS, cX, cP, cO, cT, bV, cC, cM, cV, gD, gE, gG, gI, gH, gJ, gA, gF, gB, bG, Result.ok.injEq, Next.value.injEq, true_and, and_true, cA, cD, cU, cQ, cJ, dL, Int.toNat_natCast, bW, bY, bZ, bU, bP, bK, bR, bJ, bH, bF, if_true, if_false, Bool.false_eq_true, Nat.zero_add, Option.isNone_some, Option.isNone_none, Bool.not_true, Bool.not_false, List.getElem?_cons_succ, List.getElem?_cons_zero, aS, aI, aP, aW, aY, aO, bX, aA, aM, aJ, aH, aL, bA, bB, bQ, aN, aQ, aR, aG, aT, aC, bE, aV, aE, bD, aF, aK, aB, aZ, aU, aD, c4, n1, d1]
    refine xH o rfl (by simp) fun w1 o1 x1 s1 => ?_
    simp only [List.set_cons_zero, List.set_cons_succ] at o1
    have c5 := o1.cell (off := 5)
    simp only [List.getElem?_cons_zero, List.getElem?_cons_succ] at c5
    unfold dW
    rw [if_pos h1]
    simp (disch := omega) only [bN, dE, aX, bC, cL, cH, cE, cI, cG, cB, dK, cY, bL, cF, cR, cK, cZ, cW, cN, cS, cX, cP, cO, cT, bV, cC, cM, cV, gD, gE, gG, gI, gH, gJ, gA, gF, gB, bG, Result.ok.injEq, Next.value.injEq, true_and, and_true, cA, cD, cU, cQ, cJ, dL, Int.toNat_natCast, bW, bY, bZ, bU, bP, bK, bR, bJ, bH, bF, if_true, if_false, Bool.false_eq_true, Nat.zero_add, Option.isNone_some, Option.isNone_none, Bool.not_true, Bool.not_false, List.getElem?_cons_succ, List.getElem?_cons_zero, aS, aI, aP, aW, aY, aO, bX, aA, aM, aJ, aH, aL, bA, bB, bQ, aN, aQ, aR, aG, aT, aC, bE, aV, aE, bD, aF, aK, aB, aZ, aU, aD, c5]
    exact ⟨o1, x1⟩
  · have d1 : decide (0 < left) = false := by simpa using h1
    have c5 := o.cell (off := 5)
    simp only [List.getElem?_cons_zero, List.getElem?_cons_succ] at c5
    unfold dW
    rw [if_neg h1]
    simp (disch := omega) only [bN, dE, aX, bC, cL, cH, cE, cI, cG, cB, dK, cY, bL, cF, cR, cK, cZ, cW, cN, cS, cX, cP, cO, cT, bV, cC, cM, cV, gD, gE, gG, gI, gH, gJ, gA, gF, gB, bG, Result.ok.injEq, Next.value.injEq, true_and, and_true, cA, cD, cU, cQ, cJ, dL, Int.toNat_natCast, bW, bY, bZ, bU, bP, bK, bR, bJ, bH, bF, if_true, if_false, Bool.false_eq_true, Nat.zero_add, Option.isNone_some, Option.isNone_none, Bool.not_true, Bool.not_false, List.getElem?_cons_succ, List.getElem?_cons_zero, aS, aI, aP, aW, aY, aO, bX, aA, aM, aJ, aH, aL, bA, bB, bQ, aN, aQ, aR, aG, aT, aC, bE, aV, aE, bD, aF, aK, aB, aZ, aU, aD, c4, c5, n1, d1]
    exact ⟨o, dD.refl _ _⟩
def oN (S : pF) (o : qP) : pF × Int :=
  if wM S then ({ S with left := qI S.left, down := wM S }, 20)
  else ({ S with left := qI S.left, down := wM S, under := S.under ++ [o], seen := rX o S.seen }, 0)
theorem wV {p : Nat} {X D : Nat → Prop} {S : pF} {o : qP} {va : Option Addr} {vc : Nat} {w : World} (h : fS w p X D S) (hd : jL w D (.slice va o.bytes.length vc) o.bytes) (hl : -1 ≤ S.left ∧ S.left ≤ 9223372036854775807)
    (hs : eA S.seen ≤ 1099511627776) (ha : o.at' ≤ 1099511627776) (hb : o.bytes.length ≤ 1099511627776) (hu : S.under.length ≤ 1000000) :
    dJ pg eZ #[dP p, .agg (pW o (.slice va o.bytes.length vc)).toArray] w (fun r w' => r = .int .i64 (oN S o).2 ∧ mF w p X D (oN S o).1 w') := by
  refine oK ?_
  unfold nV iG
  refine sZ fun w1 o1 x1 s1 => ?_
  have o1 : eQ w1 w.heap.size (pW o (.slice va o.bytes.length vc)) := o1
  obtain ⟨ms, mn, sv, ls, ln, cs, h1, h2, h3, h4, h5, h6, hXD, hDl, op, hms, hmn, hfs, hfn, hun, hop⟩ := h.new x1
  have h7 := fun b (hb : X b) => hDl b (hXD b hb)
  have hX0 : ∀ b, X b → b < w.heap.size := by obtain ⟨_, _, _, _, _, _, _, _, _, _, _, _, q1, q2, _⟩ := h; exact fun b hb => q2 b (q1 b hb)
  refine (vA op hl).mono ?_
  rintro r w2 ⟨rfl, op2, x2⟩
  have x2X : dD w1 w2 X := x2.mono fun b _ hb => hb ▸ h1
  have x2D : dD w1 w2 D := x2X.mono fun b _ hb => hXD b hb
  have x02 : dD w w2 X := (x1.mono fun _ _ h => h.elim).seq x2X
  have z2 := x2.size
  have hms2 := hms.ext x2 (fun h => h4 h.symm)
  have hmn2 := hmn.ext x2 (fun h => h5 h.symm)
  have hfs2 := hfs.ext x2D (fun b h => h)
  have hfn2 := hfn.ext x2D (fun b h => h)
  have hun2 := hun.ext x2 (fun b hb h => hb.2.1 h)
  have hop2 := hop.ext x2D (fun b h => h)
  have h72 : ∀ b, X b → b < w2.heap.size := fun b hb => by have := h7 b hb; omega
  have hD2 : ∀ b, D b → b < w2.heap.size := fun b hb => by have := hDl b hb; omega
  have hdn : (S.down || S.left == 0) = wM S := rfl
  rw [hdn] at *
  cases hD : wM S with
  | true =>
    have hE : oN S o = ({ S with left := qI S.left, down := wM S }, 20) := by unfold oN; rw [if_pos hD]
    rw [hE]
    simp (disch := omega) only [bN, dE, aX, bC, cL, cH, cE, cI, cG, cB, dK, cY, bL, cF, cR, cK, cZ, cW, cN, cS, cX, cP, cO, cT, bV, cC, cM, cV, gD, gE, gG, gI, gH, gJ, gA, gF, gB, bG, Result.ok.injEq, Next.value.injEq, true_and, and_true, cA, cD, cU, cQ, cJ, dL, Int.toNat_natCast, bW, bY, bZ, bU, bP, bK, bR, bJ, bH, bF, if_true, if_false, Bool.false_eq_true, Nat.zero_add, Option.isNone_some, Option.isNone_none, Bool.not_true, Bool.not_false, List.getElem?_cons_succ, List.getElem?_cons_zero, aS, aI, aP, aW, aY, aO, bX, aA, aM, aJ, aH, aL, bA, bB, bQ, aN, aQ, aR, aG, aT, aC, bE, aV, aE, bD, aF, aK, aB, aZ, aU, aD]
    exact ⟨X, D, ⟨ms, mn, sv, ls, ln, cs, h1, h2, h3, h4, h5, h6, hXD, hD2, op2, hms2, hmn2, hfs2, hfn2, hun2, hop2⟩, fun _ h => .inl h, fun _ h => h, x02⟩
  | false =>
    have hE : oN S o = ({ S with left := qI S.left, down := wM S, under := S.under ++ [o], seen := rX o S.seen }, 0) := by unfold oN; rw [if_neg (by rw [hD]; decide)]
    rw [hE]
    have hb3 : ¬ (w.heap.size = p) := fun h => by have := hX0 p h1; omega
    have o12 := gK (o1.ext x2 hb3)
    have l1 := eF (off := 0) o12 (by unfold pW; simp)
    have l1' : ((pW o (.slice va o.bytes.length vc)).drop 0).take 5 = pW o (.slice va o.bytes.length vc) := rfl
    rw [l1'] at l1
    have op2d := gK op2
    have q3 := op2d.cell (off := 3)
    simp only [List.getElem?_cons_zero, List.getElem?_cons_succ] at q3
    simp (disch := omega) only [bN, dE, aX, bC, cL, cH, cE, cI, cG, cB, dK, cY, bL, cF, cR, cK, cZ, cW, cN, cS, cX, cP, cO, cT, bV, cC, cM, cV, gD, gE, gG, gI, gH, gJ, gA, gF, gB, bG, Result.ok.injEq, Next.value.injEq, true_and, and_true, cA, cD, cU, cQ, cJ, dL, Int.toNat_natCast, bW, bY, bZ, bU, bP, bK, bR, bJ, bH, bF, if_true, if_false, Bool.false_eq_true, Nat.zero_add, Option.isNone_some, Option.isNone_none, Bool.not_true, Bool.not_false, List.getElem?_cons_succ, List.getElem?_cons_zero, aS, aI, aP, aW, aY, aO, bX, aA, aM, aJ, aH, aL, bA, bB, bQ, aN, aQ, aR, aG, aT, aC, bE, aV, aE, bD, aF, aK, aB, aZ, aU, aD, q3, l1]
    refine nM (cells := (pW o (.slice va o.bytes.length vc)).toArray) (by decide) (by decide) (by kernel_rfl) fun w3 o3 x3 s3 => ?_
    have x3 : dD w2 w3 jN := (dD.dr _ _).seq x3
    have z3 := x3.size
    have s3 : w3.heap.size = w2.heap.size + 1 := s3
    have x03 : dD w w3 X := x02.trans x3 fun _ _ h => h.elim
    have op3 := op2.ext x3 (fun h => h)
    have q3 := op3.cell (off := 3)
    have q3d := (gK op3).cell (off := 3)
    simp only [List.getElem?_cons_zero, List.getElem?_cons_succ] at q3 q3d
    have hu3 : uN w3 (fun b => (X b ∧ b ≠ p ∧ b ≠ ms ∧ b ≠ mn) ∨ w3.heap.size ≤ b) 5 sv S.under.length cs := vN (hun2.ext x3 (fun b _ h => h)) fun b h => .inl h
    have o3 : eQ w3 w2.heap.size (pW o (.slice va o.bytes.length vc)) := o3
    simp (disch := omega) only [bN, dE, aX, bC, cL, cH, cE, cI, cG, cB, dK, cY, bL, cF, cR, cK, cZ, cW, cN, cS, cX, cP, cO, cT, bV, cC, cM, cV, gD, gE, gG, gI, gH, gJ, gA, gF, gB, bG, Result.ok.injEq, Next.value.injEq, true_and, and_true, cA, cD, cU, cQ, cJ, dL, Int.toNat_natCast, bW, bY, bZ, bU, bP, bK, bR, bJ, bH, bF, if_true, if_false, Bool.false_eq_true, Nat.zero_add, Option.isNone_some, Option.isNone_none, Bool.not_true, Bool.not_false, List.getElem?_cons_succ, List.getElem?_cons_zero, aS, aI, aP, aW, aY, aO, bX, aA, aM, aJ, aH, aL, bA, bB, bQ, aN, aQ, aR, aG, aT, aC, bE, aV, aE, bD, aF, aK, aB, aZ, aU, aD, q3, q3d]
    refine qD (m := 1) (news := pW o (.slice va o.bytes.length vc)) (i := Try.t65) Try.underlying58 Try.underlying58 sB rfl rfl rfl hu3 (o3.cl (off := 0) (n := 1) rfl (fun i hi => by rw [Nat.zero_add])) (by unfold pW; simp [one]) (fun b hb => .inr hb) (by omega) (by rw [show Try.t65.bytes = 72 from rfl]; omega) (by decide) fun v4 w4 o4 x4 => ?_
    have z4 := x4.size
    have hp3 : p < w3.heap.size := op3.lt
    have hms3 := hms2.ext x3 (fun h => h)
    have hmn3 := hmn2.ext x3 (fun h => h)
    have hmsl := hms3.lt
    have hmnl := hmn3.lt
    have op4 := op3.ext x4 (by rintro (⟨_, h, _⟩ | h) <;> omega)
    have hms4 := hms3.ext x4 (by rintro (⟨_, _, h, _⟩ | h) <;> omega)
    have hmn4 := hmn3.ext x4 (by rintro (⟨_, _, _, h⟩ | h) <;> omega)
    obtain ⟨Y, hY⟩ : ∃ Y : Nat → Prop, Y = fun b => X b ∨ (w3.heap.size ≤ b ∧ b < w4.heap.size) := ⟨_, rfl⟩
    have hYX : ∀ b, X b → Y b := fun b h => by rw [hY]; exact .inl h
    have hY3 : ∀ b, Y b → X b ∨ w3.heap.size ≤ b := fun b h => by rw [hY] at h; rcases h with h | h; exact .inl h; exact .inr h.1
    have hY4 : ∀ b, Y b → b < w4.heap.size := fun b h => by
      rw [hY] at h
      rcases h with h | h
      · have := h72 b h; omega
      · exact h.2
    obtain ⟨E, hE'⟩ : ∃ E : Nat → Prop, E = fun b => D b ∨ (w3.heap.size ≤ b ∧ b < w4.heap.size) := ⟨_, rfl⟩
    have hED : ∀ b, D b → E b := fun b h => by rw [hE']; exact .inl h
    have hYE : ∀ b, Y b → E b := fun b h => by
      rw [hY] at h; rw [hE']
      rcases h with h | h
      · exact .inl (hXD b h)
      · exact .inr h
    have hE3 : ∀ b, E b → D b ∨ w3.heap.size ≤ b := fun b h => by rw [hE'] at h; rcases h with h | h; exact .inl h; exact .inr h.1
    have hE4 : ∀ b, E b → b < w4.heap.size := fun b h => by
      rw [hE'] at h
      rcases h with h | h
      · have := hD2 b h; omega
      · exact h.2
    have dat4 : ∀ v b, jL w3 D v b → jL w4 E v b := fun v b hd => by
      have h1 := (hd.sub (Y := fun b => D b ∨ w3.heap.size ≤ b) fun _ h => h).ext x4 (fun b h => by rcases h with h | h; exact .inl (hXD b h.1); exact .inr h)
      exact h1.sub fun b h => .inl (hE3 b h)
    have dat0 : ∀ v b, jL w2 D v b → jL w4 E v b := fun v b hd => dat4 v b (hd.ext x3 fun _ h => h.elim)
    refine fV op4 (by obtain ⟨a, c, e⟩ := o4.len; rw [e] <;> rfl) (by simp) fun w5 op5 x5 s5 => ?_
    simp only [List.set_cons_zero, List.set_cons_succ] at op5
    have hne4 : p ≠ ms ∧ p ≠ mn := ⟨h4, h5⟩
    have hms5 := hms4.ext x5 (fun h => h4 h.symm)
    have hmn5 := hmn4.ext x5 (fun h => h5 h.symm)
    have x5Y : dD w4 w5 E := x5.mono fun b _ h => by rw [h]; exact hYE _ (hYX _ h1)
    have dat5 : ∀ v b, jL w2 D v b → jL w5 E v b := fun v b hd => (dat0 v b hd).ext x5Y fun _ h => h
    have o15 : eQ w5 w.heap.size (pW o (.slice va o.bytes.length vc)) := by
      have h1 := (o1.ext x2 hb3).ext x3 (fun h => h)
      have h2 := h1.ext x4 (by rintro (⟨h, _⟩ | h); exact absurd (hX0 _ h) (by omega); omega)
      exact h2.ext x5 hb3
    have l5 := eF (off := 0) (gK o15) (by unfold pW; simp)
    rw [l1'] at l5
    have r2 := (gK op5).cell (off := 2)
    simp only [List.getElem?_cons_zero, List.getElem?_cons_succ] at r2
    simp (disch := omega) only [bN, dE, aX, bC, cL, cH, cE, cI, cG, cB, dK, cY, bL, cF, cR, cK, cZ, cW, cN, cS, cX, cP, cO, cT, bV, cC, cM, cV, gD, gE, gG, gI, gH, gJ, gA, gF, gB, bG, Result.ok.injEq, Next.value.injEq, true_and, and_true, cA, cD, cU, cQ, cJ, dL, Int.toNat_natCast, bW, bY, bZ, bU, bP, bK, bR, bJ, bH, bF, if_true, if_false, Bool.false_eq_true, Nat.zero_add, Option.isNone_some, Option.isNone_none, Bool.not_true, Bool.not_false, List.getElem?_cons_succ, List.getElem?_cons_zero, aS, aI, aP, aW, aY, aO, bX, aA, aM, aJ, aH, aL, bA, bB, bQ, aN, aQ, aR, aG, aT, aC, bE, aV, aE, bD, aF, aK, aB, aZ, aU, aD, r2, l5]
    have hd5 : jL w5 E (.slice va o.bytes.length vc) o.bytes := dat5 _ _ ((hd.ext x1 fun _ h => h.elim).ext x2D fun _ h => h)
    have hE5 : ∀ b, E b → b < w5.heap.size := fun b h => by rw [s5]; exact hE4 b h
    refine (zX (X := E) (c := S.seen) (o := o) (hmn5.dr) (hYE _ (hYX _ h3)) hE5 ((hfn2.map dat5).ext (dD.dr _ jN) fun _ h => h.elim) (hd5.ext (dD.dr _ jN) fun _ h => h.elim) hs ha hb).mono ?_
    rintro r w6 ⟨rfl, ln', hmn6, hfn6, x6⟩
    have x6 : dD w5 w6 (fun b => b = mn) := (dD.dr _ _).seq x6
    have x6Y : dD w5 w6 E := x6.mono fun b _ h => by rw [h]; exact hYE _ (hYX _ h3)
    have z6 := x6.size
    have hou : uN w4 (fun b => Y b ∧ b ≠ p ∧ b ≠ ms ∧ b ≠ mn) 5 v4 (S.under.length + 1) (cs ++ pW o (.slice va o.bytes.length vc)) := vN (yI o4) fun b h => by
      rw [hY]
      rcases h with ⟨h | h, h'⟩
      · exact ⟨.inl h.1, h.2⟩
      · exact ⟨.inr ⟨h, h'⟩, by omega, by omega, by omega⟩
    refine ⟨Y, E, ⟨ms, mn, v4, ls, ln', cs ++ pW o (.slice va o.bytes.length vc), hYX _ h1, hYX _ h2, hYX _ h3, h4, h5, h6, hYE, fun b h => by have := hE5 b h; omega, op5.ext x6 (fun h => h5 h), hms5.ext x6 (fun h => h6 h), hmn6, (hfs2.map dat5).ext x6Y fun _ h => h, hfn6, ?_, ?_⟩, fun b h => ?_, hED, ?_⟩
    · show uN w6 _ 5 v4 (S.under ++ [o]).length _
      rw [List.length_append]
      exact (hou.ext x5 (fun b h e => h.2.1 e)).ext x6 (fun b h e => h.2.2.2 e)
    · exact (qM.snoc ⟨_, _, _, rfl⟩ hd5 (hop2.map dat5)).ext x6Y fun _ h => h
    · rcases hY3 b h with h | h
      · exact .inl h
      · exact .inr (by omega)
    · refine ((x03.trans x4 fun b hb h => ?_).trans x5 fun b hb h => by rw [h]; exact h1).trans x6 fun b hb h => by rw [h]; exact h3
      rcases h with h | h
      · exact h.1
      · omega
end Go.Proofs.Ytmhokapokchneaa
namespace Go.Proofs.Ytmhokapokchneaa
open Go Go.En
set_option linter.unusedVariables false
def Ai : Go.Shelf.Ren := ⟨fun x => if x = 5 then fQ else if x = 7 then 36 else x, fun x => if x = 23 then 57 else if x = 25 then 9 else if x = 3 then 23 else if x = 4 then 4 else 20, fun x => x⟩
theorem Ae : SlLaysW.n5 pg Ai where
  mixed := Try.checked.mixed
  f5 := ⟨Try.f27.name, by kernel_rfl, by kernel_rfl⟩
  f7 := by kernel_rfl
  t4 := by kernel_rfl
  a4 := fun w => by kernel_rfl
  z4 := fun w => by kernel_rfl
  v4 := fun w => by kernel_rfl
  t20 := by kernel_rfl
  a20 := fun w => by kernel_rfl
  z20 := fun w => by kernel_rfl
  v20 := fun w => by kernel_rfl
  t23 := by kernel_rfl
  a23 := fun w => by kernel_rfl
  z23 := fun w => by kernel_rfl
  v23 := fun w => by kernel_rfl
theorem tI {m : Nat} {l : List (ByteArray × Value)} {w : World} (hm : Mp w m pV l) :
    dJ pg fQ #[.map (some m)] w (fun r w' => r = .map (some w.heap.size) ∧ Mp w' w.heap.size pV l ∧ dD w w' jN ∧ w'.heap.size = w.heap.size + 1) := by
  obtain ⟨es, c, hb, he, hg, hnd⟩ := hm
  refine ⟨_, _, AnyW.maps_Clone Ae m es c w hb, rfl, ⟨es, c, ?_, he, hg, hnd⟩, dD.alloc _ _ _, ?_⟩
  · show (w.heap.push _)[w.heap.size]? = _
    simp
  · show (w.heap.push _).size = _
    simp
end Go.Proofs.Ytmhokapokchneaa
namespace Go.Proofs.Ytmhokapokchneaa
open Go Go.En Go.Pu
set_option maxRecDepth 4000
set_option linter.unusedSimpArgs false
set_option linter.unusedVariables false
def wG (room : Int) : pF := ⟨room, [], [], [], -1, false⟩
theorem wX {room : Int} {w : World} (h0 : 0 ≤ room) (h1 : room ≤ 16777216) : dJ pg kE #[.int .i64 room] w (fun r w' => ∃ p X, r = .tuple #[dP p, .int .i64 0] ∧ fS w' p X X (wG room) ∧ (∀ b, X b → w.heap.size ≤ b) ∧ dD w w' jN) := by
  refine rW ?_
  unfold tP nE
  have d1 : decide (room < 0) = false := by simp; omega
  have d2 : decide (16777216 < room) = false := by simp; omega
  simp (disch := omega) only [bN, dE, aX, bC, cL, cH, cE, cI, cG, cB, dK, cY, bL, cF, cR, cK, cZ, cW, cN, cS, cX, cP, cO, cT, bV, cC, cM, cV, gD, gE, gG, gI, gH, gJ, gA, gF, gB, bG, Result.ok.injEq, Next.value.injEq, true_and, and_true, cA, cD, cU, cQ, cJ, dL, Int.toNat_natCast, bW, bY, bZ, bU, bP, bK, bR, bJ, bH, bF, if_true, if_false, Bool.false_eq_true, Nat.zero_add, Option.isNone_some, Option.isNone_none, Bool.not_true, Bool.not_false, List.getElem?_cons_succ, List.getElem?_cons_zero, aS, aI, aP, aW, aY, aO, bX, aA, aM, aJ, aH, aL, bA, bB, bQ, aN, aQ, aR, aG, aT, aC, bE, aV, aE, bD, aF, aK, aB, aZ, aU, aD, d1, d2]
  refine oS fun w1 m1 x1 s1 => ?_
  refine oS fun w2 m2 x2 s2 => ?_
  simp (disch := omega) only [bN, dE, aX, bC, cL, cH, cE, cI, cG, cB, dK, cY, bL, cF, cR, cK, cZ, cW, cN, cS, cX, cP, cO, cT, bV, cC, cM, cV, gD, gE, gG, gI, gH, gJ, gA, gF, gB, bG, Result.ok.injEq, Next.value.injEq, true_and, and_true, cA, cD, cU, cQ, cJ, dL, Int.toNat_natCast, bW, bY, bZ, bU, bP, bK, bR, bJ, bH, bF, if_true, if_false, Bool.false_eq_true, Nat.zero_add, Option.isNone_some, Option.isNone_none, Bool.not_true, Bool.not_false, List.getElem?_cons_succ, List.getElem?_cons_zero, aS, aI, aP, aW, aY, aO, bX, aA, aM, aJ, aH, aL, bA, bB, bQ, aN, aQ, aR, aG, aT, aC, bE, aV, aE, bD, aF, aK, aB, aZ, aU, aD]
  refine sZ fun w3 o3 x3 s3 => ?_
  have o3 : eQ w3 w2.heap.size [.int .i64 room, .map (some w.heap.size), .map (some w1.heap.size), .slice none 0 0, .int .i64 (-1), .bool false] := o3
  refine ⟨w2.heap.size, fun b => w.heap.size ≤ b ∧ b < w3.heap.size, rfl, ⟨w.heap.size, w1.heap.size, .slice none 0 0, [], [], [], ⟨by omega, by omega⟩, ⟨by omega, by omega⟩, ⟨by omega, by omega⟩, by omega, by omega, by omega, fun _ h => h, fun b h => h.2, o3, (m1.ext x2 (fun h => h)).ext x3 (fun h => h), m2.ext x3 (fun h => h), trivial, trivial, ⟨rfl, .inl ⟨rfl, rfl⟩⟩, rfl⟩, fun b h => h.1, (x1.seq x2).seq x3⟩
structure wO (S : pF) : Prop where
  left : -1 ≤ S.left ∧ S.left ≤ 9223372036854775807
  seen : eA S.seen ≤ 1099511627776
  under : S.under.length ≤ 1000000
  room : 0 ≤ S.room ∧ S.room ≤ 16777216
theorem jL.slice {w : World} {X : Nat → Prop} {v : Value} {b : List UInt8} (h : jL w X v b) : ∃ a c, v = .slice a b.length c := by
  obtain ⟨a, c, e, _⟩ := h.1.len
  rw [List.length_map] at e
  exact ⟨a, c, e⟩
theorem qF.dat {w w0 : World} {X : Nat → Prop} {v : Value} {l : List UInt8} (h : qF w w0.heap.size 1 v l.length (l.map pM)) (hX : ∀ b, X b → b < w0.heap.size) : jL w X v l := by
  refine ⟨h.sl, fun hi => ?_⟩
  rcases h.2 with ⟨rfl, _⟩ | ⟨b, c, rest, rfl, h2, _⟩
  · exact hi
  · unfold sF at hi
    split at hi
    · rename_i e
      simp only [Value.slice.injEq, Option.some.injEq] at e
      obtain ⟨rfl, _⟩ := e
      have hi : X b := hi
      have := hX _ hi
      omega
    · exact hi
theorem fS.lt {w : World} {p : Nat} {X D : Nat → Prop} {S : pF} (h : fS w p X D S) : ∀ b, D b → b < w.heap.size := by
  obtain ⟨_, _, _, _, _, _, _, _, _, _, _, _, _, h7, _⟩ := h; exact h7
def sO (S : pF) (name : ByteArray) : List UInt8 := (kG name S.seen).getD []
def zP (S : pF) (name : ByteArray) (a : Int) (n : Nat) : Int :=
  if S.down then 20 else if sS name = false ∨ a < 0 then 1 else if ((sO S name).length : Int) < a then 17
  else if S.room < eA S.seen + max (a + n - (sO S name).length) 0 then 22 else 0
def vR (S : pF) (name : ByteArray) (a : Int) (l : List UInt8) : pF × Int :=
  if zP S name a l.length = 0 then oN S ⟨0, name, ⟨#[]⟩, a.toNat, l⟩ else (S, zP S name a l.length)
theorem nG {p : Nat} {X D : Nat → Prop} {S : pF} {name : ByteArray} {a : Int} {bv : Value} {l : List UInt8} {w : World} (h : fS w p X D S) (hB : wO S) (hb : Bs w bv l) (hl : l.length ≤ 1000000000) (ha : a ≤ 9000000000000000000) (ha' : -9223372036854775808 ≤ a) :
    dJ pg dO #[dP p, .string name, .int .i64 a, bv] w (fun r w' => r = .int .i64 (vR S name a l).2 ∧ mF w p X D (vR S name a l).1 w') := by
  refine nW ?_
  unfold lQ hO
  obtain ⟨ba, bc, rfl, _⟩ := hb.len
  rw [List.length_map] at hb
  rw [List.length_map]
  obtain ⟨E, hE⟩ : ∃ E, zP S name a l.length = E := ⟨_, rfl⟩
  have hW : ∀ e, E = e → e ≠ 0 → vR S name a l = (S, e) := fun e h1 h2 => by unfold vR; rw [hE, h1, if_neg h2]
  refine (yU h).mono ?_
  rintro r w1 ⟨rfl, rfl⟩
  have hE0 := hE
  unfold zP at hE
  by_cases hd : S.down = true
  · rw [if_pos hd] at hE
    rw [hW 20 hE.symm (by decide), if_pos hd]
    have n1 : ((20 : Int) != 0) = true := rfl
    simp (disch := omega) only [bN, dE, aX, bC, cL, cH, cE, cI, cG, cB, dK, cY, bL, cF, cR, cK, cZ, cW, cN, cS, cX, cP, cO, cT, bV, cC, cM, cV, gD, gE, gG, gI, gH, gJ, gA, gF, gB, bG, Result.ok.injEq, Next.value.injEq, true_and, and_true, cA, cD, cU, cQ, cJ, dL, Int.toNat_natCast, bW, bY, bZ, bU, bP, bK, bR, bJ, bH, bF, if_true, if_false, Bool.false_eq_true, Nat.zero_add, Option.isNone_some, Option.isNone_none, Bool.not_true, Bool.not_false, List.getElem?_cons_succ, List.getElem?_cons_zero, aS, aI, aP, aW, aY, aO, bX, aA, aM, aJ, aH, aL, bA, bB, bQ, aN, aQ, aR, aG, aT, aC, bE, aV, aE, bD, aF, aK, aB, aZ, aU, aD, n1]
    exact mF.refl h
  rw [if_neg hd] at hE
  rw [if_neg hd]
  have n1 : ((0 : Int) != 0) = false := rfl
  have h' := h
  obtain ⟨ms, mn, sv, ls, ln, cs, h1, h2, h3, h4, h5, h6, hXD, hDl, op, hms, hmn, hfs, hfn, hun, hop⟩ := h'
  have h7 : ∀ b, X b → b < w1.heap.size := fun b hb => hDl b (hXD b hb)
  have c2 := op.cell (off := 2)
  have c0d := (gK op).cell (off := 0)
  have c2d := (gK op).cell (off := 2)
  simp only [List.getElem?_cons_zero, List.getElem?_cons_succ] at c2 c0d c2d
  obtain ⟨oa, oc, ob, l0, hob⟩ : ∃ (oa : Option Addr) (oc : Nat) (ob : List UInt8), (jP 57 (.map (some mn)) (.string name) false).run pg w1 = .ok (.value (.slice oa ob.length oc)) w1 ∧ sO S name = ob := by
    have l0 := qV hmn name
    unfold sO
    rcases hfn.get name with ⟨q1, q2⟩ | ⟨v, b, q1, q2, q3⟩
    · rw [q1] at l0
      exact ⟨none, 0, [], l0, by rw [q2] <;> rfl⟩
    · obtain ⟨a', c', rfl⟩ := jL.slice q3
      rw [q1] at l0
      exact ⟨a', c', b, l0, by rw [q2] <;> rfl⟩
  rw [hob] at hE
  have holdlen : ob.length ≤ 1099511627776 := by rw [← hob]; have := sE (k := name) (c := S.seen); have := hB.seen; unfold sO; omega
  simp (disch := omega) only [bN, dE, aX, bC, cL, cH, cE, cI, cG, cB, dK, cY, bL, cF, cR, cK, cZ, cW, cN, cS, cX, cP, cO, cT, bV, cC, cM, cV, gD, gE, gG, gI, gH, gJ, gA, gF, gB, bG, Result.ok.injEq, Next.value.injEq, true_and, and_true, cA, cD, cU, cQ, cJ, dL, Int.toNat_natCast, bW, bY, bZ, bU, bP, bK, bR, bJ, bH, bF, if_true, if_false, Bool.false_eq_true, Nat.zero_add, Option.isNone_some, Option.isNone_none, Bool.not_true, Bool.not_false, List.getElem?_cons_succ, List.getElem?_cons_zero, aS, aI, aP, aW, aY, aO, bX, aA, aM, aJ, aH, aL, bA, bB, bQ, aN, aQ, aR, aG, aT, aC, bE, aV, aE, bD, aF, aK, aB, aZ, aU, aD, n1, c2, l0]
  refine (zS name _).mono ?_
  rintro r w2 ⟨rfl, hw⟩
  rw [hw]; clear hw w2
  by_cases hmay : sS name = false
  · rw [if_pos (.inl hmay)] at hE
    rw [hW 1 hE.symm (by decide), hmay]
    simp (disch := omega) only [bN, dE, aX, bC, cL, cH, cE, cI, cG, cB, dK, cY, bL, cF, cR, cK, cZ, cW, cN, cS, cX, cP, cO, cT, bV, cC, cM, cV, gD, gE, gG, gI, gH, gJ, gA, gF, gB, bG, Result.ok.injEq, Next.value.injEq, true_and, and_true, cA, cD, cU, cQ, cJ, dL, Int.toNat_natCast, bW, bY, bZ, bU, bP, bK, bR, bJ, bH, bF, if_true, if_false, Bool.false_eq_true, Nat.zero_add, Option.isNone_some, Option.isNone_none, Bool.not_true, Bool.not_false, List.getElem?_cons_succ, List.getElem?_cons_zero, aS, aI, aP, aW, aY, aO, bX, aA, aM, aJ, aH, aL, bA, bB, bQ, aN, aQ, aR, aG, aT, aC, bE, aV, aE, bD, aF, aK, aB, aZ, aU, aD]
    exact mF.refl h
  have hmay : sS name = true := by cases hq : sS name with | true => rfl | false => exact absurd hq hmay
  rw [hmay] at hE ⊢
  by_cases ha0 : a < 0
  · have d1 : decide (a < 0) = true := by simpa using ha0
    rw [if_pos (.inr ha0)] at hE
    rw [hW 1 hE.symm (by decide)]
    simp (disch := omega) only [bN, dE, aX, bC, cL, cH, cE, cI, cG, cB, dK, cY, bL, cF, cR, cK, cZ, cW, cN, cS, cX, cP, cO, cT, bV, cC, cM, cV, gD, gE, gG, gI, gH, gJ, gA, gF, gB, bG, Result.ok.injEq, Next.value.injEq, true_and, and_true, cA, cD, cU, cQ, cJ, dL, Int.toNat_natCast, bW, bY, bZ, bU, bP, bK, bR, bJ, bH, bF, if_true, if_false, Bool.false_eq_true, Nat.zero_add, Option.isNone_some, Option.isNone_none, Bool.not_true, Bool.not_false, List.getElem?_cons_succ, List.getElem?_cons_zero, aS, aI, aP, aW, aY, aO, bX, aA, aM, aJ, aH, aL, bA, bB, bQ, aN, aQ, aR, aG, aT, aC, bE, aV, aE, bD, aF, aK, aB, aZ, aU, aD, d1]
    exact mF.refl h
  have d1 : decide (a < 0) = false := by simpa using ha0
  rw [if_neg (by rintro (h | h); cases h; exact ha0 h)] at hE
  by_cases ha1 : (ob.length : Int) < a
  · have d2 : decide ((ob.length : Int) < a) = true := by simpa using ha1
    rw [if_pos ha1] at hE
    rw [hW 17 hE.symm (by decide)]
    simp (disch := omega) only [bN, dE, aX, bC, cL, cH, cE, cI, cG, cB, dK, cY, bL, cF, cR, cK, cZ, cW, cN, cS, cX, cP, cO, cT, bV, cC, cM, cV, gD, gE, gG, gI, gH, gJ, gA, gF, gB, bG, Result.ok.injEq, Next.value.injEq, true_and, and_true, cA, cD, cU, cQ, cJ, dL, Int.toNat_natCast, bW, bY, bZ, bU, bP, bK, bR, bJ, bH, bF, if_true, if_false, Bool.false_eq_true, Nat.zero_add, Option.isNone_some, Option.isNone_none, Bool.not_true, Bool.not_false, List.getElem?_cons_succ, List.getElem?_cons_zero, aS, aI, aP, aW, aY, aO, bX, aA, aM, aJ, aH, aL, bA, bB, bQ, aN, aQ, aR, aG, aT, aC, bE, aV, aE, bD, aF, aK, aB, aZ, aU, aD, d1, d2]
    exact mF.refl h
  have d2 : decide ((ob.length : Int) < a) = false := by simpa using ha1
  rw [if_neg ha1] at hE
  have hbs := hB.seen
  have hbr := hB.room
  obtain ⟨k, rfl⟩ : ∃ k : Nat, a = k := ⟨a.toNat, by omega⟩
  simp (disch := omega) only [bN, dE, aX, bC, cL, cH, cE, cI, cG, cB, dK, cY, bL, cF, cR, cK, cZ, cW, cN, cS, cX, cP, cO, cT, bV, cC, cM, cV, gD, gE, gG, gI, gH, gJ, gA, gF, gB, bG, Result.ok.injEq, Next.value.injEq, true_and, and_true, cA, cD, cU, cQ, cJ, dL, Int.toNat_natCast, bW, bY, bZ, bU, bP, bK, bR, bJ, bH, bF, if_true, if_false, Bool.false_eq_true, Nat.zero_add, Option.isNone_some, Option.isNone_none, Bool.not_true, Bool.not_false, List.getElem?_cons_succ, List.getElem?_cons_zero, aS, aI, aP, aW, aY, aO, bX, aA, aM, aJ, aH, aL, bA, bB, bQ, aN, aQ, aR, aG, aT, aC, bE, aV, aE, bD, aF, aK, aB, aZ, aU, aD, d1, d2, c2d]
  refine (zL (c := S.seen) hmn.dr (hfn.ext (dD.dr _ jN) fun _ h => h.elim) hbs).mono ?_
  rintro r w2 ⟨rfl, x2⟩
  have x2 : dD w1 w2 jN := (dD.dr _ _).seq x2
  have op2 := op.ext x2 (fun h => h)
  have r0 := op2.cell (off := 0)
  have r0d := (gK op2).cell (off := 0)
  simp only [List.getElem?_cons_zero, List.getElem?_cons_succ] at r0 r0d
  have e1 : (k : Int) + (l.length : Int) = ((k + l.length : Nat) : Int) := by omega
  obtain ⟨q, hq⟩ : ∃ q : Nat, max (((k + l.length : Nat) : Int) - (ob.length : Int)) 0 = q := ⟨(max (((k + l.length : Nat) : Int) - (ob.length : Int)) 0).toNat, by omega⟩
  have hmax : (if (0 : Int) > ((k + l.length : Nat) : Int) - (ob.length : Int) then (0 : Int) else ((k + l.length : Nat) : Int) - (ob.length : Int)) = (q : Nat) := by
    split <;> omega
  have e2 : ((eA S.seen : Nat) : Int) + (q : Int) = ((eA S.seen + q : Nat) : Int) := by omega
  rw [e1, hq, e2] at hE
  by_cases hsp : S.room < ((eA S.seen + q : Nat) : Int)
  · have d3 : decide (S.room < ((eA S.seen + q : Nat) : Int)) = true := by simpa using hsp
    rw [if_pos hsp] at hE
    rw [hW 22 hE.symm (by decide)]
    simp (disch := omega) only [bN, dE, aX, bC, cL, cH, cE, cI, cG, cB, dK, cY, bL, cF, cR, cK, cZ, cW, cN, cS, cX, cP, cO, cT, bV, cC, cM, cV, gD, gE, gG, gI, gH, gJ, gA, gF, gB, bG, Result.ok.injEq, Next.value.injEq, true_and, and_true, cA, cD, cU, cQ, cJ, dL, Int.toNat_natCast, bW, bY, bZ, bU, bP, bK, bR, bJ, bH, bF, if_true, if_false, Bool.false_eq_true, Nat.zero_add, Option.isNone_some, Option.isNone_none, Bool.not_true, Bool.not_false, List.getElem?_cons_succ, List.getElem?_cons_zero, aS, aI, aP, aW, aY, aO, bX, aA, aM, aJ, aH, aL, bA, bB, bQ, aN, aQ, aR, aG, aT, aC, bE, aV, aE, bD, aF, aK, aB, aZ, aU, aD, d1, d2, r0, r0d, c0d, e1, hmax, e2, d3]
    exact ⟨X, D, h.new x2, fun _ h => .inl h, fun _ h => h, x2.mono fun _ _ h => h.elim⟩
  have d3 : decide (S.room < ((eA S.seen + q : Nat) : Int)) = false := by simpa using hsp
  rw [if_neg hsp] at hE
  have hW0 : vR S name k l = oN S ⟨0, name, ⟨#[]⟩, k, l⟩ := by unfold vR; rw [hE0, ← hE, if_pos rfl, Int.toNat_natCast]
  rw [hW0]
  simp (disch := omega) only [bN, dE, aX, bC, cL, cH, cE, cI, cG, cB, dK, cY, bL, cF, cR, cK, cZ, cW, cN, cS, cX, cP, cO, cT, bV, cC, cM, cV, gD, gE, gG, gI, gH, gJ, gA, gF, gB, bG, Result.ok.injEq, Next.value.injEq, true_and, and_true, cA, cD, cU, cQ, cJ, dL, Int.toNat_natCast, bW, bY, bZ, bU, bP, bK, bR, bJ, bH, bF, if_true, if_false, Bool.false_eq_true, Nat.zero_add, Option.isNone_some, Option.isNone_none, Bool.not_true, Bool.not_false, List.getElem?_cons_succ, List.getElem?_cons_zero, aS, aI, aP, aW, aY, aO, bX, aA, aM, aJ, aH, aL, bA, bB, bQ, aN, aQ, aR, aG, aT, aC, bE, aV, aE, bD, aF, aK, aB, aZ, aU, aD, d1, d2, r0, r0d, c0d, e1, hmax, e2, d3]
  refine (uY (hb.ext x2 (oB _)) hl).mono ?_
  rintro r w3 ⟨ho, x3⟩
  obtain ⟨va, vc, rfl⟩ := ho.len
  have h2' := h.new x2
  have hd3 : jL w3 D (.slice va l.length vc) l := qF.dat ho fun b hb => fS.lt h2' b hb
  have opE : pW ⟨0, name, ⟨#[]⟩, k, l⟩ (.slice va l.length vc) = [.int .i64 0, .string name, .string ⟨#[]⟩, .int .i64 k, .slice va l.length vc] := rfl
  have hdn := wV (o := ⟨0, name, ⟨#[]⟩, k, l⟩) (h2'.new x3) hd3 hB.left hbs (show k ≤ 1099511627776 by omega) (show l.length ≤ 1099511627776 by omega) hB.under
  rw [opE] at hdn
  simp (disch := omega) only [bN, dE, aX, bC, cL, cH, cE, cI, cG, cB, dK, cY, bL, cF, cR, cK, cZ, cW, cN, cS, cX, cP, cO, cT, bV, cC, cM, cV, gD, gE, gG, gI, gH, gJ, gA, gF, gB, bG, Result.ok.injEq, Next.value.injEq, true_and, and_true, cA, cD, cU, cQ, cJ, dL, Int.toNat_natCast, bW, bY, bZ, bU, bP, bK, bR, bJ, bH, bF, if_true, if_false, Bool.false_eq_true, Nat.zero_add, Option.isNone_some, Option.isNone_none, Bool.not_true, Bool.not_false, List.getElem?_cons_succ, List.getElem?_cons_zero, aS, aI, aP, aW, aY, aO, bX, aA, aM, aJ, aH, aL, bA, bB, bQ, aN, aQ, aR, aG, aT, aC, bE, aV, aE, bD, aF, aK, aB, aZ, aU, aD]
  refine hdn.mono ?_
  rintro r w4 ⟨rfl, hp⟩
  exact ⟨rfl, mF.step ((x2.seq x3).mono fun _ _ h => h.elim) (fun _ h => .inl h) (fun _ h => h) hp⟩
theorem vE {p : Nat} {X D : Nat → Prop} {S : pF} {name : ByteArray} {w : World} (h : fS w p X D S) (hB : wO S) (hsz : ∀ b, kG name S.seen = some b → b.length ≤ 1000000000) :
    dJ pg eX #[dP p, .string name] w (fun r w' => ((S.down = true ∧ r = .tuple #[.slice none 0 0, .int .i64 20]) ∨ (S.down = false ∧ kG name S.seen = none ∧ r = .tuple #[.slice none 0 0, .int .i64 21]) ∨
      (S.down = false ∧ ∃ b v, kG name S.seen = some b ∧ r = .tuple #[v, .int .i64 0] ∧ qF w' w.heap.size 1 v b.length (b.map pM))) ∧ dD w w' jN) := by
  refine oJ ?_
  obtain ⟨RR, hRR⟩ : ∃ RR : Value → World → Prop, RR = fun r w' => ((S.down = true ∧ r = .tuple #[.slice none 0 0, .int .i64 20]) ∨ (S.down = false ∧ kG name S.seen = none ∧ r = .tuple #[.slice none 0 0, .int .i64 21]) ∨
      (S.down = false ∧ ∃ b v, kG name S.seen = some b ∧ r = .tuple #[v, .int .i64 0] ∧ qF w' w.heap.size 1 v b.length (b.map pM))) ∧ dD w w' jN := ⟨_, rfl⟩
  rw [← hRR]
  unfold nD iJ
  refine (yU h).mono ?_
  rintro r w1 ⟨rfl, rfl⟩
  by_cases hd : S.down = true
  · rw [if_pos hd]
    have n1 : ((20 : Int) != 0) = true := rfl
    simp (disch := omega) only [bN, dE, aX, bC, cL, cH, cE, cI, cG, cB, dK, cY, bL, cF, cR, cK, cZ, cW, cN, cS, cX, cP, cO, cT, bV, cC, cM, cV, gD, gE, gG, gI, gH, gJ, gA, gF, gB, bG, Result.ok.injEq, Next.value.injEq, true_and, and_true, cA, cD, cU, cQ, cJ, dL, Int.toNat_natCast, bW, bY, bZ, bU, bP, bK, bR, bJ, bH, bF, if_true, if_false, Bool.false_eq_true, Nat.zero_add, Option.isNone_some, Option.isNone_none, Bool.not_true, Bool.not_false, List.getElem?_cons_succ, List.getElem?_cons_zero, aS, aI, aP, aW, aY, aO, bX, aA, aM, aJ, aH, aL, bA, bB, bQ, aN, aQ, aR, aG, aT, aC, bE, aV, aE, bD, aF, aK, aB, aZ, aU, aD, n1]
    rw [hRR]
    exact ⟨.inl ⟨hd, rfl⟩, dD.refl _ _⟩
  have hd' : S.down = false := by cases hq : S.down with | true => exact absurd hq hd | false => rfl
  rw [if_neg hd]
  have n1 : ((0 : Int) != 0) = false := rfl
  obtain ⟨ms, mn, sv, ls, ln, cs, h1, h2, h3, h4, h5, h6, hXD, hDl, op, hms, hmn, hfs, hfn, hun, hop⟩ := h
  have h7 := fun b (hb : X b) => hDl b (hXD b hb)
  have c2 := op.cell (off := 2)
  simp only [List.getElem?_cons_zero, List.getElem?_cons_succ] at c2
  have l0 := kP hmn name
  rcases hfn.get name with ⟨q1, q2⟩ | ⟨v, b, q1, q2, q3⟩
  · rw [q1] at l0
    have l0 : (jP 57 (.map (some mn)) (.string name) true).run pg w1 = .ok (.value (.tuple #[.slice none 0 0, .bool false])) w1 := l0
    simp (disch := omega) only [bN, dE, aX, bC, cL, cH, cE, cI, cG, cB, dK, cY, bL, cF, cR, cK, cZ, cW, cN, cS, cX, cP, cO, cT, bV, cC, cM, cV, gD, gE, gG, gI, gH, gJ, gA, gF, gB, bG, Result.ok.injEq, Next.value.injEq, true_and, and_true, cA, cD, cU, cQ, cJ, dL, Int.toNat_natCast, bW, bY, bZ, bU, bP, bK, bR, bJ, bH, bF, if_true, if_false, Bool.false_eq_true, Nat.zero_add, Option.isNone_some, Option.isNone_none, Bool.not_true, Bool.not_false, List.getElem?_cons_succ, List.getElem?_cons_zero, aS, aI, aP, aW, aY, aO, bX, aA, aM, aJ, aH, aL, bA, bB, bQ, aN, aQ, aR, aG, aT, aC, bE, aV, aE, bD, aF, aK, aB, aZ, aU, aD, n1, c2, l0]
    rw [hRR]
    exact ⟨.inr (.inl ⟨hd', q2, rfl⟩), dD.refl _ _⟩
  · obtain ⟨a', c', rfl⟩ := jL.slice q3
    rw [q1] at l0
    have l0 : (jP 57 (.map (some mn)) (.string name) true).run pg w1 = .ok (.value (.tuple #[.slice a' b.length c', .bool true])) w1 := l0
    simp (disch := omega) only [bN, dE, aX, bC, cL, cH, cE, cI, cG, cB, dK, cY, bL, cF, cR, cK, cZ, cW, cN, cS, cX, cP, cO, cT, bV, cC, cM, cV, gD, gE, gG, gI, gH, gJ, gA, gF, gB, bG, Result.ok.injEq, Next.value.injEq, true_and, and_true, cA, cD, cU, cQ, cJ, dL, Int.toNat_natCast, bW, bY, bZ, bU, bP, bK, bR, bJ, bH, bF, if_true, if_false, Bool.false_eq_true, Nat.zero_add, Option.isNone_some, Option.isNone_none, Bool.not_true, Bool.not_false, List.getElem?_cons_succ, List.getElem?_cons_zero, aS, aI, aP, aW, aY, aO, bX, aA, aM, aJ, aH, aL, bA, bB, bQ, aN, aQ, aR, aG, aT, aC, bE, aV, aE, bD, aF, aK, aB, aZ, aU, aD, n1, c2, l0]
    refine (uY q3.1 (hsz b q2)).mono ?_
    rintro r w2 ⟨ho, x2⟩
    rw [hRR]
    exact ⟨.inr (.inr ⟨hd', b, r, q2, rfl, ho⟩), x2⟩
theorem wB {p : Nat} {X D : Nat → Prop} {S : pF} {w : World} (h : fS w p X D S) : dJ pg eT #[dP p] w (fun r w' => r = .int .i64 (S.under.length : Nat) ∧ w' = w) := by
  refine lP ?_
  unfold kK fW
  obtain ⟨ms, mn, sv, ls, ln, cs, h1, h2, h3, h4, h5, h6, hXD, hDl, op, hms, hmn, hfs, hfn, hun, hop⟩ := h
  have h7 := fun b (hb : X b) => hDl b (hXD b hb)
  have c3 := op.cell (off := 3)
  simp only [List.getElem?_cons_zero, List.getElem?_cons_succ] at c3
  obtain ⟨ua, uc, rfl⟩ := hun.len
  simp (disch := omega) only [bN, dE, aX, bC, cL, cH, cE, cI, cG, cB, dK, cY, bL, cF, cR, cK, cZ, cW, cN, cS, cX, cP, cO, cT, bV, cC, cM, cV, gD, gE, gG, gI, gH, gJ, gA, gF, gB, bG, Result.ok.injEq, Next.value.injEq, true_and, and_true, cA, cD, cU, cQ, cJ, dL, Int.toNat_natCast, bW, bY, bZ, bU, bP, bK, bR, bJ, bH, bF, if_true, if_false, Bool.false_eq_true, Nat.zero_add, Option.isNone_some, Option.isNone_none, Bool.not_true, Bool.not_false, List.getElem?_cons_succ, List.getElem?_cons_zero, aS, aI, aP, aW, aY, aO, bX, aA, aM, aJ, aH, aL, bA, bB, bQ, aN, aQ, aR, aG, aT, aC, bE, aV, aE, bD, aF, aK, aB, aZ, aU, aD, c3]
def zO (S : pF) (name : ByteArray) : pF × Int := if S.down then (S, 20) else if (kG name S.seen).isNone then (S, 21) else oN S ⟨2, name, ⟨#[]⟩, 0, []⟩
theorem wK {p : Nat} {X D : Nat → Prop} {S : pF} {name : ByteArray} {w : World} (h : fS w p X D S) (hB : wO S) :
    dJ pg fE #[dP p, .string name] w (fun r w' => r = .int .i64 (zO S name).2 ∧ mF w p X D (zO S name).1 w') := by
  refine mB ?_
  unfold kX gO zO
  refine (yU h).mono ?_
  rintro r w1 ⟨rfl, rfl⟩
  by_cases hd : S.down = true
  · rw [if_pos hd, if_pos hd]
    have n1 : ((20 : Int) != 0) = true := rfl
    simp (disch := omega) only [bN, dE, aX, bC, cL, cH, cE, cI, cG, cB, dK, cY, bL, cF, cR, cK, cZ, cW, cN, cS, cX, cP, cO, cT, bV, cC, cM, cV, gD, gE, gG, gI, gH, gJ, gA, gF, gB, bG, Result.ok.injEq, Next.value.injEq, true_and, and_true, cA, cD, cU, cQ, cJ, dL, Int.toNat_natCast, bW, bY, bZ, bU, bP, bK, bR, bJ, bH, bF, if_true, if_false, Bool.false_eq_true, Nat.zero_add, Option.isNone_some, Option.isNone_none, Bool.not_true, Bool.not_false, List.getElem?_cons_succ, List.getElem?_cons_zero, aS, aI, aP, aW, aY, aO, bX, aA, aM, aJ, aH, aL, bA, bB, bQ, aN, aQ, aR, aG, aT, aC, bE, aV, aE, bD, aF, aK, aB, aZ, aU, aD, n1]
    exact mF.refl h
  rw [if_neg hd, if_neg hd]
  have n1 : ((0 : Int) != 0) = false := rfl
  have h' := h
  obtain ⟨ms, mn, sv, ls, ln, cs, h1, h2, h3, h4, h5, h6, hXD, hDl, op, hms, hmn, hfs, hfn, hun, hop⟩ := h'
  have h7 : ∀ b, X b → b < w1.heap.size := fun b hb => hDl b (hXD b hb)
  have c2 := op.cell (off := 2)
  simp only [List.getElem?_cons_zero, List.getElem?_cons_succ] at c2
  have l0 := kP hmn name
  rcases hfn.get name with ⟨q1, q2⟩ | ⟨v, b, q1, q2, q3⟩
  · rw [q1] at l0
    have l0 : (jP 57 (.map (some mn)) (.string name) true).run pg w1 = .ok (.value (.tuple #[.slice none 0 0, .bool false])) w1 := l0
    rw [q2, if_pos (show (none : Option (List UInt8)).isNone = true from rfl)]
    simp (disch := omega) only [bN, dE, aX, bC, cL, cH, cE, cI, cG, cB, dK, cY, bL, cF, cR, cK, cZ, cW, cN, cS, cX, cP, cO, cT, bV, cC, cM, cV, gD, gE, gG, gI, gH, gJ, gA, gF, gB, bG, Result.ok.injEq, Next.value.injEq, true_and, and_true, cA, cD, cU, cQ, cJ, dL, Int.toNat_natCast, bW, bY, bZ, bU, bP, bK, bR, bJ, bH, bF, if_true, if_false, Bool.false_eq_true, Nat.zero_add, Option.isNone_some, Option.isNone_none, Bool.not_true, Bool.not_false, List.getElem?_cons_succ, List.getElem?_cons_zero, aS, aI, aP, aW, aY, aO, bX, aA, aM, aJ, aH, aL, bA, bB, bQ, aN, aQ, aR, aG, aT, aC, bE, aV, aE, bD, aF, aK, aB, aZ, aU, aD, n1, c2, l0]
    exact mF.refl h
  · obtain ⟨a', c', rfl⟩ := jL.slice q3
    rw [q1] at l0
    have l0 : (jP 57 (.map (some mn)) (.string name) true).run pg w1 = .ok (.value (.tuple #[.slice a' b.length c', .bool true])) w1 := l0
    rw [q2, if_neg (show ¬ (some b).isNone = true by simp)]
    have hdn := wV (o := ⟨2, name, ⟨#[]⟩, 0, []⟩) (va := none) (vc := 0) h ⟨Sl.nil _, fun h => h⟩ hB.left hB.seen (show 0 ≤ _ by omega) (show 0 ≤ _ by omega) hB.under
    have opE : pW ⟨2, name, ⟨#[]⟩, 0, []⟩ (.slice none ([] : List UInt8).length 0) = [.int .i64 2, .string name, .string ⟨#[]⟩, .int .i64 0, .slice none 0 0] := rfl
    rw [opE] at hdn
    simp (disch := omega) only [bN, dE, aX, bC, cL, cH, cE, cI, cG, cB, dK, cY, bL, cF, cR, cK, cZ, cW, cN, cS, cX, cP, cO, cT, bV, cC, cM, cV, gD, gE, gG, gI, gH, gJ, gA, gF, gB, bG, Result.ok.injEq, Next.value.injEq, true_and, and_true, cA, cD, cU, cQ, cJ, dL, Int.toNat_natCast, bW, bY, bZ, bU, bP, bK, bR, bJ, bH, bF, if_true, if_false, Bool.false_eq_true, Nat.zero_add, Option.isNone_some, Option.isNone_none, Bool.not_true, Bool.not_false, List.getElem?_cons_succ, List.getElem?_cons_zero, aS, aI, aP, aW, aY, aO, bX, aA, aM, aJ, aH, aL, bA, bB, bQ, aN, aQ, aR, aG, aT, aC, bE, aV, aE, bD, aF, aK, aB, aZ, aU, aD, n1, c2, l0]
    exact hdn
end Go.Proofs.Ytmhokapokchneaa
namespace Go.Proofs.Ytmhokapokchneaa
open Go Go.En Go.Pu
set_option maxRecDepth 4000
set_option linter.unusedSimpArgs false
set_option linter.unusedVariables false
def Ac (S : pF) : pF × Int :=
  if S.down then (S, 20) else if wM S then ({ S with left := qI S.left, down := wM S }, 20)
  else ({ S with left := qI S.left, down := wM S, sure := S.seen, under := [] }, 0)
theorem yY {p : Nat} {X D : Nat → Prop} {S : pF} {w : World} (h : fS w p X D S) (hB : wO S) :
    dJ pg gC #[dP p] w (fun r w' => r = .int .i64 (Ac S).2 ∧ mF w p X D (Ac S).1 w') := by
  refine oH ?_
  unfold nC iI Ac
  refine (yU h).mono ?_
  rintro r w1 ⟨rfl, rfl⟩
  by_cases hd : S.down = true
  · rw [if_pos hd, if_pos hd]
    have n1 : ((20 : Int) != 0) = true := rfl
    simp (disch := omega) only [bN, dE, aX, bC, cL, cH, cE, cI, cG, cB, dK, cY, bL, cF, cR, cK, cZ, cW, cN, cS, cX, cP, cO, cT, bV, cC, cM, cV, gD, gE, gG, gI, gH, gJ, gA, gF, gB, bG, Result.ok.injEq, Next.value.injEq, true_and, and_true, cA, cD, cU, cQ, cJ, dL, Int.toNat_natCast, bW, bY, bZ, bU, bP, bK, bR, bJ, bH, bF, if_true, if_false, Bool.false_eq_true, Nat.zero_add, Option.isNone_some, Option.isNone_none, Bool.not_true, Bool.not_false, List.getElem?_cons_succ, List.getElem?_cons_zero, aS, aI, aP, aW, aY, aO, bX, aA, aM, aJ, aH, aL, bA, bB, bQ, aN, aQ, aR, aG, aT, aC, bE, aV, aE, bD, aF, aK, aB, aZ, aU, aD, n1]
    exact mF.refl h
  rw [if_neg hd, if_neg hd]
  have n1 : ((0 : Int) != 0) = false := rfl
  obtain ⟨ms, mn, sv, ls, ln, cs, h1, h2, h3, h4, h5, h6, hXD, hDl, op, hms, hmn, hfs, hfn, hun, hop⟩ := h
  have h7 := fun b (hb : X b) => hDl b (hXD b hb)
  simp (disch := omega) only [bN, dE, aX, bC, cL, cH, cE, cI, cG, cB, dK, cY, bL, cF, cR, cK, cZ, cW, cN, cS, cX, cP, cO, cT, bV, cC, cM, cV, gD, gE, gG, gI, gH, gJ, gA, gF, gB, bG, Result.ok.injEq, Next.value.injEq, true_and, and_true, cA, cD, cU, cQ, cJ, dL, Int.toNat_natCast, bW, bY, bZ, bU, bP, bK, bR, bJ, bH, bF, if_true, if_false, Bool.false_eq_true, Nat.zero_add, Option.isNone_some, Option.isNone_none, Bool.not_true, Bool.not_false, List.getElem?_cons_succ, List.getElem?_cons_zero, aS, aI, aP, aW, aY, aO, bX, aA, aM, aJ, aH, aL, bA, bB, bQ, aN, aQ, aR, aG, aT, aC, bE, aV, aE, bD, aF, aK, aB, aZ, aU, aD, n1]
  refine (vA op hB.left).mono ?_
  rintro r w2 ⟨rfl, op2, x2⟩
  have hdn : (S.down || S.left == 0) = wM S := rfl
  rw [hdn] at op2 ⊢
  have xX : dD w1 w2 X := x2.mono fun b _ h => h ▸ h1
  have xD : dD w1 w2 D := xX.mono fun b _ h => hXD b h
  have z2 := x2.size
  have h72 : ∀ b, X b → b < w2.heap.size := fun b hb => by have := h7 b hb; omega
  have hD2 : ∀ b, D b → b < w2.heap.size := fun b hb => by have := hDl b hb; omega
  have hms2 := hms.ext x2 (fun h => h4 h.symm)
  have hmn2 := hmn.ext x2 (fun h => h5 h.symm)
  have hfs2 := hfs.ext xD fun _ h => h
  have hfn2 := hfn.ext xD fun _ h => h
  cases hD : wM S with
  | true =>
    rw [hD] at op2
    rw [if_pos rfl]
    simp (disch := omega) only [bN, dE, aX, bC, cL, cH, cE, cI, cG, cB, dK, cY, bL, cF, cR, cK, cZ, cW, cN, cS, cX, cP, cO, cT, bV, cC, cM, cV, gD, gE, gG, gI, gH, gJ, gA, gF, gB, bG, Result.ok.injEq, Next.value.injEq, true_and, and_true, cA, cD, cU, cQ, cJ, dL, Int.toNat_natCast, bW, bY, bZ, bU, bP, bK, bR, bJ, bH, bF, if_true, if_false, Bool.false_eq_true, Nat.zero_add, Option.isNone_some, Option.isNone_none, Bool.not_true, Bool.not_false, List.getElem?_cons_succ, List.getElem?_cons_zero, aS, aI, aP, aW, aY, aO, bX, aA, aM, aJ, aH, aL, bA, bB, bQ, aN, aQ, aR, aG, aT, aC, bE, aV, aE, bD, aF, aK, aB, aZ, aU, aD]
    exact ⟨X, D, ⟨ms, mn, sv, ls, ln, cs, h1, h2, h3, h4, h5, h6, hXD, hD2, op2, hms2, hmn2, hfs2, hfn2, hun.ext x2 (fun b hb h => hb.2.1 h), hop.ext xD fun _ h => h⟩, fun _ h => .inl h, fun _ h => h, xX⟩
  | false =>
    rw [hD] at op2
    rw [if_neg (by decide)]
    have c2 := op2.cell (off := 2)
    simp only [List.getElem?_cons_zero, List.getElem?_cons_succ] at c2
    simp (disch := omega) only [bN, dE, aX, bC, cL, cH, cE, cI, cG, cB, dK, cY, bL, cF, cR, cK, cZ, cW, cN, cS, cX, cP, cO, cT, bV, cC, cM, cV, gD, gE, gG, gI, gH, gJ, gA, gF, gB, bG, Result.ok.injEq, Next.value.injEq, true_and, and_true, cA, cD, cU, cQ, cJ, dL, Int.toNat_natCast, bW, bY, bZ, bU, bP, bK, bR, bJ, bH, bF, if_true, if_false, Bool.false_eq_true, Nat.zero_add, Option.isNone_some, Option.isNone_none, Bool.not_true, Bool.not_false, List.getElem?_cons_succ, List.getElem?_cons_zero, aS, aI, aP, aW, aY, aO, bX, aA, aM, aJ, aH, aL, bA, bB, bQ, aN, aQ, aR, aG, aT, aC, bE, aV, aE, bD, aF, aK, aB, aZ, aU, aD, c2]
    refine (tI hmn2).mono ?_
    rintro r w3 ⟨rfl, hmc, x3, s3⟩
    have op3 := op2.ext x3 (fun h => h)
    refine oQ op3 rfl (by simp) fun w4 op4 x4 s4 => ?_
    simp only [List.set_cons_zero, List.set_cons_succ] at op4
    refine fV op4 rfl (by simp) fun w5 op5 x5 s5 => ?_
    simp only [List.set_cons_zero, List.set_cons_succ] at op5
    have hp2 : p < w2.heap.size := op2.lt
    have hmn2l := hmn2.lt
    have x45 : dD w3 w5 (fun y => y = p) := x4.seq x5
    obtain ⟨Y, hY⟩ : ∃ Y : Nat → Prop, Y = fun b => X b ∨ b = w2.heap.size := ⟨_, rfl⟩
    have hYX : ∀ b, X b → Y b := fun b h => by rw [hY]; exact .inl h
    have hY2 : ∀ b, Y b → X b ∨ w2.heap.size ≤ b := fun b h => by rw [hY] at h; rcases h with h | h; exact .inl h; exact .inr (by omega)
    obtain ⟨E, hE⟩ : ∃ E : Nat → Prop, E = fun b => D b ∨ b = w2.heap.size := ⟨_, rfl⟩
    have hED : ∀ b, D b → E b := fun b h => by rw [hE]; exact .inl h
    have hYE : ∀ b, Y b → E b := fun b h => by rw [hY] at h; rw [hE]; rcases h with h | h; exact .inl (hXD b h); exact .inr h
    have hE2 : ∀ b, E b → D b ∨ w2.heap.size ≤ b := fun b h => by rw [hE] at h; rcases h with h | h; exact .inl h; exact .inr (by omega)
    have x3Y : dD w2 w3 E := x3.mono fun _ _ h => h.elim
    have x45Y : dD w3 w5 E := x45.mono fun b _ h => by rw [h]; exact hED _ (hXD _ h1)
    have dat : ∀ v b, jL w2 D v b → jL w5 E v b := fun v b hd => ((hd.sub hE2).ext x3Y fun _ h => h).ext x45Y fun _ h => h
    refine ⟨Y, E, ⟨w2.heap.size, mn, .slice none 0 0, ln, ln, [], hYX _ h1, by rw [hY]; exact .inr rfl, hYX _ h3, by omega, h5, by omega, hYE, fun b h => ?_, op5, hmc.ext x45 (by omega), (hmn2.ext x3 (fun h => h)).ext x45 (fun h => h5 h.symm), hfn2.map dat, hfn2.map dat, ⟨rfl, .inl ⟨rfl, rfl⟩⟩, rfl⟩, fun b h => ?_, hED, (xX.trans x3 fun _ _ h => h.elim).trans x45 fun b _ h => by rw [h]; exact h1⟩
    · rw [hE] at h
      rcases h with h | h
      · have := hD2 b h; omega
      · omega
    · rcases hY2 b h with h | h
      · exact .inl h
      · exact .inr (by omega)
end Go.Proofs.Ytmhokapokchneaa
namespace Go.Proofs.Ytmhokapokchneaa
open Go Go.En Go.Pu
set_option maxRecDepth 4000
set_option linter.unusedSimpArgs false
set_option linter.unusedVariables false
def tZ (os : List qP) (ks : List Bool) (c : eS) : Nat → eS
  | 0 => c
  | i + 1 => match os[i]?, ks[i]? with
    | some o, some true => rX o (tZ os ks c i)
    | _, _ => tZ os ks c i
def Ap (S : pF) (ks : List Bool) : pF := { S with sure := tZ S.under ks S.sure S.under.length, seen := tZ S.under ks S.sure S.under.length, under := [], left := -1, down := false }
theorem yC {p : Nat} {X D : Nat → Prop} {S : pF} {kv : Value} {ks : List Bool} {w : World} (h : fS w p X D S) (hk : Sl w kv (ks.map Value.bool)) (hkX : ¬ sF kv X) (hkl : ks.length ≤ 9223372036854775807) (hu : S.under.length ≤ 1000000)
    (hs : ∀ i, i ≤ S.under.length → eA (tZ S.under ks S.sure i) ≤ 1099511627776) (hop' : ∀ o ∈ S.under, o.at' ≤ 1099511627776 ∧ o.bytes.length ≤ 1099511627776) :
    dJ pg fP #[dP p, kv] w (fun r w' => r = .tuple #[] ∧ mF w p X D (Ap S ks) w') := by
  refine nZ ?_
  unfold lT gL gP
  simp (disch := omega) only [bN, dE, aX, bC, cL, cH, cE, cI, cG, cB, dK, cY, bL, cF, cR, cK, cZ, cW, cN, cS, cX, cP, cO, cT, bV, cC, cM, cV, gD, gE, gG, gI, gH, gJ, gA, gF, gB, bG, Result.ok.injEq, Next.value.injEq, true_and, and_true, cA, cD, cU, cQ, cJ, dL, Int.toNat_natCast, bW, bY, bZ, bU, bP, bK, bR, bJ, bH, bF, if_true, if_false, Bool.false_eq_true, Nat.zero_add, Option.isNone_some, Option.isNone_none, Bool.not_true, Bool.not_false, List.getElem?_cons_succ, List.getElem?_cons_zero, aS, aI, aP, aW, aY, aO, bX, aA, aM, aJ, aH, aL, bA, bB, bQ, aN, aQ, aR, aG, aT, aC, bE, aV, aE, bD, aF, aK, aB, aZ, aU, aD]
  obtain ⟨ms, mn, sv, ls, ln, cs, h1, h2, h3, h4, h5, h6, hXD, hDl, op, hms, hmn, hfs, hfn, hun, hop⟩ := h
  have h7 := fun b (hb : X b) => hDl b (hXD b hb)
  have hp : p < w.heap.size := op.lt
  have hmsl := hms.lt
  have hmnl := hmn.lt
  have c3 := op.cell (off := 3)
  simp only [List.getElem?_cons_zero, List.getElem?_cons_succ] at c3
  obtain ⟨ua, uc, rfl⟩ := hun.len
  obtain ⟨ka, kc, rfl, _⟩ := hk.len
  rw [List.length_map] at hk hkX ⊢
  unfold fL gT gU
  simp (disch := omega) only [bN, dE, aX, bC, cL, cH, cE, cI, cG, cB, dK, cY, bL, cF, cR, cK, cZ, cW, cN, cS, cX, cP, cO, cT, bV, cC, cM, cV, gD, gE, gG, gI, gH, gJ, gA, gF, gB, bG, Result.ok.injEq, Next.value.injEq, true_and, and_true, cA, cD, cU, cQ, cJ, dL, Int.toNat_natCast, bW, bY, bZ, bU, bP, bK, bR, bJ, bH, bF, if_true, if_false, Bool.false_eq_true, Nat.zero_add, Option.isNone_some, Option.isNone_none, Bool.not_true, Bool.not_false, List.getElem?_cons_succ, List.getElem?_cons_zero, aS, aI, aP, aW, aY, aO, bX, aA, aM, aJ, aH, aL, bA, bB, bQ, aN, aQ, aR, aG, aT, aC, bE, aV, aE, bD, aF, aK, aB, aZ, aU, aD, c3]
  unfold fF iB
  have hol := hop.len
  refine jR.rule (fun m (t : Value) w' => ∃ (i : Nat) (ls' : List (ByteArray × Value)), m = S.under.length - i ∧ t = .int .i64 i ∧ i ≤ S.under.length ∧ Mp w' ms pV ls' ∧ jK w' D ls' (tZ S.under ks S.sure i) ∧ dD w w' (fun b => b = ms)) S.under.length
    ⟨0, ls, rfl, rfl, by omega, hms, hfs, dD.refl _ _⟩ ?_
  rintro m t w1 ⟨i, ls', rfl, rfl, hi, hms1, hf1, x1⟩
  have z1 := x1.size
  have x1X : dD w w1 X := x1.mono fun b _ h => h ▸ h2
  have x1D : dD w w1 D := x1X.mono fun b _ h => hXD b h
  have op1 := op.ext x1 (fun h => h4 h)
  unfold fK gV
  by_cases hlt : i < S.under.length
  · have d1 : decide ((i : Int) < (S.under.length : Int)) = true := by simp; omega
    obtain ⟨v, ⟨va, vn, vc, rfl⟩, hcs, hdat⟩ := hop.at hlt
    obtain ⟨a', c', e'⟩ := jL.slice hdat
    simp only [Value.slice.injEq] at e'
    obtain ⟨-, rfl, -⟩ := e'
    rcases hun.2 with ⟨hnil, h0⟩ | ⟨b, c, rest, hsv, hbX, ob, hbl, hbc⟩
    · omega
    simp only [Value.slice.injEq] at hsv
    obtain ⟨rfl, -, rfl⟩ := hsv
    have ob1 := ob.ext x1 (fun h => hbX.2.2.1 h)
    have l1 := eF (off := i * 5) ob1 (by rw [List.length_append]; omega)
    have htk : ((cs ++ rest).drop (i * 5)).take 5 = pW S.under[i] (.slice va S.under[i].bytes.length vc) := by
      rw [List.drop_append_of_le_length (by omega), List.take_append_of_le_length (by rw [List.length_drop]; omega)]; exact hcs
    rw [htk] at l1
    have hmem := hop' _ (List.getElem_mem hlt)
    have hcr : tZ S.under ks S.sure (i + 1) = match ks[i]? with | some true => rX S.under[i] (tZ S.under ks S.sure i) | _ => tZ S.under ks S.sure i := by
      rw [tZ, List.getElem?_eq_getElem hlt]
      cases ks[i]? with
      | none => rfl
      | some q => cases q <;> rfl
    have hsi := hs i hi
    generalize S.under[i] = o at *
    simp (disch := omega) only [bN, dE, aX, bC, cL, cH, cE, cI, cG, cB, dK, cY, bL, cF, cR, cK, cZ, cW, cN, cS, cX, cP, cO, cT, bV, cC, cM, cV, gD, gE, gG, gI, gH, gJ, gA, gF, gB, bG, Result.ok.injEq, Next.value.injEq, true_and, and_true, cA, cD, cU, cQ, cJ, dL, Int.toNat_natCast, bW, bY, bZ, bU, bP, bK, bR, bJ, bH, bF, if_true, if_false, Bool.false_eq_true, Nat.zero_add, Option.isNone_some, Option.isNone_none, Bool.not_true, Bool.not_false, List.getElem?_cons_succ, List.getElem?_cons_zero, aS, aI, aP, aW, aY, aO, bX, aA, aM, aJ, aH, aL, bA, bB, bQ, aN, aQ, aR, aG, aT, aC, bE, aV, aE, bD, aF, aK, aB, aZ, aU, aD, d1, l1]
    refine pR fun w2 o2 x2 s2 => ?_
    refine pA o2 rfl (by unfold pW; simp [one]) (by simp) fun w3 o3 x3 s3 => ?_
    have o3 : eQ w3 w1.heap.size (pW o (.slice va o.bytes.length vc)) := o3
    have x13 : dD w1 w3 jN := x2.new x3 (Nat.le_refl _)
    have x03 := x1.trans x13 fun _ _ h => h.elim
    have hms3 := hms1.ext x13 (fun h => h)
    have hf3 := hf1.ext x13 fun _ h => h.elim
    have hd3 : jL w3 D (.slice va o.bytes.length vc) o.bytes := (hdat.ext x1D fun _ h => h).ext x13 fun _ h => h.elim
    have op3 := op1.ext x13 (fun h => h)
    have q1d := (gK op3).cell (off := 1)
    have q1 := op3.cell (off := 1)
    simp only [List.getElem?_cons_zero, List.getElem?_cons_succ] at q1 q1d
    have l3 := eF (off := 0) o3 (by unfold pW; simp)
    have l3d := eF (off := 0) (gK o3) (by unfold pW; simp)
    have l3' : ((pW o (.slice va o.bytes.length vc)).drop 0).take 5 = pW o (.slice va o.bytes.length vc) := rfl
    rw [l3'] at l3 l3d
    have z3 := x13.size
    unfold fH
    have skip : tZ S.under ks S.sure (i + 1) = tZ S.under ks S.sure i → ∃ m, m < S.under.length - i ∧ ∃ (i' : Nat) (ls' : List (ByteArray × Value)), m = S.under.length - i' ∧ Value.int .i64 ((i + 1 : Nat) : Int) = .int .i64 i' ∧ i' ≤ S.under.length ∧ Mp w3 ms pV ls' ∧ jK w3 D ls' (tZ S.under ks S.sure i') ∧ dD w w3 (fun b => b = ms) := fun e =>
      ⟨S.under.length - (i + 1), by omega, i + 1, ls', rfl, rfl, by omega, hms3, by rw [e]; exact hf3, x03⟩
    have ei : (i : Int) + 1 = ((i + 1 : Nat) : Int) := by omega
    by_cases hki : i < ks.length
    · have d2 : decide ((i : Int) < (ks.length : Int)) = true := by simp; omega
      obtain ⟨kb, koff, rfl, hcell⟩   := Ah (hk.ext x03 (fun h => hkX (kW h fun b hb => by rw [hb]; exact h2))) (by omega)
      have g1 := hcell i hki
      rw [List.getElem?_map, List.getElem?_eq_getElem hki] at g1
      simp only [Option.map_some] at g1
      rw [List.getElem?_eq_getElem hki] at hcr
      generalize ks[i] = kq at *
      cases kq with
      | false =>
        simp (disch := omega) only [bN, dE, aX, bC, cL, cH, cE, cI, cG, cB, dK, cY, bL, cF, cR, cK, cZ, cW, cN, cS, cX, cP, cO, cT, bV, cC, cM, cV, gD, gE, gG, gI, gH, gJ, gA, gF, gB, bG, Result.ok.injEq, Next.value.injEq, true_and, and_true, cA, cD, cU, cQ, cJ, dL, Int.toNat_natCast, bW, bY, bZ, bU, bP, bK, bR, bJ, bH, bF, if_true, if_false, Bool.false_eq_true, Nat.zero_add, Option.isNone_some, Option.isNone_none, Bool.not_true, Bool.not_false, List.getElem?_cons_succ, List.getElem?_cons_zero, aS, aI, aP, aW, aY, aO, bX, aA, aM, aJ, aH, aL, bA, bB, bQ, aN, aQ, aR, aG, aT, aC, bE, aV, aE, bD, aF, aK, aB, aZ, aU, aD, d2, g1, ei]
        exact skip hcr
      | true =>
        simp (disch := omega) only [bN, dE, aX, bC, cL, cH, cE, cI, cG, cB, dK, cY, bL, cF, cR, cK, cZ, cW, cN, cS, cX, cP, cO, cT, bV, cC, cM, cV, gD, gE, gG, gI, gH, gJ, gA, gF, gB, bG, Result.ok.injEq, Next.value.injEq, true_and, and_true, cA, cD, cU, cQ, cJ, dL, Int.toNat_natCast, bW, bY, bZ, bU, bP, bK, bR, bJ, bH, bF, if_true, if_false, Bool.false_eq_true, Nat.zero_add, Option.isNone_some, Option.isNone_none, Bool.not_true, Bool.not_false, List.getElem?_cons_succ, List.getElem?_cons_zero, aS, aI, aP, aW, aY, aO, bX, aA, aM, aJ, aH, aL, bA, bB, bQ, aN, aQ, aR, aG, aT, aC, bE, aV, aE, bD, aF, aK, aB, aZ, aU, aD, d2, g1, q1, q1d, l3, l3d]
        refine (zX (X := D) (c := tZ S.under ks S.sure i) (o := o) hms3.dr (hXD _ h2) (fun b hb => by have := hDl b hb; show b < w3.heap.size; omega) (hf3.ext (dD.dr _ jN) fun _ h => h.elim) (hd3.ext (dD.dr _ jN) fun _ h => h.elim) hsi hmem.1 hmem.2).mono ?_
        rintro r w4 ⟨rfl, ls4, hms4, hf4, x4⟩
        have x4 : dD w3 w4 (fun b => b = ms) := (dD.dr _ _).seq x4
        simp (disch := omega) only [bN, dE, aX, bC, cL, cH, cE, cI, cG, cB, dK, cY, bL, cF, cR, cK, cZ, cW, cN, cS, cX, cP, cO, cT, bV, cC, cM, cV, gD, gE, gG, gI, gH, gJ, gA, gF, gB, bG, Result.ok.injEq, Next.value.injEq, true_and, and_true, cA, cD, cU, cQ, cJ, dL, Int.toNat_natCast, bW, bY, bZ, bU, bP, bK, bR, bJ, bH, bF, if_true, if_false, Bool.false_eq_true, Nat.zero_add, Option.isNone_some, Option.isNone_none, Bool.not_true, Bool.not_false, List.getElem?_cons_succ, List.getElem?_cons_zero, aS, aI, aP, aW, aY, aO, bX, aA, aM, aJ, aH, aL, bA, bB, bQ, aN, aQ, aR, aG, aT, aC, bE, aV, aE, bD, aF, aK, aB, aZ, aU, aD, ei]
        exact ⟨S.under.length - (i + 1), by omega, i + 1, ls4, rfl, rfl, by omega, hms4, by rw [hcr]; exact hf4, x03.seq x4⟩
    · have d2 : decide ((i : Int) < (ks.length : Int)) = false := by simp; omega
      rw [List.getElem?_eq_none (by omega)] at hcr
      simp (disch := omega) only [bN, dE, aX, bC, cL, cH, cE, cI, cG, cB, dK, cY, bL, cF, cR, cK, cZ, cW, cN, cS, cX, cP, cO, cT, bV, cC, cM, cV, gD, gE, gG, gI, gH, gJ, gA, gF, gB, bG, Result.ok.injEq, Next.value.injEq, true_and, and_true, cA, cD, cU, cQ, cJ, dL, Int.toNat_natCast, bW, bY, bZ, bU, bP, bK, bR, bJ, bH, bF, if_true, if_false, Bool.false_eq_true, Nat.zero_add, Option.isNone_some, Option.isNone_none, Bool.not_true, Bool.not_false, List.getElem?_cons_succ, List.getElem?_cons_zero, aS, aI, aP, aW, aY, aO, bX, aA, aM, aJ, aH, aL, bA, bB, bQ, aN, aQ, aR, aG, aT, aC, bE, aV, aE, bD, aF, aK, aB, aZ, aU, aD, d2, ei]
      exact skip hcr
  · have d1 : decide ((i : Int) < (S.under.length : Int)) = false := by simp; omega
    obtain rfl : i = S.under.length := by omega
    have c1 := op1.cell (off := 1)
    simp only [List.getElem?_cons_zero, List.getElem?_cons_succ] at c1
    unfold fD
    simp (disch := omega) only [bN, dE, aX, bC, cL, cH, cE, cI, cG, cB, dK, cY, bL, cF, cR, cK, cZ, cW, cN, cS, cX, cP, cO, cT, bV, cC, cM, cV, gD, gE, gG, gI, gH, gJ, gA, gF, gB, bG, Result.ok.injEq, Next.value.injEq, true_and, and_true, cA, cD, cU, cQ, cJ, dL, Int.toNat_natCast, bW, bY, bZ, bU, bP, bK, bR, bJ, bH, bF, if_true, if_false, Bool.false_eq_true, Nat.zero_add, Option.isNone_some, Option.isNone_none, Bool.not_true, Bool.not_false, List.getElem?_cons_succ, List.getElem?_cons_zero, aS, aI, aP, aW, aY, aO, bX, aA, aM, aJ, aH, aL, bA, bB, bQ, aN, aQ, aR, aG, aT, aC, bE, aV, aE, bD, aF, aK, aB, aZ, aU, aD, d1, c1]
    refine (tI hms1).mono ?_
    rintro r w3 ⟨rfl, hmc, x3, s3⟩
    have op3 := op1.ext x3 (fun h => h)
    refine oQ op3 rfl (by simp) fun w4 op4 x4 s4 => ?_
    simp only [List.set_cons_zero, List.set_cons_succ] at op4
    refine fV op4 rfl (by simp) fun w5 op5 x5 s5 => ?_
    simp only [List.set_cons_zero, List.set_cons_succ] at op5
    refine xH op5 rfl (by simp) fun w6 op6 x6 s6 => ?_
    simp only [List.set_cons_zero, List.set_cons_succ] at op6
    refine vF op6 rfl (by simp) fun w7 op7 x7 s7 => ?_
    simp only [List.set_cons_zero, List.set_cons_succ] at op7
    have x37 : dD w3 w7 (fun y => y = p) := ((x4.seq x5).seq x6).seq x7
    obtain ⟨Y, hY⟩ : ∃ Y : Nat → Prop, Y = fun b => X b ∨ b = w1.heap.size := ⟨_, rfl⟩
    have hYX : ∀ b, X b → Y b := fun b h => by rw [hY]; exact .inl h
    have hY2 : ∀ b, Y b → X b ∨ w1.heap.size ≤ b := fun b h => by rw [hY] at h; rcases h with h | h; exact .inl h; exact .inr (by omega)
    obtain ⟨E, hE⟩ : ∃ E : Nat → Prop, E = fun b => D b ∨ b = w1.heap.size := ⟨_, rfl⟩
    have hED : ∀ b, D b → E b := fun b h => by rw [hE]; exact .inl h
    have hYE : ∀ b, Y b → E b := fun b h => by rw [hY] at h; rw [hE]; rcases h with h | h; exact .inl (hXD b h); exact .inr h
    have hE2 : ∀ b, E b → D b ∨ w1.heap.size ≤ b := fun b h => by rw [hE] at h; rcases h with h | h; exact .inl h; exact .inr (by omega)
    have x3Y : dD w1 w3 E := x3.mono fun _ _ h => h.elim
    have x37Y : dD w3 w7 E := x37.mono fun b _ h => by rw [h]; exact hED _ (hXD _ h1)
    have dat : ∀ v b, jL w1 D v b → jL w7 E v b := fun v b hd => ((hd.sub hE2).ext x3Y fun _ h => h).ext x37Y fun _ h => h
    refine ⟨Y, E, ⟨ms, w1.heap.size, .slice none 0 0, ls', ls', [], hYX _ h1, hYX _ h2, by rw [hY]; exact .inr rfl, h4, by omega, by omega, hYE, fun b h => ?_, op7, (hms1.ext x3 (fun h => h)).ext x37 (fun h => h4 h.symm), hmc.ext x37 (by omega), hf1.map dat, hf1.map dat, ⟨rfl, .inl ⟨rfl, rfl⟩⟩, rfl⟩, fun b h => ?_, hED, (x1X.trans x3 fun _ _ h => h.elim).trans x37 fun b _ h => by rw [h]; exact h1⟩
    · rw [hE] at h
      rcases h with h | h
      · have := hDl b h; omega
      · omega
    · rcases hY2 b h with h | h
      · exact .inl h
      · exact .inr (by omega)
end Go.Proofs.Ytmhokapokchneaa
namespace Go.Proofs.Ytmhokapokchneaa
open Go Go.En
set_option linter.unusedVariables false
set_option maxRecDepth 20000
attribute [local irreducible] Go.En.dY
variable (Q : Exit → dH → World → Prop) (g : dH) (w : World)
def jV : FA := ⟨iV, fun i => .leaf ([], []) []⟩
def iD : List ResultVar := [.tmp 6]
noncomputable def jJ : Code := gN Try.f4
def iH (R : K1) (rC Aq uM : Value) (w : World) : Prop :=
  dJ pg iZ #[] w fun t17 w =>
  bN pg (xU .not t17) w fun t19 w =>
  oA t19
    (R (.bool false) w)
    (bN pg (oF 5 3 rC) w fun t21 w =>
    dJ pg kE #[t21] w fun t24 w =>
    bN pg (fN t24 0) w fun t25 w =>
    bN pg (fN t24 1) w fun t26 w =>
    bN pg (jD 23 t21 t21) w fun t29 w =>
    dJ pg dO #[t25, (.string ⟨#[97]⟩), (.int .i64 0), t29] w fun t30 w =>
    bN pg (dN 23 1 [(0, (.int .u8 1))]) w fun t32 w =>
    dJ pg dO #[t25, (.string ⟨#[98]⟩), (.int .i64 0), t32] w fun t33 w =>
    bN pg (oF 5 3 uM) w fun t35 w =>
    bN pg (dB .add 3 (.tmp 36) (.const (.int .i64 1)) t21 (.int .i64 1)) w fun t37 w =>
    bN pg (dB .rem 3 (.tmp 35) (.tmp 37) t35 t37) w fun t38 w =>
    bN pg (oF 5 3 Aq) w fun t42 w =>
    bN pg (jD 23 t42 t42) w fun t43 w =>
    dJ pg dO #[t25, (.string ⟨#[97]⟩), t38, t43] w fun t44 w =>
    dJ pg fE #[t25, (.string ⟨#[97]⟩)] w fun t46 w =>
    bN pg (jD 23 t21 t21) w fun t49 w =>
    dJ pg dO #[t25, (.string ⟨#[98]⟩), (.int .i64 0), t49] w fun t50 w =>
    bN pg (dB .eql 26 (.tmp 51) (.const (.int .i64 0)) t26 (.int .i64 0)) w fun t52 w =>
    Gd (jB t52 true) (fun K => K t30 w) w fun t54 w =>
    Gd (jB t52 true) (fun K => bN pg (dB .eql 26 (.tmp 54) (.const (.int .i64 0)) t54 (.int .i64 0)) w K) w fun t55 w =>
    bN pg (iO t52 t55 (.bool false)) w fun t56 w =>
    Gd (jB t56 true) (fun K => K t33 w) w fun t58 w =>
    Gd (jB t56 true) (fun K => bN pg (dB .eql 26 (.tmp 58) (.const (.int .i64 22)) t58 (.int .i64 22)) w K) w fun t59 w =>
    bN pg (iO t56 t59 (.bool false)) w fun t60 w =>
    Gd (jB t60 true) (fun K => K t44 w) w fun t62 w =>
    Gd (jB t60 true) (fun K => bN pg (dB .eql 26 (.tmp 62) (.const (.int .i64 0)) t62 (.int .i64 0)) w K) w fun t63 w =>
    Gd (jB t60 true) (fun K => K t38 w) w fun t64 w =>
    Gd (jB t60 true) (fun K => K Aq w) w fun t65 w =>
    Gd (jB t60 true) (fun K => bN pg (oF 5 3 t65) w K) w fun t66 w =>
    Gd (jB t60 true) (fun K => bN pg (dB .add 3 (.tmp 64) (.tmp 66) t64 t66) w K) w fun t67 w =>
    Gd (jB t60 true) (fun K => K t21 w) w fun t68 w =>
    Gd (jB t60 true) (fun K => bN pg (dB .leq 3 (.tmp 67) (.tmp 68) t67 t68) w K) w fun t69 w =>
    Gd (jB t60 true) (fun K => bN pg (dB .eql 4 (.tmp 63) (.tmp 69) t63 t69) w K) w fun t70 w =>
    bN pg (iO t60 t70 (.bool false)) w fun t71 w =>
    Gd (jB t71 true) (fun K => K t44 w) w fun t73 w =>
    Gd (jB t71 true) (fun K => bN pg (dB .eql 26 (.tmp 73) (.const (.int .i64 0)) t73 (.int .i64 0)) w K) w fun t74 w =>
    Gd (jB t71 true) (fun K => K t74 w) w fun t75 w =>
    Gd (jB t75 false) (fun K => K t44 w) w fun t76 w =>
    Gd (jB t75 false) (fun K => bN pg (dB .eql 26 (.tmp 76) (.const (.int .i64 22)) t76 (.int .i64 22)) w K) w fun t77 w =>
    Gd (jB t71 true) (fun K => bN pg (iO t75 (.bool true) t77) w K) w fun t78 w =>
    bN pg (iO t71 t78 (.bool false)) w fun t79 w =>
    Gd (jB t79 true) (fun K => K t46 w) w fun t81 w =>
    Gd (jB t79 true) (fun K => bN pg (dB .eql 26 (.tmp 81) (.const (.int .i64 0)) t81 (.int .i64 0)) w K) w fun t82 w =>
    bN pg (iO t79 t82 (.bool false)) w fun t83 w =>
    Gd (jB t83 true) (fun K => K t50 w) w fun t85 w =>
    Gd (jB t83 true) (fun K => bN pg (dB .eql 26 (.tmp 85) (.const (.int .i64 0)) t85 (.int .i64 0)) w K) w fun t86 w =>
    bN pg (iO t83 t86 (.bool false)) w fun t87 w =>
    R t87 w)
theorem nU (R : K1) (hr : HR iD R Q) (h : iH R (g 0) (g 1) (g 2) w) : dY pg jV jJ Q g w :=
  dR (kn := no) (l := []) (by kernel_rfl) h rM hr trivial
def nR (a0 a1 a2 : Value) (w : World) (R : K1) : Prop :=
  iH R a0 a1 a2 w
theorem oI {a0 a1 a2 : Value} {w : World} {R : K1} (h : nR a0 a1 a2 w R) : dJ pg iV #[a0, a1, a2] w R := by
  refine dG (ann := jV) (fn := Try.f4) (c := jJ) (args := [a0, a1, a2]) (rs := iD) (N := 88) TryM.mixed (by kernel_rfl) Try.func4 (by kernel_rfl) (by kernel_rfl) (by kernel_rfl) (of_decide_eq_true (by kernel_rfl)) (by kernel_rfl) ?_
  exact (nU (mL pg iD R) (iN [a0, a1, a2]) w R (fun _ _ h => h) h)
end Go.Proofs.Ytmhokapokchneaa
namespace Go.Proofs.Ytmhokapokchneaa
open Go Go.En
set_option linter.unusedVariables false
set_option maxRecDepth 4000
theorem dF {k k' : IntKind} {lo hi : Int} (a : Option Addr) (n c : Nat) (w : World) (h0 : 0 ≤ lo) (h1 : lo ≤ hi) (h2 : hi ≤ c) : (pG 23 (.slice a n c) (some (.int k lo)) (some (.int k' hi)) none).run pg w = .ok (.value (.slice (hG a c (lo.toNat) 1) (hi.toNat - lo.toNat) (c - lo.toNat))) w := sV Try.underlying23 tY _ n c h0 h1 h2
theorem dZ {k : IntKind} {a : Int} (b o n c : Nat) (w : World) (h0 : 0 ≤ a) (h1 : a < n) : (lF 23 (.slice (some ⟨b, o, none⟩) n c) (.int k a)).run pg w = .ok (.value (.pointer (some ⟨b, o + a.toNat, none⟩))) w := sH rfl Try.underlying23 tY b o n c h0 h1
theorem fX (x : Addr) (w : World) : (dI 5 (.pointer (some x))).run pg w = xZ (w.cell? x) w (yA pg 5 x w) := uI Try.underlying5 rfl x w
theorem eY {ox oy : Operand} (c d : Bool) (w : World) : (dB .eql 4 ox oy (.bool c) (.bool d)).run pg w = .ok (.value (.bool (c == d))) w := zC c d Try.underlying4
end Go.Proofs.Ytmhokapokchneaa
namespace Go.Proofs.Ytmhokapokchneaa
open Go Go.En
set_option linter.unusedVariables false
set_option maxRecDepth 4000
theorem dT {k : IntKind} (a : Int) (w : World) : (oF 5 3 (.int k a)).run pg w = .ok (.value (.int .i64 (IntKind.i64.wrap a))) w := zI Try.underlying5 Try.underlying3
end Go.Proofs.Ytmhokapokchneaa
namespace Go.Proofs.Ytmhokapokchneaa
open Go Go.En
set_option linter.unusedVariables false
set_option maxRecDepth 4000
theorem dS {ty : TypeId} (x : Option Addr) (n c : Nat) (w : World) : (iY .len #[53] ty [.slice x n c]).run pg w = .ok (.value (.int .i64 n)) w := sQ Try.underlying53 x n c
end Go.Proofs.Ytmhokapokchneaa
namespace Go.Proofs.Ytmhokapokchneaa
open Go Go.En Go.Pu
set_option maxRecDepth 4000
set_option linter.unusedSimpArgs false
set_option linter.unusedVariables false
theorem fS.xd {w : World} {p : Nat} {X D : Nat → Prop} {S : pF} (h : fS w p X D S) : ∀ b, X b → D b := by
  obtain ⟨_, _, _, _, _, _, _, _, _, _, _, _, h7, _⟩ := h; exact h7
theorem jL.after {w w' : World} {X X' : Nat → Prop} {v : Value} {b : List UInt8} (h : jL w X v b) (hX : ∀ b, X' b → X b ∨ w.heap.size ≤ b) (x : dD w w' X) : jL w' X' v b := ⟨h.1.ext x h.2, (h.sub hX).2⟩
theorem jL.low {w : World} {X Y : Nat → Prop} {v : Value} {b : List UInt8} (h : jL w X v b) (hY : ∀ b, Y b → X b) : jL w Y v b := ⟨h.1, fun h' => h.2 (kW h' hY)⟩
abbrev nA : ByteArray := ⟨#[97]⟩
abbrev nB : ByteArray := ⟨#[98]⟩
theorem vD {room : Int} {su c : eS} {u : List qP} {o : qP} : oN ⟨room, su, c, u, -1, false⟩ o = (⟨room, su, rX o c, u ++ [o], -1, false⟩, 0) := rfl
theorem vG {room : Int} {su c : eS} {u : List qP} {name : ByteArray} {a : Nat} {l old : List UInt8} (hm : sS name = true) (ho : (kG name c).getD [] = old) (ha : a ≤ old.length) :
    vR ⟨room, su, c, u, -1, false⟩ name a l = if room < ((eA c + ((a + l.length) - old.length) : Nat) : Int) then (⟨room, su, c, u, -1, false⟩, 22) else (⟨room, su, tX name (over old a l) c, u ++ [⟨0, name, ⟨#[]⟩, a, l⟩], -1, false⟩, 0) := by
  have hE : zP ⟨room, su, c, u, -1, false⟩ name a l.length = if room < ((eA c + ((a + l.length) - old.length) : Nat) : Int) then 22 else 0 := by
    unfold zP sO
    simp only
    rw [ho, hm, if_neg (by decide), if_neg (by rintro (h | h); cases h; omega), if_neg (by omega)]
    have : (eA c : Int) + max ((a : Int) + (l.length : Int) - (old.length : Int)) 0 = ((eA c + ((a + l.length) - old.length) : Nat) : Int) := by omega
    rw [this]
  unfold vR
  rw [hE]
  by_cases h : room < ((eA c + ((a + l.length) - old.length) : Nat) : Int)
  · rw [if_pos h, if_neg (by decide), if_pos h]
  · rw [if_neg h, if_pos rfl, if_neg h, vD]
    unfold rX
    rw [if_pos rfl]
    simp only [ho, Int.toNat_natCast]
theorem zT {room : Int} {su c : eS} {u : List qP} {name : ByteArray} {b : List UInt8} (ho : kG name c = some b) : zO ⟨room, su, c, u, -1, false⟩ name = (⟨room, su, rD name c, u ++ [⟨2, name, ⟨#[]⟩, 0, []⟩], -1, false⟩, 0) := by
  unfold zO
  simp only
  rw [if_neg (by decide), ho, if_neg (by simp), vD]
  rfl
theorem dD.big {w w1 w2 : World} {M : Nat → Prop} (x : dD w w1 jN) (y : dD w1 w2 M) (h : ∀ b, M b → w.heap.size ≤ b) : dD w w2 jN := x.trans y fun b hb hm => by have := h b hm; omega
theorem sT (os : List qP) (c : eS) : ∀ i, tZ os [] c i = c
  | 0 => rfl
  | i + 1 => by
    rw [tZ]
    cases os[i]? with
    | none => exact sT os c i
    | some o => exact sT os c i
theorem wA (w : World) : dJ pg iZ #[] w (fun r w' => r = .bool true ∧ dD w w' jN) := by
  refine pU ?_
  unfold qC jZ
  refine (wX (room := 100) (by omega) (by omega)).mono ?_
  rintro r w1 ⟨p, X, rfl, h1, hX1, x1⟩
  have n0 : ((0 : Int) != 0) = false := rfl
  simp (disch := omega) only [bN, dE, aX, bC, cL, cH, cE, cI, cG, cB, dK, cY, bL, cF, cR, cK, cZ, cW, cN, cS, cX, cP, cO, cT, bV, cC, cM, cV, gD, gE, gG, gI, gH, gJ, gA, gF, gB, bG, Result.ok.injEq, Next.value.injEq, true_and, and_true, cA, cD, cU, cQ, cJ, dL, Int.toNat_natCast, bW, bY, bZ, bU, bP, bK, bR, bJ, bH, bF, if_true, if_false, Bool.false_eq_true, Nat.zero_add, Option.isNone_some, Option.isNone_none, Bool.not_true, Bool.not_false, List.getElem?_cons_succ, List.getElem?_cons_zero, aS, aI, aP, aW, aY, aO, bX, aA, aM, aJ, aH, aL, bA, bB, bQ, aN, aQ, aR, aG, aT, aC, bE, aV, aE, bD, aF, aK, aB, aZ, aU, aD, dF, dZ, fX, eY, dT, dS, n0]
  refine qB (cells := #[.int .u8 120, .int .u8 121]) (by decide) (by decide) (by kernel_rfl) fun w2 o2 x2 s2 => ?_
  refine sX o2 fun w3 o3 x3 s3 => ?_
  have x13 : dD w1 w3 jN := x2.new x3 (by omega)
  have hb : Bs w3 (.slice (some ⟨w1.heap.size, 0, none⟩) 2 2) [120, 121] := eQ.whole (l := [120, 121]) (c := 2) o3 (by simp)
  have hB0 : wO (wG 100) := ⟨by decide, by decide, by decide, by decide⟩
  refine (nG (a := 0) (name := nA) (h1.new x13) hB0 hb (by simp) (by omega) (by omega)).mono ?_
  rintro r w4 ⟨rfl, hp4⟩
  have e1 : vR (wG 100) nA 0 [120, 121] = (⟨100, [], [(nA, [120, 121])], [⟨0, nA, ⟨#[]⟩, 0, [120, 121]⟩], -1, false⟩, 0) := by rfl
  rw [e1] at hp4 ⊢
  obtain ⟨X4, D4, h4, hX4, hD4, x4⟩ := hp4
  have hB4 : wO ⟨100, [], [(nA, [120, 121])], [⟨0, nA, ⟨#[]⟩, 0, [120, 121]⟩], -1, false⟩ := ⟨by decide, by decide, by decide, by decide⟩
  have x03 := x1.seq x13
  have z3 := x03.size
  have z1 := x1.size
  have x04 : dD w w4 jN := dD.big x03 x4 hX1
  have big4 : ∀ b, X4 b → w.heap.size ≤ b := fun b h => by rcases hX4 b h with h | h; exact hX1 b h; omega
  simp (disch := omega) only [bN, dE, aX, bC, cL, cH, cE, cI, cG, cB, dK, cY, bL, cF, cR, cK, cZ, cW, cN, cS, cX, cP, cO, cT, bV, cC, cM, cV, gD, gE, gG, gI, gH, gJ, gA, gF, gB, bG, Result.ok.injEq, Next.value.injEq, true_and, and_true, cA, cD, cU, cQ, cJ, dL, Int.toNat_natCast, bW, bY, bZ, bU, bP, bK, bR, bJ, bH, bF, if_true, if_false, Bool.false_eq_true, Nat.zero_add, Option.isNone_some, Option.isNone_none, Bool.not_true, Bool.not_false, List.getElem?_cons_succ, List.getElem?_cons_zero, aS, aI, aP, aW, aY, aO, bX, aA, aM, aJ, aH, aL, bA, bB, bQ, aN, aQ, aR, aG, aT, aC, bE, aV, aE, bD, aF, aK, aB, aZ, aU, aD, dF, dZ, fX, eY, dT, dS]
  refine (vE (name := nA) h4 hB4 (fun b hb => by have hb : some [120, 121] = some b := hb; cases hb; decide)).mono ?_
  rintro r w5 ⟨hr, x5⟩
  rcases hr with ⟨h, _⟩ | ⟨_, h, _⟩ | ⟨_, b, v, hg, rfl, ho⟩
  · cases h
  · have h : some [120, 121] = (none : Option (List UInt8)) := h
    cases h
  have hg : some [120, 121] = some b := hg
  cases hg
  have dv : jL w5 D4 v [120, 121] := qF.dat ho fun b hb => fS.lt h4 b hb
  obtain ⟨va, vc, rfl⟩ := ho.len
  have h5 := h4.new x5
  have z4 := x04.size
  have z5 := x5.size
  simp (disch := omega) only [bN, dE, aX, bC, cL, cH, cE, cI, cG, cB, dK, cY, bL, cF, cR, cK, cZ, cW, cN, cS, cX, cP, cO, cT, bV, cC, cM, cV, gD, gE, gG, gI, gH, gJ, gA, gF, gB, bG, Result.ok.injEq, Next.value.injEq, true_and, and_true, cA, cD, cU, cQ, cJ, dL, Int.toNat_natCast, bW, bY, bZ, bU, bP, bK, bR, bJ, bH, bF, if_true, if_false, Bool.false_eq_true, Nat.zero_add, Option.isNone_some, Option.isNone_none, Bool.not_true, Bool.not_false, List.getElem?_cons_succ, List.getElem?_cons_zero, aS, aI, aP, aW, aY, aO, bX, aA, aM, aJ, aH, aL, bA, bB, bQ, aN, aQ, aR, aG, aT, aC, bE, aV, aE, bD, aF, aK, aB, aZ, aU, aD, dF, dZ, fX, eY, dT, dS]
  refine (wB h5).mono ?_
  rintro r w6 ⟨rfl, hw⟩
  rw [hw]; clear hw w6
  refine (yC (ks := []) h5 (Sl.nil _) (fun h => h) (by simp) (by simp) (fun i hi => by rw [sT]; decide) (fun o ho => by
    have ho := List.mem_singleton.1 ho
    rw [ho]; exact ⟨by decide, by decide⟩)).mono ?_
  rintro r w6 ⟨rfl, hp6⟩
  have e6 : Ap ⟨100, [], [(nA, [120, 121])], [⟨0, nA, ⟨#[]⟩, 0, [120, 121]⟩], -1, false⟩ [] = ⟨100, [], [], [], -1, false⟩ := by rfl
  rw [e6] at hp6
  obtain ⟨X6, D6, h6, hX6, hD6, x6⟩ := hp6
  have dv6 := jL.after (jL.low dv (fS.xd h4)) hX6 x6
  have x06 : dD w w6 jN := dD.big (x04.seq x5) x6 big4
  have big6 : ∀ b, X6 b → w.heap.size ≤ b := fun b h => by rcases hX6 b h with h | h; exact big4 b h; omega
  have hB6 : wO ⟨100, [], [], [], -1, false⟩ := ⟨by decide, by decide, by decide, by decide⟩
  refine (vE (name := nA) h6 hB6 (fun b hb => by have hb : none = some b := hb; cases hb)).mono ?_
  rintro r w7 ⟨hr, x7⟩
  rcases hr with ⟨h, _⟩ | ⟨_, _, rfl⟩ | ⟨_, b, v, hg, rfl, ho⟩
  · cases h
  · have hcv := pB (dv6.1.ext x7 (oB _))
    have n1 : ((0 : Int) == 0) = true := rfl
    have n2 : (((([⟨0, nA, ⟨#[]⟩, 0, [120, 121]⟩] : List qP).length : Nat) : Int) == 1) = true := rfl
    have n2' : (((1 : Nat) : Int) == 1) = true := rfl
    have n3 : ((21 : Int) == 21) = true := rfl
    have n4 : ((⟨([120, 121] : List UInt8).toArray⟩ : ByteArray).toList == (⟨#[120, 121]⟩ : ByteArray).toList) = true := by simp
    have hl2 : ([⟨0, nA, ⟨#[]⟩, 0, [120, 121]⟩] : List qP).length = 1 := rfl
    simp (disch := omega) only [bN, dE, aX, bC, cL, cH, cE, cI, cG, cB, dK, cY, bL, cF, cR, cK, cZ, cW, cN, cS, cX, cP, cO, cT, bV, cC, cM, cV, gD, gE, gG, gI, gH, gJ, gA, gF, gB, bG, Result.ok.injEq, Next.value.injEq, true_and, and_true, cA, cD, cU, cQ, cJ, dL, Int.toNat_natCast, bW, bY, bZ, bU, bP, bK, bR, bJ, bH, bF, if_true, if_false, Bool.false_eq_true, Nat.zero_add, Option.isNone_some, Option.isNone_none, Bool.not_true, Bool.not_false, List.getElem?_cons_succ, List.getElem?_cons_zero, aS, aI, aP, aW, aY, aO, bX, aA, aM, aJ, aH, aL, bA, bB, bQ, aN, aQ, aR, aG, aT, aC, bE, aV, aE, bD, aF, aK, aB, aZ, aU, aD, dF, dZ, fX, eY, dT, dS, n1, hl2, n2', n3, hcv, zB, n4]
    refine (yY (h6.new x7) hB6).mono ?_
    rintro r w8 ⟨rfl, hp8⟩
    obtain ⟨X8, D8, h8, hX8, hD8, x8⟩ := hp8
    have e8 : ((Ac ⟨100, [], [], [], -1, false⟩).2 == 0) = true := by rfl
    simp (disch := omega) only [bN, dE, aX, bC, cL, cH, cE, cI, cG, cB, dK, cY, bL, cF, cR, cK, cZ, cW, cN, cS, cX, cP, cO, cT, bV, cC, cM, cV, gD, gE, gG, gI, gH, gJ, gA, gF, gB, bG, Result.ok.injEq, Next.value.injEq, true_and, and_true, cA, cD, cU, cQ, cJ, dL, Int.toNat_natCast, bW, bY, bZ, bU, bP, bK, bR, bJ, bH, bF, if_true, if_false, Bool.false_eq_true, Nat.zero_add, Option.isNone_some, Option.isNone_none, Bool.not_true, Bool.not_false, List.getElem?_cons_succ, List.getElem?_cons_zero, aS, aI, aP, aW, aY, aO, bX, aA, aM, aJ, aH, aL, bA, bB, bQ, aN, aQ, aR, aG, aT, aC, bE, aV, aE, bD, aF, aK, aB, aZ, aU, aD, dF, dZ, fX, eY, dT, dS, e8]
    exact dD.big (x06.seq x7) x8 big6
  · have hg : none = some b := hg
    cases hg
end Go.Proofs.Ytmhokapokchneaa
namespace Go.Proofs.Ytmhokapokchneaa
open Go Go.En Go.Pu
set_option maxRecDepth 4000
set_option linter.unusedSimpArgs false
set_option linter.unusedVariables false
theorem qT {w : World} {b n : Nat} (o : eQ w b (List.replicate n (Value.int .u8 0))) : Bs w (.slice (some ⟨b, 0, none⟩) n n) (List.replicate n 0) := by
  have := eQ.whole (c := n) (l := List.replicate n (0 : UInt8)) (by rw [vI]; exact o) (by simp)
  rw [List.length_replicate] at this
  exact this
theorem zZ {room : Int} {su c : eS} {u : List qP} {l : Int} {d : Bool} (hl : -1 ≤ l ∧ l ≤ 9223372036854775807) (hs : eA c ≤ 1099511627776) (hu : u.length ≤ 1000000) (hr : 0 ≤ room ∧ room ≤ 16777216) : wO ⟨room, su, c, u, l, d⟩ := ⟨hl, hs, hu, hr⟩
theorem uF {k n a : Nat} {w : World} (hk : k < 256) (hn : n < 256) (ha : a < 256) :
    dJ pg iV #[.int .u8 k, .int .u8 n, .int .u8 a] w (fun r w' => r = .bool true ∧ dD w w' jN) := by
  refine oI ?_
  unfold nR iH
  refine (wA w).mono ?_
  rintro r w1 ⟨rfl, x1⟩
  have z1 := x1.size
  have wk : IntKind.i64.wrap (k : Int) = (k : Int) := cA (by omega) (by omega)
  simp (disch := omega) only [bN, dE, aX, bC, cL, cH, cE, cI, cG, cB, dK, cY, bL, cF, cR, cK, cZ, cW, cN, cS, cX, cP, cO, cT, bV, cC, cM, cV, gD, gE, gG, gI, gH, gJ, gA, gF, gB, bG, Result.ok.injEq, Next.value.injEq, true_and, and_true, cA, cD, cU, cQ, cJ, dL, Int.toNat_natCast, bW, bY, bZ, bU, bP, bK, bR, bJ, bH, bF, if_true, if_false, Bool.false_eq_true, Nat.zero_add, Option.isNone_some, Option.isNone_none, Bool.not_true, Bool.not_false, List.getElem?_cons_succ, List.getElem?_cons_zero, aS, aI, aP, aW, aY, aO, bX, aA, aM, aJ, aH, aL, bA, bB, bQ, aN, aQ, aR, aG, aT, aC, bE, aV, aE, bD, aF, aK, aB, aZ, aU, aD, dF, dZ, fX, eY, dT, dS, wk]
  refine (wX (room := (k : Nat)) (by omega) (by omega)).mono ?_
  rintro r w2 ⟨p, X, rfl, h2, hX2, x2⟩
  have x02 := x1.seq x2
  have z2 := x2.size
  have big2 : ∀ b, X b → w.heap.size ≤ b := fun b h => by have := hX2 b h; omega
  simp (disch := omega) only [bN, dE, aX, bC, cL, cH, cE, cI, cG, cB, dK, cY, bL, cF, cR, cK, cZ, cW, cN, cS, cX, cP, cO, cT, bV, cC, cM, cV, gD, gE, gG, gI, gH, gJ, gA, gF, gB, bG, Result.ok.injEq, Next.value.injEq, true_and, and_true, cA, cD, cU, cQ, cJ, dL, Int.toNat_natCast, bW, bY, bZ, bU, bP, bK, bR, bJ, bH, bF, if_true, if_false, Bool.false_eq_true, Nat.zero_add, Option.isNone_some, Option.isNone_none, Bool.not_true, Bool.not_false, List.getElem?_cons_succ, List.getElem?_cons_zero, aS, aI, aP, aW, aY, aO, bX, aA, aM, aJ, aH, aL, bA, bB, bQ, aN, aQ, aR, aG, aT, aC, bE, aV, aE, bD, aF, aK, aB, aZ, aU, aD, dF, dZ, fX, eY, dT, dS, wk]
  refine kO (by omega) (by omega) fun w3 o3 x3 s3 => ?_
  rw [Int.toNat_natCast] at o3 ⊢
  have x03 := x02.seq x3
  have hm : sS nA = true ∧ sS nB = true := ⟨by decide, by decide⟩
  obtain ⟨Z, hZ⟩ : ∃ Z, Z = List.replicate k (0 : UInt8) := ⟨_, rfl⟩
  have hZl : Z.length = k := by rw [hZ]; simp
  obtain ⟨b1, hb1⟩ : ∃ b1, b1 = over [] 0 Z := ⟨_, rfl⟩
  have hb1l : b1.length = k := by rw [hb1, nQ, hZl]; simp
  have W1 : vR (wG k) nA (0 : Nat) Z = (⟨k, [], [(nA, b1)], [⟨0, nA, ⟨#[]⟩, 0, Z⟩], -1, false⟩, 0) := by
    unfold wG
    rw [vG (old := []) hm.1 rfl (by simp), if_neg (by rw [hZl]; show ¬ ((k : Int) < ((0 + (0 + k - 0) : Nat) : Int)); omega), ← hb1] <;> rfl
  have fs1 : eA [(nA, b1)] = k := by show b1.length + 0 = k; omega
  have W2 : vR ⟨k, [], [(nA, b1)], [⟨0, nA, ⟨#[]⟩, 0, Z⟩], -1, false⟩ nB (0 : Nat) [1] = (⟨k, [], [(nA, b1)], [⟨0, nA, ⟨#[]⟩, 0, Z⟩], -1, false⟩, 22) := by
    rw [vG (old := []) hm.2 rfl (by simp), if_pos (by rw [fs1]; show (k : Int) < ((k + (0 + 1 - 0) : Nat) : Int); omega)]
  obtain ⟨q, hq⟩ : ∃ q, q = a % (k + 1) := ⟨_, rfl⟩
  have hqk : q ≤ k := by rw [hq]; have := Nat.mod_lt a (show 0 < k + 1 by omega); omega
  obtain ⟨b3, u3, e3, W3, hb3, hu3, he3⟩ : ∃ (b3 : List UInt8) (u3 : List qP) (e3 : Int), vR ⟨k, [], [(nA, b1)], [⟨0, nA, ⟨#[]⟩, 0, Z⟩], -1, false⟩ nA (q : Nat) (List.replicate n 0) = (⟨k, [], [(nA, b3)], u3, -1, false⟩, e3) ∧ b3.length = k ∧ u3.length ≤ 2 ∧ (e3 = 0 ∧ q + n ≤ k ∨ e3 = 22 ∧ k < q + n) := by
    rw [vG (old := b1) hm.1 rfl (by omega), fs1, List.length_replicate, hb1l]
    by_cases hs : (k : Int) < ((k + (q + n - k) : Nat) : Int)
    · rw [if_pos hs]
      exact ⟨b1, _, 22, rfl, hb1l, by simp, .inr ⟨rfl, by omega⟩⟩
    · rw [if_neg hs]
      exact ⟨over b1 q (List.replicate n 0), _, 0, rfl, by rw [nQ, hb1l, List.length_replicate]; omega, by simp, .inl ⟨rfl, by omega⟩⟩
  have fs3 : eA [(nA, b3)] = k := by show b3.length + 0 = k; omega
  have W4 : zO ⟨k, [], [(nA, b3)], u3, -1, false⟩ nA = (⟨k, [], [], u3 ++ [⟨2, nA, ⟨#[]⟩, 0, []⟩], -1, false⟩, 0) := by
    rw [zT (b := b3) rfl] <;> rfl
  have W5 : (vR ⟨k, [], [], u3 ++ [⟨2, nA, ⟨#[]⟩, 0, []⟩], -1, false⟩ nB (0 : Nat) Z).2 = 0 := by
    rw [vG (old := []) hm.2 rfl (by simp), if_neg (by rw [hZl]; show ¬ ((k : Int) < ((0 + (0 + k - 0) : Nat) : Int)); omega)]
  have B0 : wO (wG k) := zZ (by omega) (by show 0 ≤ _; omega) (by simp) (by omega)
  have B1 : wO ⟨k, [], [(nA, b1)], [⟨0, nA, ⟨#[]⟩, 0, Z⟩], -1, false⟩ := zZ (by omega) (by omega) (by simp) (by omega)
  have B3 : wO ⟨k, [], [(nA, b3)], u3, -1, false⟩ := zZ (by omega) (by omega) (by omega) (by omega)
  have B4 : wO ⟨k, [], [], u3 ++ [⟨2, nA, ⟨#[]⟩, 0, []⟩], -1, false⟩ := zZ (by omega) (by show 0 ≤ _; omega) (by rw [List.length_append]; simp; omega) (by omega)
  have zb3 := qT o3
  rw [← hZ] at zb3
  have e0 : ((0 : Nat) : Int) = 0 := rfl
  rw [e0] at W1 W2 W5
  refine (nG (a := 0) (l := Z) (name := nA) (h2.new x3) B0 zb3 (by omega) (by omega) (by omega)).mono ?_
  rintro r w4 ⟨rfl, hp4⟩
  rw [W1] at hp4 ⊢
  obtain ⟨X4, D4, h4, hX4, hD4, x4⟩ := hp4
  have x04 : dD w w4 jN := dD.big x03 x4 big2
  have z3 := x3.size
  have big4 : ∀ b, X4 b → w.heap.size ≤ b := fun b h => by rcases hX4 b h with h | h; exact big2 b h; omega
  simp (disch := omega) only [bN, dE, aX, bC, cL, cH, cE, cI, cG, cB, dK, cY, bL, cF, cR, cK, cZ, cW, cN, cS, cX, cP, cO, cT, bV, cC, cM, cV, gD, gE, gG, gI, gH, gJ, gA, gF, gB, bG, Result.ok.injEq, Next.value.injEq, true_and, and_true, cA, cD, cU, cQ, cJ, dL, Int.toNat_natCast, bW, bY, bZ, bU, bP, bK, bR, bJ, bH, bF, if_true, if_false, Bool.false_eq_true, Nat.zero_add, Option.isNone_some, Option.isNone_none, Bool.not_true, Bool.not_false, List.getElem?_cons_succ, List.getElem?_cons_zero, aS, aI, aP, aW, aY, aO, bX, aA, aM, aJ, aH, aL, bA, bB, bQ, aN, aQ, aR, aG, aT, aC, bE, aV, aE, bD, aF, aK, aB, aZ, aU, aD, dF, dZ, fX, eY, dT, dS]
  refine qB (cells := #[.int .u8 1]) (by decide) (by decide) (by kernel_rfl) fun w5 o5 x5 s5 => ?_
  have hb5 : Bs w5 (.slice (some ⟨w4.heap.size, 0, none⟩) 1 1) [1] := eQ.whole (l := [1]) (c := 1) o5 (by simp)
  have x05 := x04.seq x5
  have z5 := x05.size
  refine (nG (a := 0) (name := nB) (h4.new x5) B1 hb5 (by simp) (by omega) (by omega)).mono ?_
  rintro r w6 ⟨rfl, hp6⟩
  rw [W2] at hp6 ⊢
  obtain ⟨X6, D6, h6, hX6, hD6, x6⟩ := hp6
  have x06 : dD w w6 jN := dD.big x05 x6 big4
  have z6 := x06.size
  have big6 : ∀ b, X6 b → w.heap.size ≤ b := fun b h => by rcases hX6 b h with h | h; exact big4 b h; omega
  have wa : IntKind.i64.wrap (a : Int) = (a : Int) := cA (by omega) (by omega)
  have wn : IntKind.i64.wrap (n : Int) = (n : Int) := cA (by omega) (by omega)
  have ek : (k : Int) + 1 = ((k + 1 : Nat) : Int) := by omega
  have et : (a : Int).tmod ((k + 1 : Nat) : Int) = (q : Int) := by rw [Int.tmod_eq_emod_of_nonneg (by omega), hq]; simp
  simp (disch := omega) only [bN, dE, aX, bC, cL, cH, cE, cI, cG, cB, dK, cY, bL, cF, cR, cK, cZ, cW, cN, cS, cX, cP, cO, cT, bV, cC, cM, cV, gD, gE, gG, gI, gH, gJ, gA, gF, gB, bG, Result.ok.injEq, Next.value.injEq, true_and, and_true, cA, cD, cU, cQ, cJ, dL, Int.toNat_natCast, bW, bY, bZ, bU, bP, bK, bR, bJ, bH, bF, if_true, if_false, Bool.false_eq_true, Nat.zero_add, Option.isNone_some, Option.isNone_none, Bool.not_true, Bool.not_false, List.getElem?_cons_succ, List.getElem?_cons_zero, aS, aI, aP, aW, aY, aO, bX, aA, aM, aJ, aH, aL, bA, bB, bQ, aN, aQ, aR, aG, aT, aC, bE, aV, aE, bD, aF, aK, aB, aZ, aU, aD, dF, dZ, fX, eY, dT, dS, wa, wn, ek, et]
  refine kO (by omega) (by omega) fun w7 o7 x7 s7 => ?_
  rw [Int.toNat_natCast] at o7 ⊢
  have x07 := x06.seq x7
  have z7 := x07.size
  refine (nG (a := (q : Nat)) (name := nA) (h6.new x7) B1 (qT o7) (by simp; omega) (by omega) (by omega)).mono ?_
  rintro r w8 ⟨rfl, hp8⟩
  rw [W3] at hp8 ⊢
  obtain ⟨X8, D8, h8, hX8, hD8, x8⟩ := hp8
  have x08 : dD w w8 jN := dD.big x07 x8 big6
  have z8 := x08.size
  have big8 : ∀ b, X8 b → w.heap.size ≤ b := fun b h => by rcases hX8 b h with h | h; exact big6 b h; omega
  refine (wK (name := nA) h8 B3).mono ?_
  rintro r w9 ⟨rfl, hp9⟩
  rw [W4] at hp9 ⊢
  obtain ⟨X9, D9, h9, hX9, hD9, x9⟩ := hp9
  have x09 : dD w w9 jN := dD.big x08 x9 big8
  have z9 := x09.size
  have big9 : ∀ b, X9 b → w.heap.size ≤ b := fun b h => by rcases hX9 b h with h | h; exact big8 b h; omega
  refine kO (by omega) (by omega) fun wa' oa xa sa => ?_
  rw [Int.toNat_natCast] at oa ⊢
  have zba := qT oa
  rw [← hZ] at zba
  have x0a := x09.seq xa
  refine (nG (a := 0) (l := Z) (name := nB) (h9.new xa) B4 zba (by omega) (by omega) (by omega)).mono ?_
  rintro r wb ⟨rfl, hpb⟩
  obtain ⟨Xb, Db, hb', hXb, hDb, xb⟩ := hpb
  have x0b : dD w wb jN := dD.big x0a xb big9
  rw [W5]
  have n1 : ((0 : Int) == 0) = true := rfl
  have n2 : ((22 : Int) == 22) = true := rfl
  have n3 : ((22 : Int) == 0) = false := rfl
  have eq : (q : Int) + (n : Int) = ((q + n : Nat) : Int) := by omega
  rcases he3 with ⟨rfl, hle⟩ | ⟨rfl, hgt⟩
  · have d1 : decide (((q + n : Nat) : Int) ≤ (k : Int)) = true := by simp only [decide_eq_true_eq]; omega
    have nb : (true == true) = true := rfl
    simp (disch := omega) only [bN, dE, aX, bC, cL, cH, cE, cI, cG, cB, dK, cY, bL, cF, cR, cK, cZ, cW, cN, cS, cX, cP, cO, cT, bV, cC, cM, cV, gD, gE, gG, gI, gH, gJ, gA, gF, gB, bG, Result.ok.injEq, Next.value.injEq, true_and, and_true, cA, cD, cU, cQ, cJ, dL, Int.toNat_natCast, bW, bY, bZ, bU, bP, bK, bR, bJ, bH, bF, if_true, if_false, Bool.false_eq_true, Nat.zero_add, Option.isNone_some, Option.isNone_none, Bool.not_true, Bool.not_false, List.getElem?_cons_succ, List.getElem?_cons_zero, aS, aI, aP, aW, aY, aO, bX, aA, aM, aJ, aH, aL, bA, bB, bQ, aN, aQ, aR, aG, aT, aC, bE, aV, aE, bD, aF, aK, aB, aZ, aU, aD, dF, dZ, fX, eY, dT, dS, n1, n2, n3, wn, eq, d1, nb]
    exact x0b
  · have d1 : decide (((q + n : Nat) : Int) ≤ (k : Int)) = false := by simp only [decide_eq_false_iff_not]; omega
    have nb : (false == false) = true := rfl
    simp (disch := omega) only [bN, dE, aX, bC, cL, cH, cE, cI, cG, cB, dK, cY, bL, cF, cR, cK, cZ, cW, cN, cS, cX, cP, cO, cT, bV, cC, cM, cV, gD, gE, gG, gI, gH, gJ, gA, gF, gB, bG, Result.ok.injEq, Next.value.injEq, true_and, and_true, cA, cD, cU, cQ, cJ, dL, Int.toNat_natCast, bW, bY, bZ, bU, bP, bK, bR, bJ, bH, bF, if_true, if_false, Bool.false_eq_true, Nat.zero_add, Option.isNone_some, Option.isNone_none, Bool.not_true, Bool.not_false, List.getElem?_cons_succ, List.getElem?_cons_zero, aS, aI, aP, aW, aY, aO, bX, aA, aM, aJ, aH, aL, bA, bB, bQ, aN, aQ, aR, aG, aT, aC, bE, aV, aE, bD, aF, aK, aB, aZ, aU, aD, dF, dZ, fX, eY, dT, dS, n1, n2, n3, wn, eq, d1, nb]
    exact x0b
end Go.Proofs.Ytmhokapokchneaa
namespace Go.En
open Go Go.ChangeShapes Go.WideShapes Go.ChangeAt Go.RowKit
theorem rR {H : Type} {enc : TypeId × Value → H} {P : Program} (hl : laidOutB P = true) {W W' : World} (hb : Below W.heap.size W W') : ∀ (ts : List TypeId) (vs : List Value) (ds : List (DataW H)) (ps : List MemPlace),
    (ts.all fun t => P.readableRec t && decide (t < P.types.size)) = true → DataW.TrodAll enc P W 0 (fun _ => true) true ts vs ds ps → (∀ x ∈ ps, x.block < W.heap.size) →
    DataW.TrodAll enc P W' 0 (fun b => decide (b < W.heap.size)) true ts vs ds ps := by
  intro ts
  induction ts with
  | nil =>
    intro vs ds ps _ h _
    cases vs <;> cases ds <;> simp [DataW.TrodAll] at h ⊢
    exact h
  | cons t ts ih =>
    intro vs ds ps hr h hlt
    cases vs with
    | nil => simp [DataW.TrodAll] at h
    | cons v vs =>
      cases ds with
      | nil => simp [DataW.TrodAll] at h
      | cons d ds =>
        obtain ⟨p, q, h1, h2, rfl⟩ := h
        rw [List.all_cons, Bool.and_eq_true, Bool.and_eq_true, decide_eq_true_eq] at hr
        exact ⟨p, q, Below.trod hl hr.1.1 hr.1.2 h1 hb (fun x hx => hlt x (List.mem_append_left _ hx)), ih _ _ _ hr.2 h2 (fun x hx => hlt x (List.mem_append_right _ hx)), rfl⟩
theorem wS {H : Type} {enc : TypeId × Value → H} {P : Program} {f : Func} {s : ChangeSpec} {apart fresh handsOn : Bool} {tb : TypeId} {W W' : World} {args : Array Value} {ds gs : List (DataW H)} {before : List MemPlace}
    (hl : laidOutB P = true) (hr : (f.params.toList.all fun t => P.readableRec t && decide (t < P.types.size)) = true) (hres : f.resultTypes = #[tb]) (hbool : P.underlying tb = some .bool)
    (hW : DataW.Whole enc P f.params.toList s.vars apart W args.toList ds gs before) (hvars : s.vars = []) (h1 : (s.fn H (ds ++ gs)).results = [.lit (.bool true)]) (h2 : (s.fn H (ds ++ gs)).args = ds) (h3 : (s.fn H (ds ++ gs)).vars = [])
    (hx : dD W W' jN) : s.post enc P f apart fresh handsOn false W args (.bool true) W' := by
  have hb := hx.below
  have hlt : ∀ x ∈ before, x.block < W.heap.size := fun x hx => hW.lt x hx
  have hW' := hW
  obtain ⟨p, q, hA, hV, rfl, _, _⟩ := hW
  rw [hvars] at hV
  obtain ⟨_, rfl⟩ := trodVars_none hV
  rw [List.append_nil] at hW' hlt
  refine ⟨ds, gs, p, [], p, [], hW', ?_, ?_, ?_, hb.frame _, fun h => by cases h⟩
  · rw [h1, hres]
    exact trodAll_cons_mk (shut_bool hbool _) trodAll_mk0
  · rw [h2]; exact rR hl hb _ _ _ _ hr hA hlt
  · rw [h3, hvars] <;> rfl
end Go.En
