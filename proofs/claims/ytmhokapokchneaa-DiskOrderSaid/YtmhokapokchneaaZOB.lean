/- Parts of the proof of DiskOrder: merged and given short names by a program of ours. -/
import Derived.Shelf.SlMaps.Clone
import Derived.WalkKit
import Derived.ProofKit
import Derived.OpenShut
import Derived.Deep.Grids
import Derived.Deep.Matrix
import Derived.Test.YtmhokapokchneaaZOA
namespace Go.Proofs.Ytmhokapokchneaa
open Go Go.En Go.Pu
set_option maxRecDepth 4000
set_option linter.unusedSimpArgs false
set_option linter.unusedVariables false
abbrev dP (p : Nat) : Value := .pointer (some ⟨p, 0, none⟩)
def qR (w : World) (p : Nat) (X D : Nat → Prop) (S' : qT) (w' : World) : Prop := ∃ X' D', eX w' p X' D' S' ∧ (∀ b, X' b → X b ∨ w.heap.size ≤ b) ∧ (∀ b, D b → D' b) ∧ dQ w w' X
theorem qR.refl {w : World} {p : Nat} {X D : Nat → Prop} {S : qT} (h : eX w p X D S) : qR w p X D S w := ⟨X, D, h, fun _ h => .inl h, fun _ h => h, dQ.refl _ _⟩
theorem qR.step {w w1 w2 : World} {p : Nat} {X D X1 D1 : Nat → Prop} {S2 : qT} (x : dQ w w1 X) (hX : ∀ b, X1 b → X b ∨ w.heap.size ≤ b) (hD : ∀ b, D b → D1 b) (h : qR w1 p X1 D1 S2 w2) : qR w p X D S2 w2 := by
  obtain ⟨X2, D2, h1, h2, h4, h3⟩ := h
  have z := x.size
  refine ⟨X2, D2, h1, fun b hb => ?_, fun b hb => h4 b (hD b hb), x.trans h3 fun b hb hx => ?_⟩
  · rcases h2 b hb with h | h
    · exact hX b h
    · exact .inr (by omega)
  · rcases hX b hx with h | h
    · exact h
    · omega
theorem rH {w : World} {S T : Nat → Prop} {sz n : Nat} {v : Value} {l : List Value} (h : tY w S sz v n l) (hT : ∀ b, S b → T b) : tY w T sz v n l := by
  refine ⟨h.1, ?_⟩
  rcases h.2 with h2 | ⟨b, c, rest, h1, h2, h3⟩
  · exact .inl h2
  · exact .inr ⟨b, c, rest, h1, hT b h2, h3⟩
theorem xC {w : World} {S : Nat → Prop} {sz n : Nat} {v : Value} {l : List Value} (h : tY w S sz v n l) : tY w (fun b => S b ∧ b < w.heap.size) sz v n l := by
  refine ⟨h.1, ?_⟩
  rcases h.2 with h2 | ⟨b, c, rest, h1, h2, h3, h4⟩
  · exact .inl h2
  · exact .inr ⟨b, c, rest, h1, ⟨h2, h3.lt⟩, h3, h4⟩
theorem AR {p : Nat} {X D : Nat → Prop} {S : qT} {w : World} (h : eX w p X D S) : eE pg fR #[dP p] w (fun r w' => r = .int .i64 (if S.down then 20 else 0) ∧ w' = w) := by
  refine rJ ?_
  unfold rF kN
  obtain ⟨ms, mn, sv, ls, ln, cs, h1, h2, h3, h4, h5, h6, hXD, hDl, o, hms, hmn, hfs, hfn, hu, ho⟩ := h
  have c5 := o.cell (off := 5)
  simp only [List.getElem?_cons_zero, List.getElem?_cons_succ] at c5
  cases hd : S.down with
  | true =>
    rw [hd] at c5
    simp (disch := omega) only [bQ, dR, bA, bC, dJ, dK, cN, cR, cQ, cL, dV, cW, bO, dG, cX, dI, dB, dC, cO, dA, dD, cV, dE, cS, cD, cZ, cY, dF, gP, gN, gO, gM, gU, gQ, gW, gT, gX, bM, Result.ok.injEq, Next.value.injEq, true_and, and_true, cK, cU, cP, cM, dH, dW, Int.toNat_natCast, bZ, cC, cB, cF, bS, bN, bT, bL, bK, bH, if_true, if_false, Bool.false_eq_true, Nat.zero_add, Option.isNone_some, Option.isNone_none, Bool.not_true, Bool.not_false, List.getElem?_cons_succ, List.getElem?_cons_zero, aT, aI, aN, aV, aY, aP, cA, aA, aM, aH, aK, aJ, bD, bE, bU, aO, aQ, aR, aG, aS, aC, bG, aW, aF, bF, aE, aL, aD, aZ, aU, aB, c5]
  | false =>
    rw [hd] at c5
    simp (disch := omega) only [bQ, dR, bA, bC, dJ, dK, cN, cR, cQ, cL, dV, cW, bO, dG, cX, dI, dB, dC, cO, dA, dD, cV, dE, cS, cD, cZ, cY, dF, gP, gN, gO, gM, gU, gQ, gW, gT, gX, bM, Result.ok.injEq, Next.value.injEq, true_and, and_true, cK, cU, cP, cM, dH, dW, Int.toNat_natCast, bZ, cC, cB, cF, bS, bN, bT, bL, bK, bH, if_true, if_false, Bool.false_eq_true, Nat.zero_add, Option.isNone_some, Option.isNone_none, Bool.not_true, Bool.not_false, List.getElem?_cons_succ, List.getElem?_cons_zero, aT, aI, aN, aV, aY, aP, cA, aA, aM, aH, aK, aJ, bD, bE, bU, aO, aQ, aR, aG, aS, aC, bG, aW, aF, bF, aE, aL, aD, aZ, aU, aB, c5]
def rW (l : Int) : Int := if 0 < l then l - 1 else l
def yO (S : qT) : Bool := S.down || S.left == 0
theorem xL {p : Nat} {a b c d : Value} {left : Int} {down : Bool} {w : World} (o : fL w p [a, b, c, d, .int .i64 left, .bool down]) (hl : -1 ≤ left ∧ left ≤ 9223372036854775807) :
    eE pg fE #[dP p] w (fun r w' => r = .bool (down || left == 0) ∧ fL w' p [a, b, c, d, .int .i64 (rW left), .bool (down || left == 0)] ∧ dQ w w' (fun y => y = p)) := by
  refine pG ?_
  unfold nI iY jD rW
  have c4 := o.cell (off := 4)
  simp only [List.getElem?_cons_zero, List.getElem?_cons_succ] at c4
  by_cases h0 : left = 0
  · subst h0
    have n1 : ((0 : Int) == 0) = true := rfl
    simp (disch := omega) only [bQ, dR, bA, bC, dJ, dK, cN, cR, cQ, cL, dV, cW, bO, dG, cX, dI, dB, dC, cO, dA, dD, cV, dE, cS, cD, cZ, cY, dF, gP, gN, gO, gM, gU, gQ, gW, gT, gX, bM, Result.ok.injEq, Next.value.injEq, true_and, and_true, cK, cU, cP, cM, dH, dW, Int.toNat_natCast, bZ, cC, cB, cF, bS, bN, bT, bL, bK, bH, if_true, if_false, Bool.false_eq_true, Nat.zero_add, Option.isNone_some, Option.isNone_none, Bool.not_true, Bool.not_false, List.getElem?_cons_succ, List.getElem?_cons_zero, aT, aI, aN, aV, aY, aP, cA, aA, aM, aH, aK, aJ, bD, bE, bU, aO, aQ, aR, aG, aS, aC, bG, aW, aF, bF, aE, aL, aD, aZ, aU, aB, c4, n1]
    refine xA o rfl (by simp) fun w1 o1 x1 s1 => ?_
    simp only [List.set_cons_zero, List.set_cons_succ] at o1
    have c5 := o1.cell (off := 5)
    simp only [List.getElem?_cons_zero, List.getElem?_cons_succ] at c5
    unfold eN
    simp (disch := omega) only [bQ, dR, bA, bC, dJ, dK, cN, cR, cQ, cL, dV, cW, bO, dG, cX, dI, dB, dC, cO, dA, dD, cV, dE, cS, cD, cZ, cY, dF, gP, gN, gO, gM, gU, gQ, gW, gT, gX, bM, Result.ok.injEq, Next.value.injEq, true_and, and_true, cK, cU, cP, cM, dH, dW, Int.toNat_natCast, bZ, cC, cB, cF, bS, bN, bT, bL, bK, bH, if_true, if_false, Bool.false_eq_true, Nat.zero_add, Option.isNone_some, Option.isNone_none, Bool.not_true, Bool.not_false, List.getElem?_cons_succ, List.getElem?_cons_zero, aT, aI, aN, aV, aY, aP, cA, aA, aM, aH, aK, aJ, bD, bE, bU, aO, aQ, aR, aG, aS, aC, bG, aW, aF, bF, aE, aL, aD, aZ, aU, aB, c5]
    rw [Bool.or_true]
    exact ⟨rfl, o1, x1⟩
  have n1 : (left == 0) = false := beq_eq_false_iff_ne.2 h0
  rw [n1, Bool.or_false]
  by_cases h1 : 0 < left
  · have d1 : decide (0 < left) = true := by simpa using h1
    simp (disch := omega) only [bQ, dR, bA, bC, dJ, dK, cN, cR, cQ, cL, dV, cW, bO, dG, cX, dI, dB, dC, cO, dA, dD, cV, dE, cS, cD, cZ, cY, dF, gP, gN, gO, gM, gU, gQ, gW, gT, gX, bM, Result.ok.injEq, Next.value.injEq, true_and, and_true, cK, cU, cP, cM, dH, dW, Int.toNat_natCast, bZ, cC, cB, cF, bS, bN, bT, bL, bK, bH, if_true, if_false, Bool.false_eq_true, Nat.zero_add, Option.isNone_some, Option.isNone_none, Bool.not_true, Bool.not_false, List.getElem?_cons_succ, List.getElem?_cons_zero, aT, aI, aN, aV, aY, aP, cA, aA, aM, aH, aK, aJ, bD, bE, bU, aO, aQ, aR, aG, aS, aC, bG, aW, aF, bF, aE, aL, aD, aZ, aU, aB, c4, n1, d1]
    refine zO o rfl (by simp) fun w1 o1 x1 s1 => ?_
    simp only [List.set_cons_zero, List.set_cons_succ] at o1
    have c5 := o1.cell (off := 5)
    simp only [List.getElem?_cons_zero, List.getElem?_cons_succ] at c5
    unfold eN
    rw [if_pos h1]
    simp (disch := omega) only [bQ, dR, bA, bC, dJ, dK, cN, cR, cQ, cL, dV, cW, bO, dG, cX, dI, dB, dC, cO, dA, dD, cV, dE, cS, cD, cZ, cY, dF, gP, gN, gO, gM, gU, gQ, gW, gT, gX, bM, Result.ok.injEq, Next.value.injEq, true_and, and_true, cK, cU, cP, cM, dH, dW, Int.toNat_natCast, bZ, cC, cB, cF, bS, bN, bT, bL, bK, bH, if_true, if_false, Bool.false_eq_true, Nat.zero_add, Option.isNone_some, Option.isNone_none, Bool.not_true, Bool.not_false, List.getElem?_cons_succ, List.getElem?_cons_zero, aT, aI, aN, aV, aY, aP, cA, aA, aM, aH, aK, aJ, bD, bE, bU, aO, aQ, aR, aG, aS, aC, bG, aW, aF, bF, aE, aL, aD, aZ, aU, aB, c5]
    exact ⟨o1, x1⟩
  · have d1 : decide (0 < left) = false := by simpa using h1
    have c5 := o.cell (off := 5)
    simp only [List.getElem?_cons_zero, List.getElem?_cons_succ] at c5
    unfold eN
    rw [if_neg h1]
    simp (disch := omega) only [bQ, dR, bA, bC, dJ, dK, cN, cR, cQ, cL, dV, cW, bO, dG, cX, dI, dB, dC, cO, dA, dD, cV, dE, cS, cD, cZ, cY, dF, gP, gN, gO, gM, gU, gQ, gW, gT, gX, bM, Result.ok.injEq, Next.value.injEq, true_and, and_true, cK, cU, cP, cM, dH, dW, Int.toNat_natCast, bZ, cC, cB, cF, bS, bN, bT, bL, bK, bH, if_true, if_false, Bool.false_eq_true, Nat.zero_add, Option.isNone_some, Option.isNone_none, Bool.not_true, Bool.not_false, List.getElem?_cons_succ, List.getElem?_cons_zero, aT, aI, aN, aV, aY, aP, cA, aA, aM, aH, aK, aJ, bD, bE, bU, aO, aQ, aR, aG, aS, aC, bG, aW, aF, bF, aE, aL, aD, aZ, aU, aB, c4, c5, n1, d1]
    exact ⟨o, dQ.refl _ _⟩
def rI (S : qT) (o : sC) : qT × Int :=
  if yO S then ({ S with left := rW S.left, down := yO S }, 20)
  else ({ S with left := rW S.left, down := yO S, under := S.under ++ [o], seen := tL o S.seen }, 0)
theorem AN {p : Nat} {X D : Nat → Prop} {S : qT} {o : sC} {va : Option Addr} {vc : Nat} {w : World} (h : eX w p X D S) (hd : kK w D (.slice va o.bytes.length vc) o.bytes) (hl : -1 ≤ S.left ∧ S.left ≤ 9223372036854775807)
    (hs : eP S.seen ≤ 1099511627776) (ha : o.at' ≤ 1099511627776) (hb : o.bytes.length ≤ 1099511627776) (hu : S.under.length ≤ 1000000) :
    eE pg iA #[dP p, .agg (sB o (.slice va o.bytes.length vc)).toArray] w (fun r w' => r = .int .i64 (rI S o).2 ∧ qR w p X D (rI S o).1 w') := by
  refine qD ?_
  unfold pT jV
  refine uV fun w1 o1 x1 s1 => ?_
  have o1 : fL w1 w.heap.size (sB o (.slice va o.bytes.length vc)) := o1
  obtain ⟨ms, mn, sv, ls, ln, cs, h1, h2, h3, h4, h5, h6, hXD, hDl, op, hms, hmn, hfs, hfn, hun, hop⟩ := h.new x1
  have h7 := fun b (hb : X b) => hDl b (hXD b hb)
  have hX0 : ∀ b, X b → b < w.heap.size := by obtain ⟨_, _, _, _, _, _, _, _, _, _, _, _, q1, q2, _⟩ := h; exact fun b hb => q2 b (q1 b hb)
  refine (xL op hl).mono ?_
  rintro r w2 ⟨rfl, op2, x2⟩
  have x2X : dQ w1 w2 X := x2.mono fun b _ hb => hb ▸ h1
  have x2D : dQ w1 w2 D := x2X.mono fun b _ hb => hXD b hb
  have x02 : dQ w w2 X := (x1.mono fun _ _ h => h.elim).seq x2X
  have z2 := x2.size
  have hms2 := hms.ext x2 (fun h => h4 h.symm)
  have hmn2 := hmn.ext x2 (fun h => h5 h.symm)
  have hfs2 := hfs.ext x2D (fun b h => h)
  have hfn2 := hfn.ext x2D (fun b h => h)
  have hun2 := hun.ext x2 (fun b hb h => hb.2.1 h)
  have hop2 := hop.ext x2D (fun b h => h)
  have h72 : ∀ b, X b → b < w2.heap.size := fun b hb => by have := h7 b hb; omega
  have hD2 : ∀ b, D b → b < w2.heap.size := fun b hb => by have := hDl b hb; omega
  have hdn : (S.down || S.left == 0) = yO S := rfl
  rw [hdn] at *
  cases hD : yO S with
  | true =>
    have hE : rI S o = ({ S with left := rW S.left, down := yO S }, 20) := by unfold rI; rw [if_pos hD]
    rw [hE]
    simp (disch := omega) only [bQ, dR, bA, bC, dJ, dK, cN, cR, cQ, cL, dV, cW, bO, dG, cX, dI, dB, dC, cO, dA, dD, cV, dE, cS, cD, cZ, cY, dF, gP, gN, gO, gM, gU, gQ, gW, gT, gX, bM, Result.ok.injEq, Next.value.injEq, true_and, and_true, cK, cU, cP, cM, dH, dW, Int.toNat_natCast, bZ, cC, cB, cF, bS, bN, bT, bL, bK, bH, if_true, if_false, Bool.false_eq_true, Nat.zero_add, Option.isNone_some, Option.isNone_none, Bool.not_true, Bool.not_false, List.getElem?_cons_succ, List.getElem?_cons_zero, aT, aI, aN, aV, aY, aP, cA, aA, aM, aH, aK, aJ, bD, bE, bU, aO, aQ, aR, aG, aS, aC, bG, aW, aF, bF, aE, aL, aD, aZ, aU, aB]
    exact ⟨X, D, ⟨ms, mn, sv, ls, ln, cs, h1, h2, h3, h4, h5, h6, hXD, hD2, op2, hms2, hmn2, hfs2, hfn2, hun2, hop2⟩, fun _ h => .inl h, fun _ h => h, x02⟩
  | false =>
    have hE : rI S o = ({ S with left := rW S.left, down := yO S, under := S.under ++ [o], seen := tL o S.seen }, 0) := by unfold rI; rw [if_neg (by rw [hD]; decide)]
    rw [hE]
    have hb3 : ¬ (w.heap.size = p) := fun h => by have := hX0 p h1; omega
    have o12 := iC (o1.ext x2 hb3)
    have l1 := fA (off := 0) o12 (by unfold sB; simp)
    have l1' : ((sB o (.slice va o.bytes.length vc)).drop 0).take 5 = sB o (.slice va o.bytes.length vc) := rfl
    rw [l1'] at l1
    have op2d := iC op2
    have q3 := op2d.cell (off := 3)
    simp only [List.getElem?_cons_zero, List.getElem?_cons_succ] at q3
    simp (disch := omega) only [bQ, dR, bA, bC, dJ, dK, cN, cR, cQ, cL, dV, cW, bO, dG, cX, dI, dB, dC, cO, dA, dD, cV, dE, cS, cD, cZ, cY, dF, gP, gN, gO, gM, gU, gQ, gW, gT, gX, bM, Result.ok.injEq, Next.value.injEq, true_and, and_true, cK, cU, cP, cM, dH, dW, Int.toNat_natCast, bZ, cC, cB, cF, bS, bN, bT, bL, bK, bH, if_true, if_false, Bool.false_eq_true, Nat.zero_add, Option.isNone_some, Option.isNone_none, Bool.not_true, Bool.not_false, List.getElem?_cons_succ, List.getElem?_cons_zero, aT, aI, aN, aV, aY, aP, cA, aA, aM, aH, aK, aJ, bD, bE, bU, aO, aQ, aR, aG, aS, aC, bG, aW, aF, bF, aE, aL, aD, aZ, aU, aB, q3, l1]
    refine oZ (cells := (sB o (.slice va o.bytes.length vc)).toArray) (by decide) (by decide) (by kernel_rfl) fun w3 o3 x3 s3 => ?_
    have x3 : dQ w2 w3 kP := (dQ.dr _ _).seq x3
    have z3 := x3.size
    have s3 : w3.heap.size = w2.heap.size + 1 := s3
    have x03 : dQ w w3 X := x02.trans x3 fun _ _ h => h.elim
    have op3 := op2.ext x3 (fun h => h)
    have q3 := op3.cell (off := 3)
    have q3d := (iC op3).cell (off := 3)
    simp only [List.getElem?_cons_zero, List.getElem?_cons_succ] at q3 q3d
    have hu3 : tY w3 (fun b => (X b ∧ b ≠ p ∧ b ≠ ms ∧ b ≠ mn) ∨ w3.heap.size ≤ b) 5 sv S.under.length cs := rH (hun2.ext x3 (fun b _ h => h)) fun b h => .inl h
    have o3 : fL w3 w2.heap.size (sB o (.slice va o.bytes.length vc)) := o3
    simp (disch := omega) only [bQ, dR, bA, bC, dJ, dK, cN, cR, cQ, cL, dV, cW, bO, dG, cX, dI, dB, dC, cO, dA, dD, cV, dE, cS, cD, cZ, cY, dF, gP, gN, gO, gM, gU, gQ, gW, gT, gX, bM, Result.ok.injEq, Next.value.injEq, true_and, and_true, cK, cU, cP, cM, dH, dW, Int.toNat_natCast, bZ, cC, cB, cF, bS, bN, bT, bL, bK, bH, if_true, if_false, Bool.false_eq_true, Nat.zero_add, Option.isNone_some, Option.isNone_none, Bool.not_true, Bool.not_false, List.getElem?_cons_succ, List.getElem?_cons_zero, aT, aI, aN, aV, aY, aP, cA, aA, aM, aH, aK, aJ, bD, bE, bU, aO, aQ, aR, aG, aS, aC, bG, aW, aF, bF, aE, aL, aD, aZ, aU, aB, q3, q3d]
    refine pF (m := 1) (news := sB o (.slice va o.bytes.length vc)) (i := Try.t65) Try.underlying58 Try.underlying58 uI rfl rfl rfl hu3 (o3.cl (off := 0) (n := 1) rfl (fun i hi => by rw [Nat.zero_add])) (by unfold sB; simp [one]) (fun b hb => .inr hb) (by omega) (by rw [show Try.t65.bytes = 72 from rfl]; omega) (by decide) fun v4 w4 o4 x4 => ?_
    have z4 := x4.size
    have hp3 : p < w3.heap.size := op3.lt
    have hms3 := hms2.ext x3 (fun h => h)
    have hmn3 := hmn2.ext x3 (fun h => h)
    have hmsl := hms3.lt
    have hmnl := hmn3.lt
    have op4 := op3.ext x4 (by rintro (⟨_, h, _⟩ | h) <;> omega)
    have hms4 := hms3.ext x4 (by rintro (⟨_, _, h, _⟩ | h) <;> omega)
    have hmn4 := hmn3.ext x4 (by rintro (⟨_, _, _, h⟩ | h) <;> omega)
    obtain ⟨Y, hY⟩ : ∃ Y : Nat → Prop, Y = fun b => X b ∨ (w3.heap.size ≤ b ∧ b < w4.heap.size) := ⟨_, rfl⟩
    have hYX : ∀ b, X b → Y b := fun b h => by rw [hY]; exact .inl h
    have hY3 : ∀ b, Y b → X b ∨ w3.heap.size ≤ b := fun b h => by rw [hY] at h; rcases h with h | h; exact .inl h; exact .inr h.1
    have hY4 : ∀ b, Y b → b < w4.heap.size := fun b h => by
      rw [hY] at h
      rcases h with h | h
      · have := h72 b h; omega
      · exact h.2
    obtain ⟨E, hE'⟩ : ∃ E : Nat → Prop, E = fun b => D b ∨ (w3.heap.size ≤ b ∧ b < w4.heap.size) := ⟨_, rfl⟩
    have hED : ∀ b, D b → E b := fun b h => by rw [hE']; exact .inl h
    have hYE : ∀ b, Y b → E b := fun b h => by
      rw [hY] at h; rw [hE']
      rcases h with h | h
      · exact .inl (hXD b h)
      · exact .inr h
    have hE3 : ∀ b, E b → D b ∨ w3.heap.size ≤ b := fun b h => by rw [hE'] at h; rcases h with h | h; exact .inl h; exact .inr h.1
    have hE4 : ∀ b, E b → b < w4.heap.size := fun b h => by
      rw [hE'] at h
      rcases h with h | h
      · have := hD2 b h; omega
      · exact h.2
    have dat4 : ∀ v b, kK w3 D v b → kK w4 E v b := fun v b hd => by
      have h1 := (hd.sub (Y := fun b => D b ∨ w3.heap.size ≤ b) fun _ h => h).ext x4 (fun b h => by rcases h with h | h; exact .inl (hXD b h.1); exact .inr h)
      exact h1.sub fun b h => .inl (hE3 b h)
    have dat0 : ∀ v b, kK w2 D v b → kK w4 E v b := fun v b hd => dat4 v b (hd.ext x3 fun _ h => h.elim)
    refine hC op4 (by obtain ⟨a, c, e⟩ := o4.len; rw [e] <;> rfl) (by simp) fun w5 op5 x5 s5 => ?_
    simp only [List.set_cons_zero, List.set_cons_succ] at op5
    have hne4 : p ≠ ms ∧ p ≠ mn := ⟨h4, h5⟩
    have hms5 := hms4.ext x5 (fun h => h4 h.symm)
    have hmn5 := hmn4.ext x5 (fun h => h5 h.symm)
    have x5Y : dQ w4 w5 E := x5.mono fun b _ h => by rw [h]; exact hYE _ (hYX _ h1)
    have dat5 : ∀ v b, kK w2 D v b → kK w5 E v b := fun v b hd => (dat0 v b hd).ext x5Y fun _ h => h
    have o15 : fL w5 w.heap.size (sB o (.slice va o.bytes.length vc)) := by
      have h1 := (o1.ext x2 hb3).ext x3 (fun h => h)
      have h2 := h1.ext x4 (by rintro (⟨h, _⟩ | h); exact absurd (hX0 _ h) (by omega); omega)
      exact h2.ext x5 hb3
    have l5 := fA (off := 0) (iC o15) (by unfold sB; simp)
    rw [l1'] at l5
    have r2 := (iC op5).cell (off := 2)
    simp only [List.getElem?_cons_zero, List.getElem?_cons_succ] at r2
    simp (disch := omega) only [bQ, dR, bA, bC, dJ, dK, cN, cR, cQ, cL, dV, cW, bO, dG, cX, dI, dB, dC, cO, dA, dD, cV, dE, cS, cD, cZ, cY, dF, gP, gN, gO, gM, gU, gQ, gW, gT, gX, bM, Result.ok.injEq, Next.value.injEq, true_and, and_true, cK, cU, cP, cM, dH, dW, Int.toNat_natCast, bZ, cC, cB, cF, bS, bN, bT, bL, bK, bH, if_true, if_false, Bool.false_eq_true, Nat.zero_add, Option.isNone_some, Option.isNone_none, Bool.not_true, Bool.not_false, List.getElem?_cons_succ, List.getElem?_cons_zero, aT, aI, aN, aV, aY, aP, cA, aA, aM, aH, aK, aJ, bD, bE, bU, aO, aQ, aR, aG, aS, aC, bG, aW, aF, bF, aE, aL, aD, aZ, aU, aB, r2, l5]
    have hd5 : kK w5 E (.slice va o.bytes.length vc) o.bytes := dat5 _ _ ((hd.ext x1 fun _ h => h.elim).ext x2D fun _ h => h)
    have hE5 : ∀ b, E b → b < w5.heap.size := fun b h => by rw [s5]; exact hE4 b h
    refine (A5 (X := E) (c := S.seen) (o := o) (hmn5.dr) (hYE _ (hYX _ h3)) hE5 ((hfn2.map dat5).ext (dQ.dr _ kP) fun _ h => h.elim) (hd5.ext (dQ.dr _ kP) fun _ h => h.elim) hs ha hb).mono ?_
    rintro r w6 ⟨rfl, ln', hmn6, hfn6, x6⟩
    have x6 : dQ w5 w6 (fun b => b = mn) := (dQ.dr _ _).seq x6
    have x6Y : dQ w5 w6 E := x6.mono fun b _ h => by rw [h]; exact hYE _ (hYX _ h3)
    have z6 := x6.size
    have hou : tY w4 (fun b => Y b ∧ b ≠ p ∧ b ≠ ms ∧ b ≠ mn) 5 v4 (S.under.length + 1) (cs ++ sB o (.slice va o.bytes.length vc)) := rH (xC o4) fun b h => by
      rw [hY]
      rcases h with ⟨h | h, h'⟩
      · exact ⟨.inl h.1, h.2⟩
      · exact ⟨.inr ⟨h, h'⟩, by omega, by omega, by omega⟩
    refine ⟨Y, E, ⟨ms, mn, v4, ls, ln', cs ++ sB o (.slice va o.bytes.length vc), hYX _ h1, hYX _ h2, hYX _ h3, h4, h5, h6, hYE, fun b h => by have := hE5 b h; omega, op5.ext x6 (fun h => h5 h), hms5.ext x6 (fun h => h6 h), hmn6, (hfs2.map dat5).ext x6Y fun _ h => h, hfn6, ?_, ?_⟩, fun b h => ?_, hED, ?_⟩
    · show tY w6 _ 5 v4 (S.under ++ [o]).length _
      rw [List.length_append]
      exact (hou.ext x5 (fun b h e => h.2.1 e)).ext x6 (fun b h e => h.2.2.2 e)
    · exact (sK.snoc ⟨_, _, _, rfl⟩ hd5 (hop2.map dat5)).ext x6Y fun _ h => h
    · rcases hY3 b h with h | h
      · exact .inl h
      · exact .inr (by omega)
    · refine ((x03.trans x4 fun b hb h => ?_).trans x5 fun b hb h => by rw [h]; exact h1).trans x6 fun b hb h => by rw [h]; exact h3
      rcases h with h | h
      · exact h.1
      · omega
end Go.Proofs.Ytmhokapokchneaa
namespace Go.Proofs.Ytmhokapokchneaa
open Go Go.En
set_option linter.unusedVariables false
def Bj : Go.Shelf.Ren := ⟨fun x => if x = 5 then gS else if x = 7 then 36 else x, fun x => if x = 23 then 57 else if x = 25 then 9 else if x = 3 then 23 else if x = 4 then 4 else 20, fun x => x⟩
theorem Be : SlLaysW.n5 pg Bj where
  mixed := Try.checked.mixed
  f5 := ⟨Try.f27.name, by kernel_rfl, by kernel_rfl⟩
  f7 := by kernel_rfl
  t4 := by kernel_rfl
  a4 := fun w => by kernel_rfl
  z4 := fun w => by kernel_rfl
  v4 := fun w => by kernel_rfl
  t20 := by kernel_rfl
  a20 := fun w => by kernel_rfl
  z20 := fun w => by kernel_rfl
  v20 := fun w => by kernel_rfl
  t23 := by kernel_rfl
  a23 := fun w => by kernel_rfl
  z23 := fun w => by kernel_rfl
  v23 := fun w => by kernel_rfl
theorem vP {m : Nat} {l : List (ByteArray × Value)} {w : World} (hm : Mp w m rQ l) :
    eE pg gS #[.map (some m)] w (fun r w' => r = .map (some w.heap.size) ∧ Mp w' w.heap.size rQ l ∧ dQ w w' kP ∧ w'.heap.size = w.heap.size + 1) := by
  obtain ⟨es, c, hb, he, hg, hnd⟩ := hm
  refine ⟨_, _, AnyW.maps_Clone Be m es c w hb, rfl, ⟨es, c, ?_, he, hg, hnd⟩, dQ.alloc _ _ _, ?_⟩
  · show (w.heap.push _)[w.heap.size]? = _
    simp
  · show (w.heap.push _).size = _
    simp
end Go.Proofs.Ytmhokapokchneaa
namespace Go.Proofs.Ytmhokapokchneaa
open Go Go.En Go.Pu
set_option maxRecDepth 4000
set_option linter.unusedSimpArgs false
set_option linter.unusedVariables false
def AH (room : Int) : qT := ⟨room, [], [], [], -1, false⟩
theorem zT {room : Int} {w : World} (h0 : 0 ≤ room) (h1 : room ≤ 16777216) : eE pg lH #[.int .i64 room] w (fun r w' => ∃ p X, r = .tuple #[dP p, .int .i64 0] ∧ eX w' p X X (AH room) ∧ (∀ b, X b → w.heap.size ≤ b) ∧ dQ w w' kP) := by
  refine tK ?_
  unfold vW pU
  have d1 : decide (room < 0) = false := by simp; omega
  have d2 : decide (16777216 < room) = false := by simp; omega
  simp (disch := omega) only [bQ, dR, bA, bC, dJ, dK, cN, cR, cQ, cL, dV, cW, bO, dG, cX, dI, dB, dC, cO, dA, dD, cV, dE, cS, cD, cZ, cY, dF, gP, gN, gO, gM, gU, gQ, gW, gT, gX, bM, Result.ok.injEq, Next.value.injEq, true_and, and_true, cK, cU, cP, cM, dH, dW, Int.toNat_natCast, bZ, cC, cB, cF, bS, bN, bT, bL, bK, bH, if_true, if_false, Bool.false_eq_true, Nat.zero_add, Option.isNone_some, Option.isNone_none, Bool.not_true, Bool.not_false, List.getElem?_cons_succ, List.getElem?_cons_zero, aT, aI, aN, aV, aY, aP, cA, aA, aM, aH, aK, aJ, bD, bE, bU, aO, aQ, aR, aG, aS, aC, bG, aW, aF, bF, aE, aL, aD, aZ, aU, aB, d1, d2]
  refine qF fun w1 m1 x1 s1 => ?_
  refine qF fun w2 m2 x2 s2 => ?_
  simp (disch := omega) only [bQ, dR, bA, bC, dJ, dK, cN, cR, cQ, cL, dV, cW, bO, dG, cX, dI, dB, dC, cO, dA, dD, cV, dE, cS, cD, cZ, cY, dF, gP, gN, gO, gM, gU, gQ, gW, gT, gX, bM, Result.ok.injEq, Next.value.injEq, true_and, and_true, cK, cU, cP, cM, dH, dW, Int.toNat_natCast, bZ, cC, cB, cF, bS, bN, bT, bL, bK, bH, if_true, if_false, Bool.false_eq_true, Nat.zero_add, Option.isNone_some, Option.isNone_none, Bool.not_true, Bool.not_false, List.getElem?_cons_succ, List.getElem?_cons_zero, aT, aI, aN, aV, aY, aP, cA, aA, aM, aH, aK, aJ, bD, bE, bU, aO, aQ, aR, aG, aS, aC, bG, aW, aF, bF, aE, aL, aD, aZ, aU, aB]
  refine uV fun w3 o3 x3 s3 => ?_
  have o3 : fL w3 w2.heap.size [.int .i64 room, .map (some w.heap.size), .map (some w1.heap.size), .slice none 0 0, .int .i64 (-1), .bool false] := o3
  refine ⟨w2.heap.size, fun b => w.heap.size ≤ b ∧ b < w3.heap.size, rfl, ⟨w.heap.size, w1.heap.size, .slice none 0 0, [], [], [], ⟨by omega, by omega⟩, ⟨by omega, by omega⟩, ⟨by omega, by omega⟩, by omega, by omega, by omega, fun _ h => h, fun b h => h.2, o3, (m1.ext x2 (fun h => h)).ext x3 (fun h => h), m2.ext x3 (fun h => h), trivial, trivial, ⟨rfl, .inl ⟨rfl, rfl⟩⟩, rfl⟩, fun b h => h.1, (x1.seq x2).seq x3⟩
structure Ad (S : qT) : Prop where
  left : -1 ≤ S.left ∧ S.left ≤ 9223372036854775807
  seen : eP S.seen ≤ 1099511627776
  under : S.under.length ≤ 1000000
  room : 0 ≤ S.room ∧ S.room ≤ 16777216
theorem kK.slice {w : World} {X : Nat → Prop} {v : Value} {b : List UInt8} (h : kK w X v b) : ∃ a c, v = .slice a b.length c := by
  obtain ⟨a, c, e, _⟩ := h.1.len
  rw [List.length_map] at e
  exact ⟨a, c, e⟩
theorem sG.dat {w w0 : World} {X : Nat → Prop} {v : Value} {l : List UInt8} (h : sG w w0.heap.size 1 v l.length (l.map nD)) (hX : ∀ b, X b → b < w0.heap.size) : kK w X v l := by
  refine ⟨h.sl, fun hi => ?_⟩
  rcases h.2 with ⟨rfl, _⟩ | ⟨b, c, rest, rfl, h2, _⟩
  · exact hi
  · unfold uD at hi
    split at hi
    · rename_i e
      simp only [Value.slice.injEq, Option.some.injEq] at e
      obtain ⟨rfl, _⟩ := e
      have hi : X b := hi
      have := hX _ hi
      omega
    · exact hi
theorem eX.lt {w : World} {p : Nat} {X D : Nat → Prop} {S : qT} (h : eX w p X D S) : ∀ b, D b → b < w.heap.size := by
  obtain ⟨_, _, _, _, _, _, _, _, _, _, _, _, _, h7, _⟩ := h; exact h7
def uJ (S : qT) (name : ByteArray) : List UInt8 := (kM name S.seen).getD []
def AY (S : qT) (name : ByteArray) (a : Int) (n : Nat) : Int :=
  if S.down then 20 else if wS name = false ∨ a < 0 then 1 else if ((uJ S name).length : Int) < a then 17
  else if S.room < eP S.seen + max (a + n - (uJ S name).length) 0 then 22 else 0
def Ac (S : qT) (name : ByteArray) (a : Int) (l : List UInt8) : qT × Int :=
  if AY S name a l.length = 0 then rI S ⟨0, name, ⟨#[]⟩, a.toNat, l⟩ else (S, AY S name a l.length)
theorem vN {p : Nat} {X D : Nat → Prop} {S : qT} {name : ByteArray} {a : Int} {bv : Value} {l : List UInt8} {w : World} (h : eX w p X D S) (hB : Ad S) (hb : Bs w bv l) (hl : l.length ≤ 1000000000) (ha : a ≤ 9000000000000000000) (ha' : -9223372036854775808 ≤ a) :
    eE pg fG #[dP p, .string name, .int .i64 a, bv] w (fun r w' => r = .int .i64 (Ac S name a l).2 ∧ qR w p X D (Ac S name a l).1 w') := by
  refine pP ?_
  unfold nE iW
  obtain ⟨ba, bc, rfl, _⟩ := hb.len
  rw [List.length_map] at hb
  rw [List.length_map]
  obtain ⟨E, hE⟩ : ∃ E, AY S name a l.length = E := ⟨_, rfl⟩
  have hW : ∀ e, E = e → e ≠ 0 → Ac S name a l = (S, e) := fun e h1 h2 => by unfold Ac; rw [hE, h1, if_neg h2]
  refine (AR h).mono ?_
  rintro r w1 ⟨rfl, rfl⟩
  have hE0 := hE
  unfold AY at hE
  by_cases hd : S.down = true
  · rw [if_pos hd] at hE
    rw [hW 20 hE.symm (by decide), if_pos hd]
    have n1 : ((20 : Int) != 0) = true := rfl
    simp (disch := omega) only [bQ, dR, bA, bC, dJ, dK, cN, cR, cQ, cL, dV, cW, bO, dG, cX, dI, dB, dC, cO, dA, dD, cV, dE, cS, cD, cZ, cY, dF, gP, gN, gO, gM, gU, gQ, gW, gT, gX, bM, Result.ok.injEq, Next.value.injEq, true_and, and_true, cK, cU, cP, cM, dH, dW, Int.toNat_natCast, bZ, cC, cB, cF, bS, bN, bT, bL, bK, bH, if_true, if_false, Bool.false_eq_true, Nat.zero_add, Option.isNone_some, Option.isNone_none, Bool.not_true, Bool.not_false, List.getElem?_cons_succ, List.getElem?_cons_zero, aT, aI, aN, aV, aY, aP, cA, aA, aM, aH, aK, aJ, bD, bE, bU, aO, aQ, aR, aG, aS, aC, bG, aW, aF, bF, aE, aL, aD, aZ, aU, aB, n1]
    exact qR.refl h
  rw [if_neg hd] at hE
  rw [if_neg hd]
  have n1 : ((0 : Int) != 0) = false := rfl
  have h' := h
  obtain ⟨ms, mn, sv, ls, ln, cs, h1, h2, h3, h4, h5, h6, hXD, hDl, op, hms, hmn, hfs, hfn, hun, hop⟩ := h'
  have h7 : ∀ b, X b → b < w1.heap.size := fun b hb => hDl b (hXD b hb)
  have c2 := op.cell (off := 2)
  have c0d := (iC op).cell (off := 0)
  have c2d := (iC op).cell (off := 2)
  simp only [List.getElem?_cons_zero, List.getElem?_cons_succ] at c2 c0d c2d
  obtain ⟨oa, oc, ob, l0, hob⟩ : ∃ (oa : Option Addr) (oc : Nat) (ob : List UInt8), (mB 57 (.map (some mn)) (.string name) false).run pg w1 = .ok (.value (.slice oa ob.length oc)) w1 ∧ uJ S name = ob := by
    have l0 := sS hmn name
    unfold uJ
    rcases hfn.get name with ⟨q1, q2⟩ | ⟨v, b, q1, q2, q3⟩
    · rw [q1] at l0
      exact ⟨none, 0, [], l0, by rw [q2] <;> rfl⟩
    · obtain ⟨a', c', rfl⟩ := kK.slice q3
      rw [q1] at l0
      exact ⟨a', c', b, l0, by rw [q2] <;> rfl⟩
  rw [hob] at hE
  have holdlen : ob.length ≤ 1099511627776 := by rw [← hob]; have := uE (k := name) (c := S.seen); have := hB.seen; unfold uJ; omega
  simp (disch := omega) only [bQ, dR, bA, bC, dJ, dK, cN, cR, cQ, cL, dV, cW, bO, dG, cX, dI, dB, dC, cO, dA, dD, cV, dE, cS, cD, cZ, cY, dF, gP, gN, gO, gM, gU, gQ, gW, gT, gX, bM, Result.ok.injEq, Next.value.injEq, true_and, and_true, cK, cU, cP, cM, dH, dW, Int.toNat_natCast, bZ, cC, cB, cF, bS, bN, bT, bL, bK, bH, if_true, if_false, Bool.false_eq_true, Nat.zero_add, Option.isNone_some, Option.isNone_none, Bool.not_true, Bool.not_false, List.getElem?_cons_succ, List.getElem?_cons_zero, aT, aI, aN, aV, aY, aP, cA, aA, aM, aH, aK, aJ, bD, bE, bU, aO, aQ, aR, aG, aS, aC, bG, aW, aF, bF, aE, aL, aD, aZ, aU, aB, n1, c2, l0]
  refine (A7 name _).mono ?_
  rintro r w2 ⟨rfl, hw⟩
  rw [hw]; clear hw w2
  by_cases hmay : wS name = false
  · rw [if_pos (.inl hmay)] at hE
    rw [hW 1 hE.symm (by decide), hmay]
    simp (disch := omega) only [bQ, dR, bA, bC, dJ, dK, cN, cR, cQ, cL, dV, cW, bO, dG, cX, dI, dB, dC, cO, dA, dD, cV, dE, cS, cD, cZ, cY, dF, gP, gN, gO, gM, gU, gQ, gW, gT, gX, bM, Result.ok.injEq, Next.value.injEq, true_and, and_true, cK, cU, cP, cM, dH, dW, Int.toNat_natCast, bZ, cC, cB, cF, bS, bN, bT, bL, bK, bH, if_true, if_false, Bool.false_eq_true, Nat.zero_add, Option.isNone_some, Option.isNone_none, Bool.not_true, Bool.not_false, List.getElem?_cons_succ, List.getElem?_cons_zero, aT, aI, aN, aV, aY, aP, cA, aA, aM, aH, aK, aJ, bD, bE, bU, aO, aQ, aR, aG, aS, aC, bG, aW, aF, bF, aE, aL, aD, aZ, aU, aB]
    exact qR.refl h
  have hmay : wS name = true := by cases hq : wS name with | true => rfl | false => exact absurd hq hmay
  rw [hmay] at hE ⊢
  by_cases ha0 : a < 0
  · have d1 : decide (a < 0) = true := by simpa using ha0
    rw [if_pos (.inr ha0)] at hE
    rw [hW 1 hE.symm (by decide)]
    simp (disch := omega) only [bQ, dR, bA, bC, dJ, dK, cN, cR, cQ, cL, dV, cW, bO, dG, cX, dI, dB, dC, cO, dA, dD, cV, dE, cS, cD, cZ, cY, dF, gP, gN, gO, gM, gU, gQ, gW, gT, gX, bM, Result.ok.injEq, Next.value.injEq, true_and, and_true, cK, cU, cP, cM, dH, dW, Int.toNat_natCast, bZ, cC, cB, cF, bS, bN, bT, bL, bK, bH, if_true, if_false, Bool.false_eq_true, Nat.zero_add, Option.isNone_some, Option.isNone_none, Bool.not_true, Bool.not_false, List.getElem?_cons_succ, List.getElem?_cons_zero, aT, aI, aN, aV, aY, aP, cA, aA, aM, aH, aK, aJ, bD, bE, bU, aO, aQ, aR, aG, aS, aC, bG, aW, aF, bF, aE, aL, aD, aZ, aU, aB, d1]
    exact qR.refl h
  have d1 : decide (a < 0) = false := by simpa using ha0
  rw [if_neg (by rintro (h | h); cases h; exact ha0 h)] at hE
  by_cases ha1 : (ob.length : Int) < a
  · have d2 : decide ((ob.length : Int) < a) = true := by simpa using ha1
    rw [if_pos ha1] at hE
    rw [hW 17 hE.symm (by decide)]
    simp (disch := omega) only [bQ, dR, bA, bC, dJ, dK, cN, cR, cQ, cL, dV, cW, bO, dG, cX, dI, dB, dC, cO, dA, dD, cV, dE, cS, cD, cZ, cY, dF, gP, gN, gO, gM, gU, gQ, gW, gT, gX, bM, Result.ok.injEq, Next.value.injEq, true_and, and_true, cK, cU, cP, cM, dH, dW, Int.toNat_natCast, bZ, cC, cB, cF, bS, bN, bT, bL, bK, bH, if_true, if_false, Bool.false_eq_true, Nat.zero_add, Option.isNone_some, Option.isNone_none, Bool.not_true, Bool.not_false, List.getElem?_cons_succ, List.getElem?_cons_zero, aT, aI, aN, aV, aY, aP, cA, aA, aM, aH, aK, aJ, bD, bE, bU, aO, aQ, aR, aG, aS, aC, bG, aW, aF, bF, aE, aL, aD, aZ, aU, aB, d1, d2]
    exact qR.refl h
  have d2 : decide ((ob.length : Int) < a) = false := by simpa using ha1
  rw [if_neg ha1] at hE
  have hbs := hB.seen
  have hbr := hB.room
  obtain ⟨k, rfl⟩ : ∃ k : Nat, a = k := ⟨a.toNat, by omega⟩
  simp (disch := omega) only [bQ, dR, bA, bC, dJ, dK, cN, cR, cQ, cL, dV, cW, bO, dG, cX, dI, dB, dC, cO, dA, dD, cV, dE, cS, cD, cZ, cY, dF, gP, gN, gO, gM, gU, gQ, gW, gT, gX, bM, Result.ok.injEq, Next.value.injEq, true_and, and_true, cK, cU, cP, cM, dH, dW, Int.toNat_natCast, bZ, cC, cB, cF, bS, bN, bT, bL, bK, bH, if_true, if_false, Bool.false_eq_true, Nat.zero_add, Option.isNone_some, Option.isNone_none, Bool.not_true, Bool.not_false, List.getElem?_cons_succ, List.getElem?_cons_zero, aT, aI, aN, aV, aY, aP, cA, aA, aM, aH, aK, aJ, bD, bE, bU, aO, aQ, aR, aG, aS, aC, bG, aW, aF, bF, aE, aL, aD, aZ, aU, aB, d1, d2, c2d]
  refine (AL (c := S.seen) hmn.dr (hfn.ext (dQ.dr _ kP) fun _ h => h.elim) hbs).mono ?_
  rintro r w2 ⟨rfl, x2⟩
  have x2 : dQ w1 w2 kP := (dQ.dr _ _).seq x2
  have op2 := op.ext x2 (fun h => h)
  have r0 := op2.cell (off := 0)
  have r0d := (iC op2).cell (off := 0)
  simp only [List.getElem?_cons_zero, List.getElem?_cons_succ] at r0 r0d
  have e1 : (k : Int) + (l.length : Int) = ((k + l.length : Nat) : Int) := by omega
  obtain ⟨q, hq⟩ : ∃ q : Nat, max (((k + l.length : Nat) : Int) - (ob.length : Int)) 0 = q := ⟨(max (((k + l.length : Nat) : Int) - (ob.length : Int)) 0).toNat, by omega⟩
  have hmax : (if (0 : Int) > ((k + l.length : Nat) : Int) - (ob.length : Int) then (0 : Int) else ((k + l.length : Nat) : Int) - (ob.length : Int)) = (q : Nat) := by
    split <;> omega
  have e2 : ((eP S.seen : Nat) : Int) + (q : Int) = ((eP S.seen + q : Nat) : Int) := by omega
  rw [e1, hq, e2] at hE
  by_cases hsp : S.room < ((eP S.seen + q : Nat) : Int)
  · have d3 : decide (S.room < ((eP S.seen + q : Nat) : Int)) = true := by simpa using hsp
    rw [if_pos hsp] at hE
    rw [hW 22 hE.symm (by decide)]
    simp (disch := omega) only [bQ, dR, bA, bC, dJ, dK, cN, cR, cQ, cL, dV, cW, bO, dG, cX, dI, dB, dC, cO, dA, dD, cV, dE, cS, cD, cZ, cY, dF, gP, gN, gO, gM, gU, gQ, gW, gT, gX, bM, Result.ok.injEq, Next.value.injEq, true_and, and_true, cK, cU, cP, cM, dH, dW, Int.toNat_natCast, bZ, cC, cB, cF, bS, bN, bT, bL, bK, bH, if_true, if_false, Bool.false_eq_true, Nat.zero_add, Option.isNone_some, Option.isNone_none, Bool.not_true, Bool.not_false, List.getElem?_cons_succ, List.getElem?_cons_zero, aT, aI, aN, aV, aY, aP, cA, aA, aM, aH, aK, aJ, bD, bE, bU, aO, aQ, aR, aG, aS, aC, bG, aW, aF, bF, aE, aL, aD, aZ, aU, aB, d1, d2, r0, r0d, c0d, e1, hmax, e2, d3]
    exact ⟨X, D, h.new x2, fun _ h => .inl h, fun _ h => h, x2.mono fun _ _ h => h.elim⟩
  have d3 : decide (S.room < ((eP S.seen + q : Nat) : Int)) = false := by simpa using hsp
  rw [if_neg hsp] at hE
  have hW0 : Ac S name k l = rI S ⟨0, name, ⟨#[]⟩, k, l⟩ := by unfold Ac; rw [hE0, ← hE, if_pos rfl, Int.toNat_natCast]
  rw [hW0]
  simp (disch := omega) only [bQ, dR, bA, bC, dJ, dK, cN, cR, cQ, cL, dV, cW, bO, dG, cX, dI, dB, dC, cO, dA, dD, cV, dE, cS, cD, cZ, cY, dF, gP, gN, gO, gM, gU, gQ, gW, gT, gX, bM, Result.ok.injEq, Next.value.injEq, true_and, and_true, cK, cU, cP, cM, dH, dW, Int.toNat_natCast, bZ, cC, cB, cF, bS, bN, bT, bL, bK, bH, if_true, if_false, Bool.false_eq_true, Nat.zero_add, Option.isNone_some, Option.isNone_none, Bool.not_true, Bool.not_false, List.getElem?_cons_succ, List.getElem?_cons_zero, aT, aI, aN, aV, aY, aP, cA, aA, aM, aH, aK, aJ, bD, bE, bU, aO, aQ, aR, aG, aS, aC, bG, aW, aF, bF, aE, aL, aD, aZ, aU, aB, d1, d2, r0, r0d, c0d, e1, hmax, e2, d3]
  refine (xB (hb.ext x2 (jO _)) hl).mono ?_
  rintro r w3 ⟨ho, x3⟩
  obtain ⟨va, vc, rfl⟩ := ho.len
  have h2' := h.new x2
  have hd3 : kK w3 D (.slice va l.length vc) l := sG.dat ho fun b hb => eX.lt h2' b hb
  have opE : sB ⟨0, name, ⟨#[]⟩, k, l⟩ (.slice va l.length vc) = [.int .i64 0, .string name, .string ⟨#[]⟩, .int .i64 k, .slice va l.length vc] := rfl
  have hdn := AN (o := ⟨0, name, ⟨#[]⟩, k, l⟩) (h2'.new x3) hd3 hB.left hbs (show k ≤ 1099511627776 by omega) (show l.length ≤ 1099511627776 by omega) hB.under
  rw [opE] at hdn
  simp (disch := omega) only [bQ, dR, bA, bC, dJ, dK, cN, cR, cQ, cL, dV, cW, bO, dG, cX, dI, dB, dC, cO, dA, dD, cV, dE, cS, cD, cZ, cY, dF, gP, gN, gO, gM, gU, gQ, gW, gT, gX, bM, Result.ok.injEq, Next.value.injEq, true_and, and_true, cK, cU, cP, cM, dH, dW, Int.toNat_natCast, bZ, cC, cB, cF, bS, bN, bT, bL, bK, bH, if_true, if_false, Bool.false_eq_true, Nat.zero_add, Option.isNone_some, Option.isNone_none, Bool.not_true, Bool.not_false, List.getElem?_cons_succ, List.getElem?_cons_zero, aT, aI, aN, aV, aY, aP, cA, aA, aM, aH, aK, aJ, bD, bE, bU, aO, aQ, aR, aG, aS, aC, bG, aW, aF, bF, aE, aL, aD, aZ, aU, aB]
  refine hdn.mono ?_
  rintro r w4 ⟨rfl, hp⟩
  exact ⟨rfl, qR.step ((x2.seq x3).mono fun _ _ h => h.elim) (fun _ h => .inl h) (fun _ h => h) hp⟩
theorem uT {p : Nat} {X D : Nat → Prop} {S : qT} {name : ByteArray} {w : World} (h : eX w p X D S) (hB : Ad S) (hsz : ∀ b, kM name S.seen = some b → b.length ≤ 1000000000) :
    eE pg eU #[dP p, .string name] w (fun r w' => ((S.down = true ∧ r = .tuple #[.slice none 0 0, .int .i64 20]) ∨ (S.down = false ∧ kM name S.seen = none ∧ r = .tuple #[.slice none 0 0, .int .i64 21]) ∨
      (S.down = false ∧ ∃ b v, kM name S.seen = some b ∧ r = .tuple #[v, .int .i64 0] ∧ sG w' w.heap.size 1 v b.length (b.map nD))) ∧ dQ w w' kP) := by
  refine qC ?_
  obtain ⟨RR, hRR⟩ : ∃ RR : Value → World → Prop, RR = fun r w' => ((S.down = true ∧ r = .tuple #[.slice none 0 0, .int .i64 20]) ∨ (S.down = false ∧ kM name S.seen = none ∧ r = .tuple #[.slice none 0 0, .int .i64 21]) ∨
      (S.down = false ∧ ∃ b v, kM name S.seen = some b ∧ r = .tuple #[v, .int .i64 0] ∧ sG w' w.heap.size 1 v b.length (b.map nD))) ∧ dQ w w' kP := ⟨_, rfl⟩
  rw [← hRR]
  unfold oY jS
  refine (AR h).mono ?_
  rintro r w1 ⟨rfl, rfl⟩
  by_cases hd : S.down = true
  · rw [if_pos hd]
    have n1 : ((20 : Int) != 0) = true := rfl
    simp (disch := omega) only [bQ, dR, bA, bC, dJ, dK, cN, cR, cQ, cL, dV, cW, bO, dG, cX, dI, dB, dC, cO, dA, dD, cV, dE, cS, cD, cZ, cY, dF, gP, gN, gO, gM, gU, gQ, gW, gT, gX, bM, Result.ok.injEq, Next.value.injEq, true_and, and_true, cK, cU, cP, cM, dH, dW, Int.toNat_natCast, bZ, cC, cB, cF, bS, bN, bT, bL, bK, bH, if_true, if_false, Bool.false_eq_true, Nat.zero_add, Option.isNone_some, Option.isNone_none, Bool.not_true, Bool.not_false, List.getElem?_cons_succ, List.getElem?_cons_zero, aT, aI, aN, aV, aY, aP, cA, aA, aM, aH, aK, aJ, bD, bE, bU, aO, aQ, aR, aG, aS, aC, bG, aW, aF, bF, aE, aL, aD, aZ, aU, aB, n1]
    rw [hRR]
    exact ⟨.inl ⟨hd, rfl⟩, dQ.refl _ _⟩
  have hd' : S.down = false := by cases hq : S.down with | true => exact absurd hq hd | false => rfl
  rw [if_neg hd]
  have n1 : ((0 : Int) != 0) = false := rfl
  obtain ⟨ms, mn, sv, ls, ln, cs, h1, h2, h3, h4, h5, h6, hXD, hDl, op, hms, hmn, hfs, hfn, hun, hop⟩ := h
  have h7 := fun b (hb : X b) => hDl b (hXD b hb)
  have c2 := op.cell (off := 2)
  simp only [List.getElem?_cons_zero, List.getElem?_cons_succ] at c2
  have l0 := qH hmn name
  rcases hfn.get name with ⟨q1, q2⟩ | ⟨v, b, q1, q2, q3⟩
  · rw [q1] at l0
    have l0 : (mB 57 (.map (some mn)) (.string name) true).run pg w1 = .ok (.value (.tuple #[.slice none 0 0, .bool false])) w1 := l0
    simp (disch := omega) only [bQ, dR, bA, bC, dJ, dK, cN, cR, cQ, cL, dV, cW, bO, dG, cX, dI, dB, dC, cO, dA, dD, cV, dE, cS, cD, cZ, cY, dF, gP, gN, gO, gM, gU, gQ, gW, gT, gX, bM, Result.ok.injEq, Next.value.injEq, true_and, and_true, cK, cU, cP, cM, dH, dW, Int.toNat_natCast, bZ, cC, cB, cF, bS, bN, bT, bL, bK, bH, if_true, if_false, Bool.false_eq_true, Nat.zero_add, Option.isNone_some, Option.isNone_none, Bool.not_true, Bool.not_false, List.getElem?_cons_succ, List.getElem?_cons_zero, aT, aI, aN, aV, aY, aP, cA, aA, aM, aH, aK, aJ, bD, bE, bU, aO, aQ, aR, aG, aS, aC, bG, aW, aF, bF, aE, aL, aD, aZ, aU, aB, n1, c2, l0]
    rw [hRR]
    exact ⟨.inr (.inl ⟨hd', q2, rfl⟩), dQ.refl _ _⟩
  · obtain ⟨a', c', rfl⟩ := kK.slice q3
    rw [q1] at l0
    have l0 : (mB 57 (.map (some mn)) (.string name) true).run pg w1 = .ok (.value (.tuple #[.slice a' b.length c', .bool true])) w1 := l0
    simp (disch := omega) only [bQ, dR, bA, bC, dJ, dK, cN, cR, cQ, cL, dV, cW, bO, dG, cX, dI, dB, dC, cO, dA, dD, cV, dE, cS, cD, cZ, cY, dF, gP, gN, gO, gM, gU, gQ, gW, gT, gX, bM, Result.ok.injEq, Next.value.injEq, true_and, and_true, cK, cU, cP, cM, dH, dW, Int.toNat_natCast, bZ, cC, cB, cF, bS, bN, bT, bL, bK, bH, if_true, if_false, Bool.false_eq_true, Nat.zero_add, Option.isNone_some, Option.isNone_none, Bool.not_true, Bool.not_false, List.getElem?_cons_succ, List.getElem?_cons_zero, aT, aI, aN, aV, aY, aP, cA, aA, aM, aH, aK, aJ, bD, bE, bU, aO, aQ, aR, aG, aS, aC, bG, aW, aF, bF, aE, aL, aD, aZ, aU, aB, n1, c2, l0]
    refine (xB q3.1 (hsz b q2)).mono ?_
    rintro r w2 ⟨ho, x2⟩
    rw [hRR]
    exact ⟨.inr (.inr ⟨hd', b, r, q2, rfl, ho⟩), x2⟩
theorem pZ {p : Nat} {X D : Nat → Prop} {S : qT} {w : World} (h : eX w p X D S) : eE pg eJ #[dP p] w (fun r w' => r = .int .i64 (S.under.length : Nat) ∧ w' = w) := by
  refine mZ ?_
  unfold lN hO
  obtain ⟨ms, mn, sv, ls, ln, cs, h1, h2, h3, h4, h5, h6, hXD, hDl, op, hms, hmn, hfs, hfn, hun, hop⟩ := h
  have h7 := fun b (hb : X b) => hDl b (hXD b hb)
  have c3 := op.cell (off := 3)
  simp only [List.getElem?_cons_zero, List.getElem?_cons_succ] at c3
  obtain ⟨ua, uc, rfl⟩ := hun.len
  simp (disch := omega) only [bQ, dR, bA, bC, dJ, dK, cN, cR, cQ, cL, dV, cW, bO, dG, cX, dI, dB, dC, cO, dA, dD, cV, dE, cS, cD, cZ, cY, dF, gP, gN, gO, gM, gU, gQ, gW, gT, gX, bM, Result.ok.injEq, Next.value.injEq, true_and, and_true, cK, cU, cP, cM, dH, dW, Int.toNat_natCast, bZ, cC, cB, cF, bS, bN, bT, bL, bK, bH, if_true, if_false, Bool.false_eq_true, Nat.zero_add, Option.isNone_some, Option.isNone_none, Bool.not_true, Bool.not_false, List.getElem?_cons_succ, List.getElem?_cons_zero, aT, aI, aN, aV, aY, aP, cA, aA, aM, aH, aK, aJ, bD, bE, bU, aO, aQ, aR, aG, aS, aC, bG, aW, aF, bF, aE, aL, aD, aZ, aU, aB, c3]
end Go.Proofs.Ytmhokapokchneaa
namespace Go.Proofs.Ytmhokapokchneaa
open Go Go.En Go.Pu
set_option maxRecDepth 4000
set_option linter.unusedSimpArgs false
set_option linter.unusedVariables false
def Ba (S : qT) : qT × Int :=
  if S.down then (S, 20) else if yO S then ({ S with left := rW S.left, down := yO S }, 20)
  else ({ S with left := rW S.left, down := yO S, sure := S.seen, under := [] }, 0)
theorem AE {p : Nat} {X D : Nat → Prop} {S : qT} {w : World} (h : eX w p X D S) (hB : Ad S) :
    eE pg hZ #[dP p] w (fun r w' => r = .int .i64 (Ba S).2 ∧ qR w p X D (Ba S).1 w') := by
  refine qE ?_
  unfold pQ jW Ba
  refine (AR h).mono ?_
  rintro r w1 ⟨rfl, rfl⟩
  by_cases hd : S.down = true
  · rw [if_pos hd, if_pos hd]
    have n1 : ((20 : Int) != 0) = true := rfl
    simp (disch := omega) only [bQ, dR, bA, bC, dJ, dK, cN, cR, cQ, cL, dV, cW, bO, dG, cX, dI, dB, dC, cO, dA, dD, cV, dE, cS, cD, cZ, cY, dF, gP, gN, gO, gM, gU, gQ, gW, gT, gX, bM, Result.ok.injEq, Next.value.injEq, true_and, and_true, cK, cU, cP, cM, dH, dW, Int.toNat_natCast, bZ, cC, cB, cF, bS, bN, bT, bL, bK, bH, if_true, if_false, Bool.false_eq_true, Nat.zero_add, Option.isNone_some, Option.isNone_none, Bool.not_true, Bool.not_false, List.getElem?_cons_succ, List.getElem?_cons_zero, aT, aI, aN, aV, aY, aP, cA, aA, aM, aH, aK, aJ, bD, bE, bU, aO, aQ, aR, aG, aS, aC, bG, aW, aF, bF, aE, aL, aD, aZ, aU, aB, n1]
    exact qR.refl h
  rw [if_neg hd, if_neg hd]
  have n1 : ((0 : Int) != 0) = false := rfl
  obtain ⟨ms, mn, sv, ls, ln, cs, h1, h2, h3, h4, h5, h6, hXD, hDl, op, hms, hmn, hfs, hfn, hun, hop⟩ := h
  have h7 := fun b (hb : X b) => hDl b (hXD b hb)
  simp (disch := omega) only [bQ, dR, bA, bC, dJ, dK, cN, cR, cQ, cL, dV, cW, bO, dG, cX, dI, dB, dC, cO, dA, dD, cV, dE, cS, cD, cZ, cY, dF, gP, gN, gO, gM, gU, gQ, gW, gT, gX, bM, Result.ok.injEq, Next.value.injEq, true_and, and_true, cK, cU, cP, cM, dH, dW, Int.toNat_natCast, bZ, cC, cB, cF, bS, bN, bT, bL, bK, bH, if_true, if_false, Bool.false_eq_true, Nat.zero_add, Option.isNone_some, Option.isNone_none, Bool.not_true, Bool.not_false, List.getElem?_cons_succ, List.getElem?_cons_zero, aT, aI, aN, aV, aY, aP, cA, aA, aM, aH, aK, aJ, bD, bE, bU, aO, aQ, aR, aG, aS, aC, bG, aW, aF, bF, aE, aL, aD, aZ, aU, aB, n1]
  refine (xL op hB.left).mono ?_
  rintro r w2 ⟨rfl, op2, x2⟩
  have hdn : (S.down || S.left == 0) = yO S := rfl
  rw [hdn] at op2 ⊢
  have xX : dQ w1 w2 X := x2.mono fun b _ h => h ▸ h1
  have xD : dQ w1 w2 D := xX.mono fun b _ h => hXD b h
  have z2 := x2.size
  have h72 : ∀ b, X b → b < w2.heap.size := fun b hb => by have := h7 b hb; omega
  have hD2 : ∀ b, D b → b < w2.heap.size := fun b hb => by have := hDl b hb; omega
  have hms2 := hms.ext x2 (fun h => h4 h.symm)
  have hmn2 := hmn.ext x2 (fun h => h5 h.symm)
  have hfs2 := hfs.ext xD fun _ h => h
  have hfn2 := hfn.ext xD fun _ h => h
  cases hD : yO S with
  | true =>
    rw [hD] at op2
    rw [if_pos rfl]
    simp (disch := omega) only [bQ, dR, bA, bC, dJ, dK, cN, cR, cQ, cL, dV, cW, bO, dG, cX, dI, dB, dC, cO, dA, dD, cV, dE, cS, cD, cZ, cY, dF, gP, gN, gO, gM, gU, gQ, gW, gT, gX, bM, Result.ok.injEq, Next.value.injEq, true_and, and_true, cK, cU, cP, cM, dH, dW, Int.toNat_natCast, bZ, cC, cB, cF, bS, bN, bT, bL, bK, bH, if_true, if_false, Bool.false_eq_true, Nat.zero_add, Option.isNone_some, Option.isNone_none, Bool.not_true, Bool.not_false, List.getElem?_cons_succ, List.getElem?_cons_zero, aT, aI, aN, aV, aY, aP, cA, aA, aM, aH, aK, aJ, bD, bE, bU, aO, aQ, aR, aG, aS, aC, bG, aW, aF, bF, aE, aL, aD, aZ, aU, aB]
    exact ⟨X, D, ⟨ms, mn, sv, ls, ln, cs, h1, h2, h3, h4, h5, h6, hXD, hD2, op2, hms2, hmn2, hfs2, hfn2, hun.ext x2 (fun b hb h => hb.2.1 h), hop.ext xD fun _ h => h⟩, fun _ h => .inl h, fun _ h => h, xX⟩
  | false =>
    rw [hD] at op2
    rw [if_neg (by decide)]
    have c2 := op2.cell (off := 2)
    simp only [List.getElem?_cons_zero, List.getElem?_cons_succ] at c2
    simp (disch := omega) only [bQ, dR, bA, bC, dJ, dK, cN, cR, cQ, cL, dV, cW, bO, dG, cX, dI, dB, dC, cO, dA, dD, cV, dE, cS, cD, cZ, cY, dF, gP, gN, gO, gM, gU, gQ, gW, gT, gX, bM, Result.ok.injEq, Next.value.injEq, true_and, and_true, cK, cU, cP, cM, dH, dW, Int.toNat_natCast, bZ, cC, cB, cF, bS, bN, bT, bL, bK, bH, if_true, if_false, Bool.false_eq_true, Nat.zero_add, Option.isNone_some, Option.isNone_none, Bool.not_true, Bool.not_false, List.getElem?_cons_succ, List.getElem?_cons_zero, aT, aI, aN, aV, aY, aP, cA, aA, aM, aH, aK, aJ, bD, bE, bU, aO, aQ, aR, aG, aS, aC, bG, aW, aF, bF, aE, aL, aD, aZ, aU, aB, c2]
    refine (vP hmn2).mono ?_
    rintro r w3 ⟨rfl, hmc, x3, s3⟩
    have op3 := op2.ext x3 (fun h => h)
    refine qJ op3 rfl (by simp) fun w4 op4 x4 s4 => ?_
    simp only [List.set_cons_zero, List.set_cons_succ] at op4
    refine hC op4 rfl (by simp) fun w5 op5 x5 s5 => ?_
    simp only [List.set_cons_zero, List.set_cons_succ] at op5
    have hp2 : p < w2.heap.size := op2.lt
    have hmn2l := hmn2.lt
    have x45 : dQ w3 w5 (fun y => y = p) := x4.seq x5
    obtain ⟨Y, hY⟩ : ∃ Y : Nat → Prop, Y = fun b => X b ∨ b = w2.heap.size := ⟨_, rfl⟩
    have hYX : ∀ b, X b → Y b := fun b h => by rw [hY]; exact .inl h
    have hY2 : ∀ b, Y b → X b ∨ w2.heap.size ≤ b := fun b h => by rw [hY] at h; rcases h with h | h; exact .inl h; exact .inr (by omega)
    obtain ⟨E, hE⟩ : ∃ E : Nat → Prop, E = fun b => D b ∨ b = w2.heap.size := ⟨_, rfl⟩
    have hED : ∀ b, D b → E b := fun b h => by rw [hE]; exact .inl h
    have hYE : ∀ b, Y b → E b := fun b h => by rw [hY] at h; rw [hE]; rcases h with h | h; exact .inl (hXD b h); exact .inr h
    have hE2 : ∀ b, E b → D b ∨ w2.heap.size ≤ b := fun b h => by rw [hE] at h; rcases h with h | h; exact .inl h; exact .inr (by omega)
    have x3Y : dQ w2 w3 E := x3.mono fun _ _ h => h.elim
    have x45Y : dQ w3 w5 E := x45.mono fun b _ h => by rw [h]; exact hED _ (hXD _ h1)
    have dat : ∀ v b, kK w2 D v b → kK w5 E v b := fun v b hd => ((hd.sub hE2).ext x3Y fun _ h => h).ext x45Y fun _ h => h
    refine ⟨Y, E, ⟨w2.heap.size, mn, .slice none 0 0, ln, ln, [], hYX _ h1, by rw [hY]; exact .inr rfl, hYX _ h3, by omega, h5, by omega, hYE, fun b h => ?_, op5, hmc.ext x45 (by omega), (hmn2.ext x3 (fun h => h)).ext x45 (fun h => h5 h.symm), hfn2.map dat, hfn2.map dat, ⟨rfl, .inl ⟨rfl, rfl⟩⟩, rfl⟩, fun b h => ?_, hED, (xX.trans x3 fun _ _ h => h.elim).trans x45 fun b _ h => by rw [h]; exact h1⟩
    · rw [hE] at h
      rcases h with h | h
      · have := hD2 b h; omega
      · omega
    · rcases hY2 b h with h | h
      · exact .inl h
      · exact .inr (by omega)
end Go.Proofs.Ytmhokapokchneaa
namespace Go.Proofs.Ytmhokapokchneaa
open Go Go.En Go.Pu
set_option maxRecDepth 4000
set_option linter.unusedSimpArgs false
set_option linter.unusedVariables false
def tO (os : List sC) (ks : List Bool) (c : fK) : Nat → fK
  | 0 => c
  | i + 1 => match os[i]?, ks[i]? with
    | some o, some true => tL o (tO os ks c i)
    | _, _ => tO os ks c i
def Bb (S : qT) (ks : List Bool) : qT := { S with sure := tO S.under ks S.sure S.under.length, seen := tO S.under ks S.sure S.under.length, under := [], left := -1, down := false }
theorem xE {p : Nat} {X D : Nat → Prop} {S : qT} {kv : Value} {ks : List Bool} {w : World} (h : eX w p X D S) (hk : Sl w kv (ks.map Value.bool)) (hkX : ¬ uD kv X) (hkl : ks.length ≤ 9223372036854775807) (hu : S.under.length ≤ 1000000)
    (hs : ∀ i, i ≤ S.under.length → eP (tO S.under ks S.sure i) ≤ 1099511627776) (hop' : ∀ o ∈ S.under, o.at' ≤ 1099511627776 ∧ o.bytes.length ≤ 1099511627776) :
    eE pg fI #[dP p, kv] w (fun r w' => r = .tuple #[] ∧ qR w p X D (Bb S ks) w') := by
  refine pV ?_
  unfold nJ iB iG
  simp (disch := omega) only [bQ, dR, bA, bC, dJ, dK, cN, cR, cQ, cL, dV, cW, bO, dG, cX, dI, dB, dC, cO, dA, dD, cV, dE, cS, cD, cZ, cY, dF, gP, gN, gO, gM, gU, gQ, gW, gT, gX, bM, Result.ok.injEq, Next.value.injEq, true_and, and_true, cK, cU, cP, cM, dH, dW, Int.toNat_natCast, bZ, cC, cB, cF, bS, bN, bT, bL, bK, bH, if_true, if_false, Bool.false_eq_true, Nat.zero_add, Option.isNone_some, Option.isNone_none, Bool.not_true, Bool.not_false, List.getElem?_cons_succ, List.getElem?_cons_zero, aT, aI, aN, aV, aY, aP, cA, aA, aM, aH, aK, aJ, bD, bE, bU, aO, aQ, aR, aG, aS, aC, bG, aW, aF, bF, aE, aL, aD, aZ, aU, aB]
  obtain ⟨ms, mn, sv, ls, ln, cs, h1, h2, h3, h4, h5, h6, hXD, hDl, op, hms, hmn, hfs, hfn, hun, hop⟩ := h
  have h7 := fun b (hb : X b) => hDl b (hXD b hb)
  have hp : p < w.heap.size := op.lt
  have hmsl := hms.lt
  have hmnl := hmn.lt
  have c3 := op.cell (off := 3)
  simp only [List.getElem?_cons_zero, List.getElem?_cons_succ] at c3
  obtain ⟨ua, uc, rfl⟩ := hun.len
  obtain ⟨ka, kc, rfl, _⟩ := hk.len
  rw [List.length_map] at hk hkX ⊢
  unfold gJ iV iZ
  simp (disch := omega) only [bQ, dR, bA, bC, dJ, dK, cN, cR, cQ, cL, dV, cW, bO, dG, cX, dI, dB, dC, cO, dA, dD, cV, dE, cS, cD, cZ, cY, dF, gP, gN, gO, gM, gU, gQ, gW, gT, gX, bM, Result.ok.injEq, Next.value.injEq, true_and, and_true, cK, cU, cP, cM, dH, dW, Int.toNat_natCast, bZ, cC, cB, cF, bS, bN, bT, bL, bK, bH, if_true, if_false, Bool.false_eq_true, Nat.zero_add, Option.isNone_some, Option.isNone_none, Bool.not_true, Bool.not_false, List.getElem?_cons_succ, List.getElem?_cons_zero, aT, aI, aN, aV, aY, aP, cA, aA, aM, aH, aK, aJ, bD, bE, bU, aO, aQ, aR, aG, aS, aC, bG, aW, aF, bF, aE, aL, aD, aZ, aU, aB, c3]
  unfold gF iP
  have hol := hop.len
  refine jJ.rule (fun m (t : Value) w' => ∃ (i : Nat) (ls' : List (ByteArray × Value)), m = S.under.length - i ∧ t = .int .i64 i ∧ i ≤ S.under.length ∧ Mp w' ms rQ ls' ∧ kS w' D ls' (tO S.under ks S.sure i) ∧ dQ w w' (fun b => b = ms)) S.under.length
    ⟨0, ls, rfl, rfl, by omega, hms, hfs, dQ.refl _ _⟩ ?_
  rintro m t w1 ⟨i, ls', rfl, rfl, hi, hms1, hf1, x1⟩
  have z1 := x1.size
  have x1X : dQ w w1 X := x1.mono fun b _ h => h ▸ h2
  have x1D : dQ w w1 D := x1X.mono fun b _ h => hXD b h
  have op1 := op.ext x1 (fun h => h4 h)
  unfold gD jF
  by_cases hlt : i < S.under.length
  · have d1 : decide ((i : Int) < (S.under.length : Int)) = true := by simp; omega
    obtain ⟨v, ⟨va, vn, vc, rfl⟩, hcs, hdat⟩ := hop.at hlt
    obtain ⟨a', c', e'⟩ := kK.slice hdat
    simp only [Value.slice.injEq] at e'
    obtain ⟨-, rfl, -⟩ := e'
    rcases hun.2 with ⟨hnil, h0⟩ | ⟨b, c, rest, hsv, hbX, ob, hbl, hbc⟩
    · omega
    simp only [Value.slice.injEq] at hsv
    obtain ⟨rfl, -, rfl⟩ := hsv
    have ob1 := ob.ext x1 (fun h => hbX.2.2.1 h)
    have l1 := fA (off := i * 5) ob1 (by rw [List.length_append]; omega)
    have htk : ((cs ++ rest).drop (i * 5)).take 5 = sB S.under[i] (.slice va S.under[i].bytes.length vc) := by
      rw [List.drop_append_of_le_length (by omega), List.take_append_of_le_length (by rw [List.length_drop]; omega)]; exact hcs
    rw [htk] at l1
    have hmem := hop' _ (List.getElem_mem hlt)
    have hcr : tO S.under ks S.sure (i + 1) = match ks[i]? with | some true => tL S.under[i] (tO S.under ks S.sure i) | _ => tO S.under ks S.sure i := by
      rw [tO, List.getElem?_eq_getElem hlt]
      cases ks[i]? with
      | none => rfl
      | some q => cases q <;> rfl
    have hsi := hs i hi
    generalize S.under[i] = o at *
    simp (disch := omega) only [bQ, dR, bA, bC, dJ, dK, cN, cR, cQ, cL, dV, cW, bO, dG, cX, dI, dB, dC, cO, dA, dD, cV, dE, cS, cD, cZ, cY, dF, gP, gN, gO, gM, gU, gQ, gW, gT, gX, bM, Result.ok.injEq, Next.value.injEq, true_and, and_true, cK, cU, cP, cM, dH, dW, Int.toNat_natCast, bZ, cC, cB, cF, bS, bN, bT, bL, bK, bH, if_true, if_false, Bool.false_eq_true, Nat.zero_add, Option.isNone_some, Option.isNone_none, Bool.not_true, Bool.not_false, List.getElem?_cons_succ, List.getElem?_cons_zero, aT, aI, aN, aV, aY, aP, cA, aA, aM, aH, aK, aJ, bD, bE, bU, aO, aQ, aR, aG, aS, aC, bG, aW, aF, bF, aE, aL, aD, aZ, aU, aB, d1, l1]
    refine qY fun w2 o2 x2 s2 => ?_
    refine qU o2 rfl (by unfold sB; simp [one]) (by simp) fun w3 o3 x3 s3 => ?_
    have o3 : fL w3 w1.heap.size (sB o (.slice va o.bytes.length vc)) := o3
    have x13 : dQ w1 w3 kP := x2.new x3 (Nat.le_refl _)
    have x03 := x1.trans x13 fun _ _ h => h.elim
    have hms3 := hms1.ext x13 (fun h => h)
    have hf3 := hf1.ext x13 fun _ h => h.elim
    have hd3 : kK w3 D (.slice va o.bytes.length vc) o.bytes := (hdat.ext x1D fun _ h => h).ext x13 fun _ h => h.elim
    have op3 := op1.ext x13 (fun h => h)
    have q1d := (iC op3).cell (off := 1)
    have q1 := op3.cell (off := 1)
    simp only [List.getElem?_cons_zero, List.getElem?_cons_succ] at q1 q1d
    have l3 := fA (off := 0) o3 (by unfold sB; simp)
    have l3d := fA (off := 0) (iC o3) (by unfold sB; simp)
    have l3' : ((sB o (.slice va o.bytes.length vc)).drop 0).take 5 = sB o (.slice va o.bytes.length vc) := rfl
    rw [l3'] at l3 l3d
    have z3 := x13.size
    unfold fZ
    have skip : tO S.under ks S.sure (i + 1) = tO S.under ks S.sure i → ∃ m, m < S.under.length - i ∧ ∃ (i' : Nat) (ls' : List (ByteArray × Value)), m = S.under.length - i' ∧ Value.int .i64 ((i + 1 : Nat) : Int) = .int .i64 i' ∧ i' ≤ S.under.length ∧ Mp w3 ms rQ ls' ∧ kS w3 D ls' (tO S.under ks S.sure i') ∧ dQ w w3 (fun b => b = ms) := fun e =>
      ⟨S.under.length - (i + 1), by omega, i + 1, ls', rfl, rfl, by omega, hms3, by rw [e]; exact hf3, x03⟩
    have ei : (i : Int) + 1 = ((i + 1 : Nat) : Int) := by omega
    by_cases hki : i < ks.length
    · have d2 : decide ((i : Int) < (ks.length : Int)) = true := by simp; omega
      obtain ⟨kb, koff, rfl, hcell⟩   := AK (hk.ext x03 (fun h => hkX (kH h fun b hb => by rw [hb]; exact h2))) (by omega)
      have g1 := hcell i hki
      rw [List.getElem?_map, List.getElem?_eq_getElem hki] at g1
      simp only [Option.map_some] at g1
      rw [List.getElem?_eq_getElem hki] at hcr
      generalize ks[i] = kq at *
      cases kq with
      | false =>
        simp (disch := omega) only [bQ, dR, bA, bC, dJ, dK, cN, cR, cQ, cL, dV, cW, bO, dG, cX, dI, dB, dC, cO, dA, dD, cV, dE, cS, cD, cZ, cY, dF, gP, gN, gO, gM, gU, gQ, gW, gT, gX, bM, Result.ok.injEq, Next.value.injEq, true_and, and_true, cK, cU, cP, cM, dH, dW, Int.toNat_natCast, bZ, cC, cB, cF, bS, bN, bT, bL, bK, bH, if_true, if_false, Bool.false_eq_true, Nat.zero_add, Option.isNone_some, Option.isNone_none, Bool.not_true, Bool.not_false, List.getElem?_cons_succ, List.getElem?_cons_zero, aT, aI, aN, aV, aY, aP, cA, aA, aM, aH, aK, aJ, bD, bE, bU, aO, aQ, aR, aG, aS, aC, bG, aW, aF, bF, aE, aL, aD, aZ, aU, aB, d2, g1, ei]
        exact skip hcr
      | true =>
        simp (disch := omega) only [bQ, dR, bA, bC, dJ, dK, cN, cR, cQ, cL, dV, cW, bO, dG, cX, dI, dB, dC, cO, dA, dD, cV, dE, cS, cD, cZ, cY, dF, gP, gN, gO, gM, gU, gQ, gW, gT, gX, bM, Result.ok.injEq, Next.value.injEq, true_and, and_true, cK, cU, cP, cM, dH, dW, Int.toNat_natCast, bZ, cC, cB, cF, bS, bN, bT, bL, bK, bH, if_true, if_false, Bool.false_eq_true, Nat.zero_add, Option.isNone_some, Option.isNone_none, Bool.not_true, Bool.not_false, List.getElem?_cons_succ, List.getElem?_cons_zero, aT, aI, aN, aV, aY, aP, cA, aA, aM, aH, aK, aJ, bD, bE, bU, aO, aQ, aR, aG, aS, aC, bG, aW, aF, bF, aE, aL, aD, aZ, aU, aB, d2, g1, q1, q1d, l3, l3d]
        refine (A5 (X := D) (c := tO S.under ks S.sure i) (o := o) hms3.dr (hXD _ h2) (fun b hb => by have := hDl b hb; show b < w3.heap.size; omega) (hf3.ext (dQ.dr _ kP) fun _ h => h.elim) (hd3.ext (dQ.dr _ kP) fun _ h => h.elim) hsi hmem.1 hmem.2).mono ?_
        rintro r w4 ⟨rfl, ls4, hms4, hf4, x4⟩
        have x4 : dQ w3 w4 (fun b => b = ms) := (dQ.dr _ _).seq x4
        simp (disch := omega) only [bQ, dR, bA, bC, dJ, dK, cN, cR, cQ, cL, dV, cW, bO, dG, cX, dI, dB, dC, cO, dA, dD, cV, dE, cS, cD, cZ, cY, dF, gP, gN, gO, gM, gU, gQ, gW, gT, gX, bM, Result.ok.injEq, Next.value.injEq, true_and, and_true, cK, cU, cP, cM, dH, dW, Int.toNat_natCast, bZ, cC, cB, cF, bS, bN, bT, bL, bK, bH, if_true, if_false, Bool.false_eq_true, Nat.zero_add, Option.isNone_some, Option.isNone_none, Bool.not_true, Bool.not_false, List.getElem?_cons_succ, List.getElem?_cons_zero, aT, aI, aN, aV, aY, aP, cA, aA, aM, aH, aK, aJ, bD, bE, bU, aO, aQ, aR, aG, aS, aC, bG, aW, aF, bF, aE, aL, aD, aZ, aU, aB, ei]
        exact ⟨S.under.length - (i + 1), by omega, i + 1, ls4, rfl, rfl, by omega, hms4, by rw [hcr]; exact hf4, x03.seq x4⟩
    · have d2 : decide ((i : Int) < (ks.length : Int)) = false := by simp; omega
      rw [List.getElem?_eq_none (by omega)] at hcr
      simp (disch := omega) only [bQ, dR, bA, bC, dJ, dK, cN, cR, cQ, cL, dV, cW, bO, dG, cX, dI, dB, dC, cO, dA, dD, cV, dE, cS, cD, cZ, cY, dF, gP, gN, gO, gM, gU, gQ, gW, gT, gX, bM, Result.ok.injEq, Next.value.injEq, true_and, and_true, cK, cU, cP, cM, dH, dW, Int.toNat_natCast, bZ, cC, cB, cF, bS, bN, bT, bL, bK, bH, if_true, if_false, Bool.false_eq_true, Nat.zero_add, Option.isNone_some, Option.isNone_none, Bool.not_true, Bool.not_false, List.getElem?_cons_succ, List.getElem?_cons_zero, aT, aI, aN, aV, aY, aP, cA, aA, aM, aH, aK, aJ, bD, bE, bU, aO, aQ, aR, aG, aS, aC, bG, aW, aF, bF, aE, aL, aD, aZ, aU, aB, d2, ei]
      exact skip hcr
  · have d1 : decide ((i : Int) < (S.under.length : Int)) = false := by simp; omega
    obtain rfl : i = S.under.length := by omega
    have c1 := op1.cell (off := 1)
    simp only [List.getElem?_cons_zero, List.getElem?_cons_succ] at c1
    unfold fY
    simp (disch := omega) only [bQ, dR, bA, bC, dJ, dK, cN, cR, cQ, cL, dV, cW, bO, dG, cX, dI, dB, dC, cO, dA, dD, cV, dE, cS, cD, cZ, cY, dF, gP, gN, gO, gM, gU, gQ, gW, gT, gX, bM, Result.ok.injEq, Next.value.injEq, true_and, and_true, cK, cU, cP, cM, dH, dW, Int.toNat_natCast, bZ, cC, cB, cF, bS, bN, bT, bL, bK, bH, if_true, if_false, Bool.false_eq_true, Nat.zero_add, Option.isNone_some, Option.isNone_none, Bool.not_true, Bool.not_false, List.getElem?_cons_succ, List.getElem?_cons_zero, aT, aI, aN, aV, aY, aP, cA, aA, aM, aH, aK, aJ, bD, bE, bU, aO, aQ, aR, aG, aS, aC, bG, aW, aF, bF, aE, aL, aD, aZ, aU, aB, d1, c1]
    refine (vP hms1).mono ?_
    rintro r w3 ⟨rfl, hmc, x3, s3⟩
    have op3 := op1.ext x3 (fun h => h)
    refine qJ op3 rfl (by simp) fun w4 op4 x4 s4 => ?_
    simp only [List.set_cons_zero, List.set_cons_succ] at op4
    refine hC op4 rfl (by simp) fun w5 op5 x5 s5 => ?_
    simp only [List.set_cons_zero, List.set_cons_succ] at op5
    refine zO op5 rfl (by simp) fun w6 op6 x6 s6 => ?_
    simp only [List.set_cons_zero, List.set_cons_succ] at op6
    refine xA op6 rfl (by simp) fun w7 op7 x7 s7 => ?_
    simp only [List.set_cons_zero, List.set_cons_succ] at op7
    have x37 : dQ w3 w7 (fun y => y = p) := ((x4.seq x5).seq x6).seq x7
    obtain ⟨Y, hY⟩ : ∃ Y : Nat → Prop, Y = fun b => X b ∨ b = w1.heap.size := ⟨_, rfl⟩
    have hYX : ∀ b, X b → Y b := fun b h => by rw [hY]; exact .inl h
    have hY2 : ∀ b, Y b → X b ∨ w1.heap.size ≤ b := fun b h => by rw [hY] at h; rcases h with h | h; exact .inl h; exact .inr (by omega)
    obtain ⟨E, hE⟩ : ∃ E : Nat → Prop, E = fun b => D b ∨ b = w1.heap.size := ⟨_, rfl⟩
    have hED : ∀ b, D b → E b := fun b h => by rw [hE]; exact .inl h
    have hYE : ∀ b, Y b → E b := fun b h => by rw [hY] at h; rw [hE]; rcases h with h | h; exact .inl (hXD b h); exact .inr h
    have hE2 : ∀ b, E b → D b ∨ w1.heap.size ≤ b := fun b h => by rw [hE] at h; rcases h with h | h; exact .inl h; exact .inr (by omega)
    have x3Y : dQ w1 w3 E := x3.mono fun _ _ h => h.elim
    have x37Y : dQ w3 w7 E := x37.mono fun b _ h => by rw [h]; exact hED _ (hXD _ h1)
    have dat : ∀ v b, kK w1 D v b → kK w7 E v b := fun v b hd => ((hd.sub hE2).ext x3Y fun _ h => h).ext x37Y fun _ h => h
    refine ⟨Y, E, ⟨ms, w1.heap.size, .slice none 0 0, ls', ls', [], hYX _ h1, hYX _ h2, by rw [hY]; exact .inr rfl, h4, by omega, by omega, hYE, fun b h => ?_, op7, (hms1.ext x3 (fun h => h)).ext x37 (fun h => h4 h.symm), hmc.ext x37 (by omega), hf1.map dat, hf1.map dat, ⟨rfl, .inl ⟨rfl, rfl⟩⟩, rfl⟩, fun b h => ?_, hED, (x1X.trans x3 fun _ _ h => h.elim).trans x37 fun b _ h => by rw [h]; exact h1⟩
    · rw [hE] at h
      rcases h with h | h
      · have := hDl b h; omega
      · omega
    · rcases hY2 b h with h | h
      · exact .inl h
      · exact .inr (by omega)
end Go.Proofs.Ytmhokapokchneaa
namespace Go.Proofs.Ytmhokapokchneaa
open Go Go.En
set_option linter.unusedVariables false
set_option maxRecDepth 20000
attribute [local irreducible] Go.En.dX
variable (Q : Exit → dU → World → Prop) (g : dU) (w : World)
def bB : FA := ⟨jN, fun i => .leaf ([], []) []⟩
def cI : List ResultVar := [.tmp 4]
noncomputable def aX : Code := iT Try.f3
def fW (R : K1) (bX bP gV hU bW t9 : Value) (w : World) : Prop :=
  eE pg eJ #[gV] w fun t64 w =>
  eE pg fI #[gV, bX] w fun t67 w =>
  eE pg eU #[gV, (.string ⟨#[97]⟩)] w fun t70 w =>
  bQ pg (gL t70 0) w fun t71 w =>
  bQ pg (gL t70 1) w fun t72 w =>
  bQ pg (dL .eql 26 (.tmp 73) (.const (.int .i64 0)) hU (.int .i64 0)) w fun t74 w =>
  Gd (kO t74 true) (fun K => K t64 w) w fun t76 w =>
  Gd (kO t74 true) (fun K => K bP w) w fun t77 w =>
  Gd (kO t74 true) (fun K => bQ pg (jL .len #[23] 3 [t77]) w K) w fun t78 w =>
  Gd (kO t74 true) (fun K => bQ pg (dL .eql 3 (.tmp 76) (.tmp 78) t76 t78) w K) w fun t79 w =>
  bQ pg (kG t74 t79 (.bool false)) w fun t80 w =>
  Gd (kO t80 true) (fun K => K t72 w) w fun t82 w =>
  Gd (kO t80 true) (fun K => bQ pg (dL .eql 26 (.tmp 82) (.const (.int .i64 0)) t82 (.int .i64 0)) w K) w fun t83 w =>
  Gd (kO t80 true) (fun K => K t9 w) w fun t84 w =>
  Gd (kO t80 true) (fun K => bQ pg (dL .eql 4 (.tmp 83) (.tmp 84) t83 t84) w K) w fun t85 w =>
  bQ pg (kG t80 t85 (.bool false)) w fun t86 w =>
  Gd (kO t86 true) (fun K => K t71 w) w fun t88 w =>
  Gd (kO t86 true) (fun K => bQ pg (rM 23 9 t88) w K) w fun t89 w =>
  Gd (kO t86 true) (fun K => K bW w) w fun t90 w =>
  Gd (kO t86 true) (fun K => bQ pg (rM 23 9 t90) w K) w fun t91 w =>
  Gd (kO t86 true) (fun K => bQ pg (dL .eql 9 (.tmp 89) (.tmp 91) t89 t91) w K) w fun t92 w =>
  bQ pg (kG t86 t92 (.bool false)) w fun t93 w =>
  Gd (kO t93 true) (fun K => K gV w) w fun t95 w =>
  Gd (kO t93 true) (fun K => eE pg eJ #[t95] w K) w fun t96 w =>
  Gd (kO t93 true) (fun K => bQ pg (dL .eql 3 (.tmp 96) (.const (.int .i64 0)) t96 (.int .i64 0)) w K) w fun t97 w =>
  bQ pg (kG t93 t97 (.bool false)) w fun t98 w =>
  R t98 w
theorem oS (R : K1) (hr : HR cI R Q) (h : fW R (g 0) (g 1) (g 6) (g 7) (g 8) (g 9) w) : dX pg bB (bJ 1 (bJ 7 aX)) Q g w :=
  dT (kn := no) (l := []) (by kernel_rfl) h rN hr trivial
def fX (kn : K7) (bX bP gV hU bW t9 eD : Value) (w : World) : Prop :=
  bQ pg (dL .add 3 (.tmp 28) (.const (.int .i64 1)) eD (.int .i64 1)) w fun t29 w =>
  kn bX bP gV hU bW t9 t29 w
theorem nM (kn : K7) (hn : ∀ g w, kn (g 0) (g 1) (g 6) (g 7) (g 8) (g 9) (g 10) w → Q .normal g w) (h : fX kn (g 0) (g 1) (g 6) (g 7) (g 8) (g 9) (g 10) w) : dX pg bB (bJ 1 (bJ 1 (bI (bI (bJ 1 (cJ 1 (bJ 7 aX))))))) Q g w :=
  dT (kr := no) (l := []) (by kernel_rfl) h hn rN trivial
def gH (kn : K7) (bX bP gV hU bW eD : Value) (w : World) : Prop :=
  bQ pg (kL 23 bP eD) w fun t60 w =>
  bQ pg (dY 5 t60) w fun t61 w =>
  bQ pg (kL 23 bW eD) w fun t62 w =>
  bQ pg (fD 5 t62 t61) w fun _u w =>
  kn bX bP gV hU bW (.bool true) eD w
theorem nQ (kn : K7) (hn : ∀ g w, kn (g 0) (g 1) (g 6) (g 7) (g 8) (g 9) (g 10) w → Q .normal g w) (h : gH kn (g 0) (g 1) (g 6) (g 7) (g 8) (g 10) w) : dX pg bB (bJ 1 (cT (bJ 2 (bI (cJ 1 (bJ 1 (bI (bI (bJ 1 (cJ 1 (bJ 7 aX))))))))))) Q g w :=
  dT (kr := no) (l := []) (by kernel_rfl) h hn rN trivial
def gB (kn : K6) (k2 : K6) (bX bP gV hU bW eD : Value) (w : World) : Prop :=
  bQ pg (jL .len #[23] 3 [bW]) w fun t50 w =>
  bQ pg (dL .leq 3 (.tmp 50) (.tmp 51) t50 eD) w fun t52 w =>
  lY t52
    (bQ pg (dZ 23 1 [(0, (.int .u8 0))]) w fun t54 w =>
    bQ pg (jL .append #[23, 23] 23 [bW, t54]) w fun t55 w =>
    kn bX bP gV hU t55 eD w)
    (k2 bX bP gV hU bW eD w)
theorem oK (kn : K6) (k2 : K6) (hn : ∀ g w, kn (g 0) (g 1) (g 6) (g 7) (g 8) (g 10) w → Q .normal g w) (h2 : ∀ g w, k2 (g 0) (g 1) (g 6) (g 7) (g 8) (g 10) w → Q (.exit 2) g w) (h : gB kn k2 (g 0) (g 1) (g 6) (g 7) (g 8) (g 10) w) : dX pg bB (bI (bI (cJ 1 (cT (bJ 2 (bI (cJ 1 (bJ 1 (bI (bI (bJ 1 (cJ 1 (bJ 7 aX))))))))))))) Q g w :=
  dT (kr := no) (l := [(2, fun g w => k2 (g 0) (g 1) (g 6) (g 7) (g 8) (g 10) w)]) (by kernel_rfl) h hn rN ⟨h2, trivial⟩
def jG (k2 : K6) (bX bP gV hU bW eD : Value) (w : World) : Prop :=
  jJ (fun (X : Value → K0) (t : Value) (w : World) => gB (fun _ _ _ _ bW _ w => X bW w) k2 bX bP gV hU t eD w) bW w
theorem nZ (k2 : K6) (h2 : ∀ g w, k2 (g 0) (g 1) (g 6) (g 7) (g 8) (g 10) w → Q (.exit 2) g w) (h : jG k2 (g 0) (g 1) (g 6) (g 7) (g 8) (g 10) w) : dX pg bB (bI (cJ 1 (cT (bJ 2 (bI (cJ 1 (bJ 1 (bI (bI (bJ 1 (cJ 1 (bJ 7 aX)))))))))))) Q g w := by
  refine pY (T := Value) (fun g : dU => g 8) (fun X t w => gB (fun _ _ _ _ bW _ w => X bW w) k2 (g 0) (g 1) (g 6) (g 7) t (g 10) w) _ (by kernel_rfl) h (fun X g1 w1 ha hL => ?_)
  rw [← fF (s := 0) ha (by kernel_rfl)] at hL
  rw [← fF (s := 1) ha (by kernel_rfl)] at hL
  rw [← fF (s := 6) ha (by kernel_rfl)] at hL
  rw [← fF (s := 7) ha (by kernel_rfl)] at hL
  rw [← fF (s := 10) ha (by kernel_rfl)] at hL
  exact (oK (eK (fun g2 w2 => X ((fun g : dU => g 8) g2) w2) Q) g1 w1 (fun _ _ _ _ bW _ w => X bW w) k2 (fun _ _ h => h) h2 hL)
def iS (kn : K6) (bX bP gV hU bW eD : Value) (w : World) : Prop :=
  jG kn bX bP gV hU bW eD w
theorem oD (kn : K6) (hn : ∀ g w, kn (g 0) (g 1) (g 6) (g 7) (g 8) (g 10) w → Q .normal g w) (h : iS kn (g 0) (g 1) (g 6) (g 7) (g 8) (g 10) w) : dX pg bB (cJ 1 (cT (bJ 2 (bI (cJ 1 (bJ 1 (bI (bI (bJ 1 (cJ 1 (bJ 7 aX))))))))))) Q g w :=
  qZ 2 _ g w (by kernel_rfl) (nZ (xP 2 Q) g w kn hn h)
def jI (kn : K7) (bX bP gV hU bW eD : Value) (w : World) : Prop :=
  iS (fun bX bP gV hU bW eD w => gH kn bX bP gV hU bW eD w) bX bP gV hU bW eD w
theorem nX (kn : K7) (hn : ∀ g w, kn (g 0) (g 1) (g 6) (g 7) (g 8) (g 9) (g 10) w → Q .normal g w) (h : jI kn (g 0) (g 1) (g 6) (g 7) (g 8) (g 10) w) : dX pg bB (cT (bJ 2 (bI (cJ 1 (bJ 1 (bI (bI (bJ 1 (cJ 1 (bJ 7 aX)))))))))) Q g w :=
  eY 1 _ g w (by kernel_rfl) (oD (eK (fun g w => dX pg bB (bJ 1 (cT (bJ 2 (bI (cJ 1 (bJ 1 (bI (bI (bJ 1 (cJ 1 (bJ 7 aX))))))))))) Q g w) Q) g w (fun bX bP gV hU bW eD w => gH kn bX bP gV hU bW eD w) (fun g w h => gG (K := fun g w => dX pg bB (bJ 1 (cT (bJ 2 (bI (cJ 1 (bJ 1 (bI (bI (bJ 1 (cJ 1 (bJ 7 aX))))))))))) Q g w) (nQ Q g w kn hn h)) h)
def iU (kn : K7) (bX bP gV hU bW t9 eD : Value) (w : World) : Prop :=
  kn bX bP gV hU bW t9 eD w
theorem oC (kn : K7) (hn : ∀ g w, kn (g 0) (g 1) (g 6) (g 7) (g 8) (g 9) (g 10) w → Q .normal g w) (h : iU kn (g 0) (g 1) (g 6) (g 7) (g 8) (g 9) (g 10) w) : dX pg bB (cE (bJ 2 (bI (cJ 1 (bJ 1 (bI (bI (bJ 1 (cJ 1 (bJ 7 aX)))))))))) Q g w :=
  dT (kr := no) (l := []) (by kernel_rfl) h hn rN trivial
def gA (kn : K7) (bX bP gV hU bW t9 eD t48 : Value) (w : World) : Prop :=
  lY t48 (jI kn bX bP gV hU bW eD w) (iU kn bX bP gV hU bW t9 eD w)
theorem oA (kn : K7) (hn : ∀ g w, kn (g 0) (g 1) (g 6) (g 7) (g 8) (g 9) (g 10) w → Q .normal g w) (h : gA kn (g 0) (g 1) (g 6) (g 7) (g 8) (g 9) (g 10) (g 48) w) : dX pg bB (bJ 2 (bI (cJ 1 (bJ 1 (bI (bI (bJ 1 (cJ 1 (bJ 7 aX))))))))) Q g w := by
  refine Ak (.tmp 48) _ g w (by kernel_rfl) ?_
  exact zR (fun h => (nX Q g w kn hn h)) (fun h => (oC Q g w kn hn h)) h
def iF (kn : K8) (R : K1) (bX bP gV hU bW t9 eD : Value) (w : World) : Prop :=
  bQ pg (dL .add 3 (.tmp 34) (.const (.int .i64 1)) eD (.int .i64 1)) w fun t35 w =>
  bQ pg (pL 23 bP (some eD) (some t35) none) w fun t36 w =>
  eE pg fG #[gV, (.string ⟨#[97]⟩), eD, t36] w fun t37 w =>
  bQ pg (dL .neq 26 (.tmp 37) (.const (.int .i64 0)) t37 (.int .i64 0)) w fun t38 w =>
  lY t38
    (R (.bool false) w)
    (bQ pg (jL .len #[22] 3 [bX]) w fun t41 w =>
    bQ pg (dL .lss 3 (.tmp 39) (.tmp 41) eD t41) w fun t42 w =>
    Gd (kO t42 true) (fun K => K bX w) w fun t44 w =>
    Gd (kO t42 true) (fun K => K eD w) w fun t45 w =>
    Gd (kO t42 true) (fun K => bQ pg (kL 22 t44 t45) w K) w fun t46 w =>
    Gd (kO t42 true) (fun K => bQ pg (dY 4 t46) w K) w fun t47 w =>
    bQ pg (kG t42 t47 (.bool false)) w fun t48 w =>
    kn bX bP gV hU bW t9 eD t48 w)
theorem mO (kn : K8) (R : K1) (hn : ∀ g w, kn (g 0) (g 1) (g 6) (g 7) (g 8) (g 9) (g 10) (g 48) w → Q .normal g w) (hr : HR cI R Q) (h : iF kn R (g 0) (g 1) (g 6) (g 7) (g 8) (g 9) (g 10) w) : dX pg bB (cJ 2 (bI (cJ 1 (bJ 1 (bI (bI (bJ 1 (cJ 1 (bJ 7 aX))))))))) Q g w :=
  dT (l := []) (by kernel_rfl) h hn hr trivial
def iE (kn : K7) (R : K1) (bX bP gV hU bW t9 eD : Value) (w : World) : Prop :=
  iF (fun bX bP gV hU bW t9 eD t48 w => gA kn bX bP gV hU bW t9 eD t48 w) R bX bP gV hU bW t9 eD w
theorem nC (kn : K7) (R : K1) (hn : ∀ g w, kn (g 0) (g 1) (g 6) (g 7) (g 8) (g 9) (g 10) w → Q .normal g w) (hr : HR cI R Q) (h : iE kn R (g 0) (g 1) (g 6) (g 7) (g 8) (g 9) (g 10) w) : dX pg bB (bI (cJ 1 (bJ 1 (bI (bI (bJ 1 (cJ 1 (bJ 7 aX)))))))) Q g w :=
  eY 2 _ g w (by kernel_rfl) (mO (eK (fun g w => dX pg bB (bJ 2 (bI (cJ 1 (bJ 1 (bI (bI (bJ 1 (cJ 1 (bJ 7 aX))))))))) Q g w) Q) g w (fun bX bP gV hU bW t9 eD t48 w => gA kn bX bP gV hU bW t9 eD t48 w) R (fun g w h => gG (K := fun g w => dX pg bB (bJ 2 (bI (cJ 1 (bJ 1 (bI (bI (bJ 1 (cJ 1 (bJ 7 aX))))))))) Q g w) (oA Q g w kn hn h)) hr h)
def iJ (kn : K7) (R : K1) (bX bP gV hU bW t9 eD : Value) (w : World) : Prop :=
  iE kn R bX bP gV hU bW t9 eD w
theorem mV (kn : K7) (R : K1) (hn : ∀ g w, kn (g 0) (g 1) (g 6) (g 7) (g 8) (g 9) (g 10) w → Q .normal g w) (hr : HR cI R Q) (h : iJ kn R (g 0) (g 1) (g 6) (g 7) (g 8) (g 9) (g 10) w) : dX pg bB (cJ 1 (bJ 1 (bI (bI (bJ 1 (cJ 1 (bJ 7 aX))))))) Q g w :=
  qZ 1 _ g w (by kernel_rfl) (nC (xP 1 Q) g w kn R hn hr h)
def fP (kn : K7) (R : K1) (bX bP gV hU bW t9 eD : Value) (w : World) : Prop :=
  iJ (fun bX bP gV hU bW t9 eD w => fX kn bX bP gV hU bW t9 eD w) R bX bP gV hU bW t9 eD w
theorem mL (kn : K7) (R : K1) (hn : ∀ g w, kn (g 0) (g 1) (g 6) (g 7) (g 8) (g 9) (g 10) w → Q .normal g w) (hr : HR cI R Q) (h : fP kn R (g 0) (g 1) (g 6) (g 7) (g 8) (g 9) (g 10) w) : dX pg bB (bJ 1 (bI (bI (bJ 1 (cJ 1 (bJ 7 aX)))))) Q g w :=
  eY 1 _ g w (by kernel_rfl) (mV (eK (fun g w => dX pg bB (bJ 1 (bJ 1 (bI (bI (bJ 1 (cJ 1 (bJ 7 aX))))))) Q g w) Q) g w (fun bX bP gV hU bW t9 eD w => fX kn bX bP gV hU bW t9 eD w) R (fun g w h => gG (K := fun g w => dX pg bB (bJ 1 (bJ 1 (bI (bI (bJ 1 (cJ 1 (bJ 7 aX))))))) Q g w) (nM Q g w kn hn h)) hr h)
def iD (kn : K7) (k0 : K6) (bX bP gV hU bW t9 eD : Value) (w : World) : Prop :=
  bQ pg (jL .len #[23] 3 [bP]) w fun t26 w =>
  bQ pg (dL .lss 3 (.tmp 24) (.tmp 26) eD t26) w fun t27 w =>
  lY t27
    (kn bX bP gV hU bW t9 eD w)
    (k0 bX bP gV hU bW t9 w)
theorem mN (kn : K7) (k0 : K6) (hn : ∀ g w, kn (g 0) (g 1) (g 6) (g 7) (g 8) (g 9) (g 10) w → Q .normal g w) (h0 : ∀ g w, k0 (g 0) (g 1) (g 6) (g 7) (g 8) (g 9) w → Q (.exit 0) g w) (h : iD kn k0 (g 0) (g 1) (g 6) (g 7) (g 8) (g 9) (g 10) w) : dX pg bB (cJ 1 (bI (bI (bJ 1 (cJ 1 (bJ 7 aX)))))) Q g w :=
  dT (kr := no) (l := [(0, fun g w => k0 (g 0) (g 1) (g 6) (g 7) (g 8) (g 9) w)]) (by kernel_rfl) h hn rN ⟨h0, trivial⟩
def fN (kn : K7) (k0 : K6) (R : K1) (bX bP gV hU bW t9 eD : Value) (w : World) : Prop :=
  iD (fun bX bP gV hU bW t9 eD w => fP kn R bX bP gV hU bW t9 eD w) k0 bX bP gV hU bW t9 eD w
theorem mS (kn : K7) (k0 : K6) (R : K1) (hn : ∀ g w, kn (g 0) (g 1) (g 6) (g 7) (g 8) (g 9) (g 10) w → Q .normal g w) (h0 : ∀ g w, k0 (g 0) (g 1) (g 6) (g 7) (g 8) (g 9) w → Q (.exit 0) g w) (hr : HR cI R Q) (h : fN kn k0 R (g 0) (g 1) (g 6) (g 7) (g 8) (g 9) (g 10) w) : dX pg bB (bI (bI (bJ 1 (cJ 1 (bJ 7 aX))))) Q g w :=
  eY 1 _ g w (by kernel_rfl) (mN (eK (fun g w => dX pg bB (bJ 1 (bI (bI (bJ 1 (cJ 1 (bJ 7 aX)))))) Q g w) Q) g w (fun bX bP gV hU bW t9 eD w => fP kn R bX bP gV hU bW t9 eD w) k0 (fun g w h => gG (K := fun g w => dX pg bB (bJ 1 (bI (bI (bJ 1 (cJ 1 (bJ 7 aX)))))) Q g w) (mL Q g w kn R hn hr h)) h0 h)
def iL (k0 : K6) (R : K1) (bX bP gV hU bW t9 eD : Value) (w : World) : Prop :=
  jJ (fun (X : (Value × Value × Value) → K0) (t : Value × Value × Value) (w : World) => fN (fun _ _ _ _ bW t9 eD w => X (bW, t9, eD) w) k0 R bX bP gV hU t.1 t.2.1 t.2.2 w) (bW, t9, eD) w
theorem mG (k0 : K6) (R : K1) (h0 : ∀ g w, k0 (g 0) (g 1) (g 6) (g 7) (g 8) (g 9) w → Q (.exit 0) g w) (hr : HR cI R Q) (h : iL k0 R (g 0) (g 1) (g 6) (g 7) (g 8) (g 9) (g 10) w) : dX pg bB (bI (bJ 1 (cJ 1 (bJ 7 aX)))) Q g w := by
  refine pY (T := Value × Value × Value) (fun g : dU => (g 8, g 9, g 10)) (fun X t w => fN (fun _ _ _ _ bW t9 eD w => X (bW, t9, eD) w) k0 R (g 0) (g 1) (g 6) (g 7) t.1 t.2.1 t.2.2 w) _ (by kernel_rfl) h (fun X g1 w1 ha hL => ?_)
  rw [← fF (s := 0) ha (by kernel_rfl)] at hL
  rw [← fF (s := 1) ha (by kernel_rfl)] at hL
  rw [← fF (s := 6) ha (by kernel_rfl)] at hL
  rw [← fF (s := 7) ha (by kernel_rfl)] at hL
  exact (mS (eK (fun g2 w2 => X ((fun g : dU => (g 8, g 9, g 10)) g2) w2) Q) g1 w1 (fun _ _ _ _ bW t9 eD w => X (bW, t9, eD) w) k0 R (fun _ _ h => h) h0 hr hL)
def fO (kn : K6) (R : K1) (bX bP gV hU bW t9 eD : Value) (w : World) : Prop :=
  iL kn R bX bP gV hU bW t9 eD w
theorem mI (kn : K6) (R : K1) (hn : ∀ g w, kn (g 0) (g 1) (g 6) (g 7) (g 8) (g 9) w → Q .normal g w) (hr : HR cI R Q) (h : fO kn R (g 0) (g 1) (g 6) (g 7) (g 8) (g 9) (g 10) w) : dX pg bB (bJ 1 (cJ 1 (bJ 7 aX))) Q g w :=
  qZ 0 _ g w (by kernel_rfl) (mG (xP 0 Q) g w kn R hn hr h)
def iM (kn : K7) (bX bP gV hU bW t9 : Value) (w : World) : Prop :=
  kn bX bP gV hU bW t9 (.int .i64 0) w
theorem mM (kn : K7) (hn : ∀ g w, kn (g 0) (g 1) (g 6) (g 7) (g 8) (g 9) (g 10) w → Q .normal g w) (h : iM kn (g 0) (g 1) (g 6) (g 7) (g 8) (g 9) w) : dX pg bB (cJ 1 (cJ 1 (bJ 7 aX))) Q g w :=
  dT (kr := no) (l := []) (by kernel_rfl) h hn rN trivial
def iK (kn : K6) (R : K1) (bX bP gV hU bW t9 : Value) (w : World) : Prop :=
  iM (fun bX bP gV hU bW t9 eD w => fO kn R bX bP gV hU bW t9 eD w) bX bP gV hU bW t9 w
theorem nB (kn : K6) (R : K1) (hn : ∀ g w, kn (g 0) (g 1) (g 6) (g 7) (g 8) (g 9) w → Q .normal g w) (hr : HR cI R Q) (h : iK kn R (g 0) (g 1) (g 6) (g 7) (g 8) (g 9) w) : dX pg bB (cJ 1 (bJ 7 aX)) Q g w :=
  eY 1 _ g w (by kernel_rfl) (mM (eK (fun g w => dX pg bB (bJ 1 (cJ 1 (bJ 7 aX))) Q g w) Q) g w (fun bX bP gV hU bW t9 eD w => fO kn R bX bP gV hU bW t9 eD w) (fun g w h => gG (K := fun g w => dX pg bB (bJ 1 (cJ 1 (bJ 7 aX))) Q g w) (mI Q g w kn R hn hr h)) h)
def fQ (R : K1) (bX bP gV hU bW t9 : Value) (w : World) : Prop :=
  iK (fun bX bP gV hU bW t9 w => fW R bX bP gV hU bW t9 w) R bX bP gV hU bW t9 w
theorem mH (R : K1) (hr : HR cI R Q) (h : fQ R (g 0) (g 1) (g 6) (g 7) (g 8) (g 9) w) : dX pg bB (bJ 7 aX) Q g w :=
  eY 1 _ g w (by kernel_rfl) (nB (eK (fun g w => dX pg bB (bJ 1 (bJ 7 aX)) Q g w) Q) g w (fun bX bP gV hU bW t9 w => fW R bX bP gV hU bW t9 w) R (fun g w h => gG (K := fun g w => dX pg bB (bJ 1 (bJ 7 aX)) Q g w) (oS Q g w R hr h)) hr h)
def iH (kn : K6) (R : K1) (bX bP : Value) (w : World) : Prop :=
  eE pg kF #[] w fun t14 w =>
  bQ pg (Al .not t14) w fun t16 w =>
  lY t16
    (R (.bool false) w)
    (bQ pg (jL .len #[23] 3 [bP]) w fun t18 w =>
    bQ pg (dL .gtr 3 (.tmp 18) (.const (.int .i64 20)) t18 (.int .i64 20)) w fun t19 w =>
    lY t19
      (R (.bool true) w)
      (eE pg lH #[(.int .i64 1000)] w fun t21 w =>
      bQ pg (gL t21 0) w fun t22 w =>
      bQ pg (gL t21 1) w fun t23 w =>
      kn bX bP t22 t23 (.slice none 0 0) (.bool false) w))
theorem mY (kn : K6) (R : K1) (hn : ∀ g w, kn (g 0) (g 1) (g 6) (g 7) (g 8) (g 9) w → Q .normal g w) (hr : HR cI R Q) (h : iH kn R (g 0) (g 1) w) : dX pg bB (cJ 7 aX) Q g w :=
  dT (l := []) (by kernel_rfl) h hn hr trivial
def iI (R : K1) (bX bP : Value) (w : World) : Prop :=
  iH (fun bX bP gV hU bW t9 w => fQ R bX bP gV hU bW t9 w) R bX bP w
theorem mR (R : K1) (hr : HR cI R Q) (h : iI R (g 0) (g 1) w) : dX pg bB aX Q g w :=
  eY 7 _ g w (by kernel_rfl) (mY (eK (fun g w => dX pg bB (bJ 7 aX) Q g w) Q) g w (fun bX bP gV hU bW t9 w => fQ R bX bP gV hU bW t9 w) R (fun g w h => gG (K := fun g w => dX pg bB (bJ 7 aX) Q g w) (mH Q g w R hr h)) hr h)
def nF (a0 a1 : Value) (w : World) (R : K1) : Prop :=
  iI R a0 a1 w
theorem pC {a0 a1 : Value} {w : World} {R : K1} (h : nF a0 a1 w R) : eE pg jN #[a0, a1] w R := by
  refine eA (ann := bB) (fn := Try.f3) (c := aX) (args := [a0, a1]) (rs := cI) (N := 99) TryM.mixed (by kernel_rfl) Try.func3 (by kernel_rfl) (by kernel_rfl) (by kernel_rfl) (of_decide_eq_true (by kernel_rfl)) (by kernel_rfl) ?_
  exact (mR (pJ pg cI R) (jY [a0, a1]) w R (fun _ _ h => h) h)
end Go.Proofs.Ytmhokapokchneaa
namespace Go.Proofs.Ytmhokapokchneaa
open Go Go.En
set_option linter.unusedVariables false
set_option maxRecDepth 4000
theorem cH {k k' : IntKind} {lo hi : Int} (a : Option Addr) (n c : Nat) (w : World) (h0 : 0 ≤ lo) (h1 : lo ≤ hi) (h2 : hi ≤ c) : (pL 23 (.slice a n c) (some (.int k lo)) (some (.int k' hi)) none).run pg w = .ok (.value (.slice (gZ a c (lo.toNat) 1) (hi.toNat - lo.toNat) (c - lo.toNat))) w := uO Try.underlying23 tP _ n c h0 h1 h2
theorem dS {k : IntKind} {a : Int} (b o n c : Nat) (w : World) (h0 : 0 ≤ a) (h1 : a < n) : (kL 23 (.slice (some ⟨b, o, none⟩) n c) (.int k a)).run pg w = .ok (.value (.pointer (some ⟨b, o + a.toNat, none⟩))) w := tZ rfl Try.underlying23 tP b o n c h0 h1
theorem eH (x : Addr) (w : World) : (dY 5 (.pointer (some x))).run pg w = Ab (w.cell? x) w (Aa pg 5 x w) := wE Try.underlying5 rfl x w
theorem zJ {b off : Nat} {cs : List Value} {w : World} {v : Value} {K : Value → World → Prop} (ho : fL w b cs) (hv : one v = true) (h : off < cs.length) (hk : ∀ w', fL w' b (cs.set off v) → dQ w w' (fun x => x = b) → w'.heap.size = w.heap.size → K undef w') : bQ pg (fD 5 (.pointer (some ⟨b, off, none⟩)) v) w K := lE tP rfl ho hv h hk
theorem eC {ox oy : Operand} (c d : Bool) (w : World) : (dL .eql 4 ox oy (.bool c) (.bool d)).run pg w = .ok (.value (.bool (c == d))) w := AP c d Try.underlying4
end Go.Proofs.Ytmhokapokchneaa
namespace Go.Proofs.Ytmhokapokchneaa
open Go Go.En
set_option linter.unusedVariables false
set_option maxRecDepth 4000
theorem dN {k : IntKind} (a : Int) (w : World) : (rM 5 3 (.int k a)).run pg w = .ok (.value (.int .i64 (IntKind.i64.wrap a))) w := AW Try.underlying5 Try.underlying3
end Go.Proofs.Ytmhokapokchneaa
namespace Go.Proofs.Ytmhokapokchneaa
open Go Go.En
set_option linter.unusedVariables false
set_option maxRecDepth 4000
theorem dO {ty : TypeId} (x : Option Addr) (n c : Nat) (w : World) : (jL .len #[53] ty [.slice x n c]).run pg w = .ok (.value (.int .i64 n)) w := uK Try.underlying53 x n c
end Go.Proofs.Ytmhokapokchneaa
namespace Go.Proofs.Ytmhokapokchneaa
open Go Go.En Go.Pu
set_option maxRecDepth 4000
set_option linter.unusedSimpArgs false
set_option linter.unusedVariables false
theorem eX.xd {w : World} {p : Nat} {X D : Nat → Prop} {S : qT} (h : eX w p X D S) : ∀ b, X b → D b := by
  obtain ⟨_, _, _, _, _, _, _, _, _, _, _, _, h7, _⟩ := h; exact h7
theorem kK.after {w w' : World} {X X' : Nat → Prop} {v : Value} {b : List UInt8} (h : kK w X v b) (hX : ∀ b, X' b → X b ∨ w.heap.size ≤ b) (x : dQ w w' X) : kK w' X' v b := ⟨h.1.ext x h.2, (h.sub hX).2⟩
theorem kK.low {w : World} {X Y : Nat → Prop} {v : Value} {b : List UInt8} (h : kK w X v b) (hY : ∀ b, Y b → X b) : kK w Y v b := ⟨h.1, fun h' => h.2 (kH h' hY)⟩
abbrev nA : ByteArray := ⟨#[97]⟩
theorem Ay {room : Int} {su c : fK} {u : List sC} {o : sC} : rI ⟨room, su, c, u, -1, false⟩ o = (⟨room, su, tL o c, u ++ [o], -1, false⟩, 0) := rfl
theorem A4 {room : Int} {su c : fK} {u : List sC} {name : ByteArray} {a : Nat} {l old : List UInt8} (hm : wS name = true) (ho : (kM name c).getD [] = old) (ha : a ≤ old.length) :
    Ac ⟨room, su, c, u, -1, false⟩ name a l = if room < ((eP c + ((a + l.length) - old.length) : Nat) : Int) then (⟨room, su, c, u, -1, false⟩, 22) else (⟨room, su, uW name (over old a l) c, u ++ [⟨0, name, ⟨#[]⟩, a, l⟩], -1, false⟩, 0) := by
  have hE : AY ⟨room, su, c, u, -1, false⟩ name a l.length = if room < ((eP c + ((a + l.length) - old.length) : Nat) : Int) then 22 else 0 := by
    unfold AY uJ
    simp only
    rw [ho, hm, if_neg (by decide), if_neg (by rintro (h | h); cases h; omega), if_neg (by omega)]
    have : (eP c : Int) + max ((a : Int) + (l.length : Int) - (old.length : Int)) 0 = ((eP c + ((a + l.length) - old.length) : Nat) : Int) := by omega
    rw [this]
  unfold Ac
  rw [hE]
  by_cases h : room < ((eP c + ((a + l.length) - old.length) : Nat) : Int)
  · rw [if_pos h, if_neg (by decide), if_pos h]
  · rw [if_neg h, if_pos rfl, if_neg h, Ay]
    unfold tL
    rw [if_pos rfl]
    simp only [ho, Int.toNat_natCast]
theorem dQ.big {w w1 w2 : World} {M : Nat → Prop} (x : dQ w w1 kP) (y : dQ w1 w2 M) (h : ∀ b, M b → w.heap.size ≤ b) : dQ w w2 kP := x.trans y fun b hb hm => by have := h b hm; omega
theorem uN (os : List sC) (c : fK) : ∀ i, tO os [] c i = c
  | 0 => rfl
  | i + 1 => by
    rw [tO]
    cases os[i]? with
    | none => exact uN os c i
    | some o => exact uN os c i
theorem yL (w : World) : eE pg kF #[] w (fun r w' => r = .bool true ∧ dQ w w' kP) := by
  refine rR ?_
  unfold sD lI
  refine (zT (room := 100) (by omega) (by omega)).mono ?_
  rintro r w1 ⟨p, X, rfl, h1, hX1, x1⟩
  have n0 : ((0 : Int) != 0) = false := rfl
  simp (disch := omega) only [bQ, dR, bA, bC, dJ, dK, cN, cR, cQ, cL, dV, cW, bO, dG, cX, dI, dB, dC, cO, dA, dD, cV, dE, cS, cD, cZ, cY, dF, gP, gN, gO, gM, gU, gQ, gW, gT, gX, bM, Result.ok.injEq, Next.value.injEq, true_and, and_true, cK, cU, cP, cM, dH, dW, Int.toNat_natCast, bZ, cC, cB, cF, bS, bN, bT, bL, bK, bH, if_true, if_false, Bool.false_eq_true, Nat.zero_add, Option.isNone_some, Option.isNone_none, Bool.not_true, Bool.not_false, List.getElem?_cons_succ, List.getElem?_cons_zero, aT, aI, aN, aV, aY, aP, cA, aA, aM, aH, aK, aJ, bD, bE, bU, aO, aQ, aR, aG, aS, aC, bG, aW, aF, bF, aE, aL, aD, aZ, aU, aB, cH, dS, eH, eC, dN, dO, n0]
  refine sH (cells := #[.int .u8 120, .int .u8 121]) (by decide) (by decide) (by kernel_rfl) fun w2 o2 x2 s2 => ?_
  refine uZ o2 fun w3 o3 x3 s3 => ?_
  have x13 : dQ w1 w3 kP := x2.new x3 (by omega)
  have hb : Bs w3 (.slice (some ⟨w1.heap.size, 0, none⟩) 2 2) [120, 121] := fL.whole (l := [120, 121]) (c := 2) o3 (by simp)
  have hB0 : Ad (AH 100) := ⟨by decide, by decide, by decide, by decide⟩
  refine (vN (a := 0) (name := nA) (h1.new x13) hB0 hb (by simp) (by omega) (by omega)).mono ?_
  rintro r w4 ⟨rfl, hp4⟩
  have e1 : Ac (AH 100) nA 0 [120, 121] = (⟨100, [], [(nA, [120, 121])], [⟨0, nA, ⟨#[]⟩, 0, [120, 121]⟩], -1, false⟩, 0) := by rfl
  rw [e1] at hp4 ⊢
  obtain ⟨X4, D4, h4, hX4, hD4, x4⟩ := hp4
  have hB4 : Ad ⟨100, [], [(nA, [120, 121])], [⟨0, nA, ⟨#[]⟩, 0, [120, 121]⟩], -1, false⟩ := ⟨by decide, by decide, by decide, by decide⟩
  have x03 := x1.seq x13
  have z3 := x03.size
  have z1 := x1.size
  have x04 : dQ w w4 kP := dQ.big x03 x4 hX1
  have big4 : ∀ b, X4 b → w.heap.size ≤ b := fun b h => by rcases hX4 b h with h | h; exact hX1 b h; omega
  simp (disch := omega) only [bQ, dR, bA, bC, dJ, dK, cN, cR, cQ, cL, dV, cW, bO, dG, cX, dI, dB, dC, cO, dA, dD, cV, dE, cS, cD, cZ, cY, dF, gP, gN, gO, gM, gU, gQ, gW, gT, gX, bM, Result.ok.injEq, Next.value.injEq, true_and, and_true, cK, cU, cP, cM, dH, dW, Int.toNat_natCast, bZ, cC, cB, cF, bS, bN, bT, bL, bK, bH, if_true, if_false, Bool.false_eq_true, Nat.zero_add, Option.isNone_some, Option.isNone_none, Bool.not_true, Bool.not_false, List.getElem?_cons_succ, List.getElem?_cons_zero, aT, aI, aN, aV, aY, aP, cA, aA, aM, aH, aK, aJ, bD, bE, bU, aO, aQ, aR, aG, aS, aC, bG, aW, aF, bF, aE, aL, aD, aZ, aU, aB, cH, dS, eH, eC, dN, dO]
  refine (uT (name := nA) h4 hB4 (fun b hb => by have hb : some [120, 121] = some b := hb; cases hb; decide)).mono ?_
  rintro r w5 ⟨hr, x5⟩
  rcases hr with ⟨h, _⟩ | ⟨_, h, _⟩ | ⟨_, b, v, hg, rfl, ho⟩
  · cases h
  · have h : some [120, 121] = (none : Option (List UInt8)) := h
    cases h
  have hg : some [120, 121] = some b := hg
  cases hg
  have dv : kK w5 D4 v [120, 121] := sG.dat ho fun b hb => eX.lt h4 b hb
  obtain ⟨va, vc, rfl⟩ := ho.len
  have h5 := h4.new x5
  have z4 := x04.size
  have z5 := x5.size
  simp (disch := omega) only [bQ, dR, bA, bC, dJ, dK, cN, cR, cQ, cL, dV, cW, bO, dG, cX, dI, dB, dC, cO, dA, dD, cV, dE, cS, cD, cZ, cY, dF, gP, gN, gO, gM, gU, gQ, gW, gT, gX, bM, Result.ok.injEq, Next.value.injEq, true_and, and_true, cK, cU, cP, cM, dH, dW, Int.toNat_natCast, bZ, cC, cB, cF, bS, bN, bT, bL, bK, bH, if_true, if_false, Bool.false_eq_true, Nat.zero_add, Option.isNone_some, Option.isNone_none, Bool.not_true, Bool.not_false, List.getElem?_cons_succ, List.getElem?_cons_zero, aT, aI, aN, aV, aY, aP, cA, aA, aM, aH, aK, aJ, bD, bE, bU, aO, aQ, aR, aG, aS, aC, bG, aW, aF, bF, aE, aL, aD, aZ, aU, aB, cH, dS, eH, eC, dN, dO]
  refine (pZ h5).mono ?_
  rintro r w6 ⟨rfl, hw⟩
  rw [hw]; clear hw w6
  refine (xE (ks := []) h5 (Sl.nil _) (fun h => h) (by simp) (by simp) (fun i hi => by rw [uN]; decide) (fun o ho => by
    have ho := List.mem_singleton.1 ho
    rw [ho]; exact ⟨by decide, by decide⟩)).mono ?_
  rintro r w6 ⟨rfl, hp6⟩
  have e6 : Bb ⟨100, [], [(nA, [120, 121])], [⟨0, nA, ⟨#[]⟩, 0, [120, 121]⟩], -1, false⟩ [] = ⟨100, [], [], [], -1, false⟩ := by rfl
  rw [e6] at hp6
  obtain ⟨X6, D6, h6, hX6, hD6, x6⟩ := hp6
  have dv6 := kK.after (kK.low dv (eX.xd h4)) hX6 x6
  have x06 : dQ w w6 kP := dQ.big (x04.seq x5) x6 big4
  have big6 : ∀ b, X6 b → w.heap.size ≤ b := fun b h => by rcases hX6 b h with h | h; exact big4 b h; omega
  have hB6 : Ad ⟨100, [], [], [], -1, false⟩ := ⟨by decide, by decide, by decide, by decide⟩
  refine (uT (name := nA) h6 hB6 (fun b hb => by have hb : none = some b := hb; cases hb)).mono ?_
  rintro r w7 ⟨hr, x7⟩
  rcases hr with ⟨h, _⟩ | ⟨_, _, rfl⟩ | ⟨_, b, v, hg, rfl, ho⟩
  · cases h
  · have hcv := gC (dv6.1.ext x7 (jO _))
    have n1 : ((0 : Int) == 0) = true := rfl
    have n2 : (((([⟨0, nA, ⟨#[]⟩, 0, [120, 121]⟩] : List sC).length : Nat) : Int) == 1) = true := rfl
    have n2' : (((1 : Nat) : Int) == 1) = true := rfl
    have n3 : ((21 : Int) == 21) = true := rfl
    have n4 : ((⟨([120, 121] : List UInt8).toArray⟩ : ByteArray).toList == (⟨#[120, 121]⟩ : ByteArray).toList) = true := by simp
    have hl2 : ([⟨0, nA, ⟨#[]⟩, 0, [120, 121]⟩] : List sC).length = 1 := rfl
    simp (disch := omega) only [bQ, dR, bA, bC, dJ, dK, cN, cR, cQ, cL, dV, cW, bO, dG, cX, dI, dB, dC, cO, dA, dD, cV, dE, cS, cD, cZ, cY, dF, gP, gN, gO, gM, gU, gQ, gW, gT, gX, bM, Result.ok.injEq, Next.value.injEq, true_and, and_true, cK, cU, cP, cM, dH, dW, Int.toNat_natCast, bZ, cC, cB, cF, bS, bN, bT, bL, bK, bH, if_true, if_false, Bool.false_eq_true, Nat.zero_add, Option.isNone_some, Option.isNone_none, Bool.not_true, Bool.not_false, List.getElem?_cons_succ, List.getElem?_cons_zero, aT, aI, aN, aV, aY, aP, cA, aA, aM, aH, aK, aJ, bD, bE, bU, aO, aQ, aR, aG, aS, aC, bG, aW, aF, bF, aE, aL, aD, aZ, aU, aB, cH, dS, eH, eC, dN, dO, n1, hl2, n2', n3, hcv, wC, n4]
    refine (AE (h6.new x7) hB6).mono ?_
    rintro r w8 ⟨rfl, hp8⟩
    obtain ⟨X8, D8, h8, hX8, hD8, x8⟩ := hp8
    have e8 : ((Ba ⟨100, [], [], [], -1, false⟩).2 == 0) = true := by rfl
    simp (disch := omega) only [bQ, dR, bA, bC, dJ, dK, cN, cR, cQ, cL, dV, cW, bO, dG, cX, dI, dB, dC, cO, dA, dD, cV, dE, cS, cD, cZ, cY, dF, gP, gN, gO, gM, gU, gQ, gW, gT, gX, bM, Result.ok.injEq, Next.value.injEq, true_and, and_true, cK, cU, cP, cM, dH, dW, Int.toNat_natCast, bZ, cC, cB, cF, bS, bN, bT, bL, bK, bH, if_true, if_false, Bool.false_eq_true, Nat.zero_add, Option.isNone_some, Option.isNone_none, Bool.not_true, Bool.not_false, List.getElem?_cons_succ, List.getElem?_cons_zero, aT, aI, aN, aV, aY, aP, cA, aA, aM, aH, aK, aJ, bD, bE, bU, aO, aQ, aR, aG, aS, aC, bG, aW, aF, bF, aE, aL, aD, aZ, aU, aB, cH, dS, eH, eC, dN, dO, e8]
    exact dQ.big (x06.seq x7) x8 big6
  · have hg : none = some b := hg
    cases hg
end Go.Proofs.Ytmhokapokchneaa
namespace Go.Proofs.Ytmhokapokchneaa
open Go Go.En Go.Pu
set_option maxRecDepth 4000
set_option linter.unusedSimpArgs false
set_option linter.unusedVariables false
theorem Bn {room : Int} {su c : fK} {u : List sC} {l : Int} {d : Bool} (hl : -1 ≤ l ∧ l ≤ 9223372036854775807) (hs : eP c ≤ 1099511627776) (hu : u.length ≤ 1000000) (hr : 0 ≤ room ∧ room ≤ 16777216) : Ad ⟨room, su, c, u, l, d⟩ := ⟨hl, hs, hu, hr⟩
end Go.Proofs.Ytmhokapokchneaa
namespace Go.Proofs.Ytmhokapokchneaa
open Go Go.En Go.Pu
set_option maxRecDepth 4000
set_option linter.unusedSimpArgs false
set_option linter.unusedVariables false
def qO (l : List UInt8) : List sC := (List.range l.length).map fun i => ⟨0, nA, ⟨#[]⟩, i, [l.getD i 0]⟩
def lZ (l : List UInt8) (i : Nat) : fK := if i = 0 then [] else [(nA, l.take i)]
def uS (ks : List Bool) (i : Nat) : Bool := ks[i]? == some true
def wF (l : List UInt8) (ks : List Bool) : Nat → List UInt8
  | 0 => []
  | i + 1 => if uS ks i then over (wF l ks i) i [l.getD i 0] else wF l ks i
def tF (ks : List Bool) : Nat → Bool
  | 0 => false
  | i + 1 => tF ks i || uS ks i
theorem uY (l : List UInt8) (ks : List Bool) : ∀ i, (wF l ks i).length ≤ i
  | 0 => by simp [wF]
  | i + 1 => by
    have := uY l ks i
    rw [wF]
    split
    · rw [rX]; simp; omega
    · omega
theorem uX (l : List UInt8) (ks : List Bool) : ∀ i, tF ks i = false → wF l ks i = []
  | 0, _ => rfl
  | i + 1, h => by
    rw [tF, Bool.or_eq_false_iff] at h
    rw [wF, if_neg (by rw [h.2]; decide)]
    exact uX l ks i h.1
theorem kW (l : List UInt8) : (qO l).length = l.length := by simp [qO]
theorem xJ {l : List UInt8} {i : Nat} (h : i < l.length) : (qO l)[i]? = some ⟨0, nA, ⟨#[]⟩, i, [l.getD i 0]⟩ := by
  unfold qO
  rw [List.getElem?_map, List.getElem?_range h] <;> rfl
theorem wB (l : List UInt8) (ks : List Bool) : ∀ i, i ≤ l.length → tO (qO l) ks [] i = if tF ks i then [(nA, wF l ks i)] else []
  | 0, _ => rfl
  | i + 1, h => by
    have ih := wB l ks i (by omega)
    rw [tO, xJ (by omega)]
    have hk : uS ks i = (ks[i]? == some true) := rfl
    cases hki : ks[i]? with
    | none =>
      rw [hki] at hk
      simp only
      rw [ih, tF, wF, hk]; simp
    | some b =>
      rw [hki] at hk
      cases b with
      | false => simp only; rw [ih, tF, wF, hk]; simp
      | true =>
        simp only
        have hk : uS ks i = true := by rw [hk]; decide
        rw [ih, tF, wF, hk, Bool.or_true, if_pos rfl, if_pos rfl]
        unfold tL
        rw [if_pos rfl]
        cases ht : tF ks i with
        | false => rw [if_neg (by decide), uX l ks i ht] <;> rfl
        | true => rw [if_pos rfl] <;> rfl
theorem yJ (l : List UInt8) {i : Nat} (h : i < l.length) : (qO l).take (i + 1) = (qO l).take i ++ [⟨0, nA, ⟨#[]⟩, i, [l.getD i 0]⟩] := by
  rw [List.take_add_one, xJ h] <;> rfl
theorem yD {l : List UInt8} {i : Nat} (h : i < l.length) : uW nA (over ((kM nA (lZ l i)).getD []) i [l.getD i 0]) (lZ l i) = lZ l (i + 1) ∧ ((kM nA (lZ l i)).getD []).length = i ∧ eP (lZ l i) = i := by
  have hg : (kM nA (lZ l i)).getD [] = l.take i := by
    unfold lZ
    split
    · rename_i h0; subst h0; simp [kM]
    · rfl
  have hov : over (l.take i) i [l.getD i 0] = l.take (i + 1) := by
    unfold over
    have hl : (l.take i).length = i := by rw [List.length_take]; omega
    rw [hl]
    show List.take i (l.take i ++ List.replicate (max i (i + 1) - i) 0) ++ [l.getD i 0] ++ List.drop (i + 1) (l.take i ++ List.replicate (max i (i + 1) - i) 0) = _
    rw [List.take_append_of_le_length (by omega), List.take_of_length_le (by omega), List.drop_of_length_le (by rw [List.length_append, hl, List.length_replicate]; omega), List.append_nil, List.take_add_one, List.getElem?_eq_getElem h, List.getD_eq_getElem?_getD, List.getElem?_eq_getElem h] <;> rfl
  rw [hg, hov]
  refine ⟨?_, by rw [List.length_take]; omega, ?_⟩
  · have e2 : lZ l (i + 1) = [(nA, l.take (i + 1))] := if_neg (by omega)
    by_cases h0 : i = 0
    · subst h0; rw [e2] <;> rfl
    · have e1 : lZ l i = [(nA, l.take i)] := if_neg h0
      rw [e1, e2] <;> rfl
  · unfold lZ
    split
    · rename_i h0; subst h0; rfl
    · show (l.take i).length + 0 = i
      rw [List.length_take]; omega
def vT (l : List UInt8) (i : Nat) : qT := ⟨1000, [], lZ l i, (qO l).take i, -1, false⟩
theorem yV {l : List UInt8} {i : Nat} (h : i < l.length) (hl : l.length ≤ 20) : Ac (vT l i) nA (i : Nat) [l.getD i 0] = (vT l (i + 1), 0) := by
  obtain ⟨h1, h2, h3⟩ := yD h
  unfold vT
  rw [A4 (old := (kM nA (lZ l i)).getD []) (by decide) rfl (by omega), if_neg (by rw [h2, h3]; show ¬ ((1000 : Int) < ((i + (i + 1 - i) : Nat) : Int)); omega), h1, yJ l h]
theorem AQ (l : List UInt8) (i : Nat) (h : i ≤ l.length) (hl : l.length ≤ 20) : Ad (vT l i) := by
  refine Bn (by omega) ?_ (by rw [List.length_take, kW]; omega) (by omega)
  unfold lZ
  split
  · show 0 ≤ _; omega
  · show (l.take i).length + 0 ≤ _
    rw [List.length_take]; omega
theorem zQ {old : List UInt8} {i k : Nat} {x : UInt8} (h : old.length + k = i + 1) (hk : old.length ≤ i) : (old ++ List.replicate k 0).set i x = over old i [x] := by
  unfold over
  show _ = List.take i (old ++ List.replicate (max old.length (i + 1) - old.length) 0) ++ [x] ++ List.drop (i + 1) (old ++ List.replicate (max old.length (i + 1) - old.length) 0)
  rw [show max old.length (i + 1) - old.length = k from by omega, List.set_eq_take_append_cons_drop, if_pos (by rw [List.length_append, List.length_replicate]; omega)]
  simp
theorem eX.grow {w w' : World} {p : Nat} {X D : Nat → Prop} {S : qT} (h : eX w p X D S) (x : dQ w w' (fun b => (D b ∧ ¬ X b) ∨ w.heap.size ≤ b)) : eX w' p X (fun b => D b ∨ (w.heap.size ≤ b ∧ b < w'.heap.size)) S := by
  obtain ⟨ms, mn, sv, ls, ln, cs, h1, h2, h3, h4, h5, h6, h7, h7', h8, h9, h10, h11, h12, h13, h14⟩ := h
  have z := x.size
  have hx : ∀ {b}, X b → ¬ ((D b ∧ ¬ X b) ∨ w.heap.size ≤ b) := fun {b} hb hm => by
    rcases hm with hm | hm
    · exact hm.2 hb
    · have := h7' _ (h7 _ hb); omega
  have hd : ∀ v b, kK w D v b → kK w' (fun b => D b ∨ (w.heap.size ≤ b ∧ b < w'.heap.size)) v b := fun v b hd => by
    have q1 := (hd.sub (Y := fun b => D b ∨ w.heap.size ≤ b) fun b h => h).ext x fun b h => by
      rcases h with h | h
      · exact .inl h.1
      · exact .inr h
    exact ⟨q1.1, fun h => q1.2 (kH h fun b hb => by rcases hb with hb | hb; exact .inl hb; exact .inr hb.1)⟩
  exact ⟨ms, mn, sv, ls, ln, cs, h1, h2, h3, h4, h5, h6, fun b h => .inl (h7 b h), fun b hb => by
    rcases hb with hb | hb
    · have := h7' b hb; omega
    · exact hb.2, h8.ext x (hx h1), h9.ext x (hx h2), h10.ext x (hx h3), h11.map hd, h12.map hd, h13.ext x (fun b hb => hx hb.1), h14.map hd⟩
theorem A6 {w : World} {S : Nat → Prop} {v : Value} {n : Nat} {l : List Value} (h : tY w S 1 v n l) : Sl w v l := by
  have hl := h.1
  rcases h.2 with ⟨rfl, h0⟩ | ⟨b, c, rest, rfl, _, ob, hbl, hc⟩
  · have : l = [] := List.length_eq_zero_iff.1 (by omega)
    rw [this]; exact Sl.nil _
  · refine ⟨_, _, _, rfl, by omega, hc, fun _ => ⟨_, _, rfl, fun i hi => ?_⟩⟩
    rw [ob.cell, Nat.zero_add, List.getElem?_append_left (by omega)]
end Go.Proofs.Ytmhokapokchneaa
namespace Go.Proofs.Ytmhokapokchneaa
open Go Go.En Go.Pu
set_option maxRecDepth 4000
set_option linter.unusedSimpArgs false
set_option linter.unusedVariables false
structure lO (w0 w : World) (l : List UInt8) (ks : List Bool) (p i : Nat) (X D : Nat → Prop) (wv : Value) (want : List UInt8) : Prop where
  dsk : eX w p X D (vT l i)
  big : ∀ b, X b → w0.heap.size ≤ b
  ext : dQ w0 w kP
  want : tY w (fun b => D b ∧ ¬ X b ∧ w0.heap.size ≤ b) 1 wv want.length (want.map nD)
theorem lO.push {w0 w : World} {l : List UInt8} {ks : List Bool} {p i : Nat} {X D : Nat → Prop} {wv : Value} {want : List UInt8} {y : UInt8} (h : lO w0 w l ks p i X D wv want) (hl : want.length ≤ 1000) {K : Value → World → Prop}
    (hK : ∀ v' w' D', lO w0 w' l ks p i X D' v' (want ++ [y]) → K v' w') :
    bQ pg (dZ 23 1 [(0, .int .u8 (y.toNat : Nat))]) w fun t w => bQ pg (jL .append #[23, 23] 23 [wv, t]) w fun t' w => K t' w := by
  refine sH (cells := #[.int .u8 (y.toNat : Nat)]) (by decide) (by decide) (by kernel_rfl) fun w1 o1 x1 s1 => ?_
  have z1 := x1.size
  have d1 := h.dsk.new x1
  have hu : tY w1 (fun b => (D b ∧ ¬ X b ∧ w0.heap.size ≤ b) ∨ w1.heap.size ≤ b) 1 wv want.length (want.map nD) := rH (h.want.ext x1 (fun b _ h => h)) fun b h => .inl h
  refine pF (m := 1) (news := [.int .u8 (y.toNat : Nat)]) (i := Try.t5) Try.underlying23 Try.underlying23 tP rfl rfl rfl hu (o1.cl (off := 0) (n := 1) rfl (fun i hi => by rw [Nat.zero_add])) (by simp [one]) (fun b hb => .inr hb) (by omega) (by rw [show Try.t5.bytes = 1 from rfl]; omega) (by decide) fun v' w' o' x' => ?_
  have z0 := h.ext.size
  have hlen : (want ++ [y]).length = want.length + 1 := by simp
  refine hK v' w' _ ⟨eX.grow d1 (x'.mono fun b _ h => by rcases h with h | h; exact .inl ⟨h.1, h.2.1⟩; exact .inr h), h.big, (h.ext.seq x1).trans x' fun b hb hm => ?_, ?_⟩
  · rcases hm with hm | hm
    · have := hm.2.2; omega
    · omega
  · rw [hlen, List.map_append]
    refine rH (xC o') fun b hb => ?_
    obtain ⟨hb, hlt⟩ := hb
    rcases hb with hb | hb
    · exact ⟨.inl hb.1, hb.2⟩
    · exact ⟨.inr ⟨hb, hlt⟩, fun hx => by have := eX.lt d1 b (eX.xd d1 b hx); omega, by omega⟩
theorem lO.put {w0 w : World} {l : List UInt8} {ks : List Bool} {p i j : Nat} {X D : Nat → Prop} {wv : Value} {want : List UInt8} {y : UInt8} (h : lO w0 w l ks p i X D wv want) (hj : j < want.length) {K : World → Prop} :
    ∃ q c, wv = .slice (some ⟨q, 0, none⟩) want.length c ∧ ((∀ w', lO w0 w' l ks p i X D wv (want.set j y) → K w') → bQ pg (fD 5 (.pointer (some ⟨q, j, none⟩)) (.int .u8 (y.toNat : Nat))) w fun _u w => K w) := by
  rcases h.want.2 with ⟨_, h0⟩ | ⟨q, c, rest, hq, hqS, oq, hql, hqc⟩
  · omega
  refine ⟨q, c, hq, fun hK => ?_⟩
  refine zJ oq rfl (by rw [List.length_append, List.length_map]; omega) fun w' o' x' s' => ?_
  have z0 := h.ext.size
  have hqb := hqS.2.2
  have hset : (want.map nD ++ rest).set j (.int .u8 (y.toNat : Nat)) = (want.set j y).map nD ++ rest := by
    rw [List.set_append_left _ _ (by rw [List.length_map]; exact hj), List.map_set] <;> rfl
  rw [hset] at o'
  refine hK w' ⟨h.dsk.ext x' fun b hb => by rw [hb]; exact ⟨hqS.1, hqS.2.1⟩, h.big, h.ext.trans x' fun b hb hm => by omega, ?_⟩
  refine ⟨by rw [List.length_map]; omega, .inr ⟨q, c, rest, by rw [List.length_set]; exact hq, hqS, o', ?_, by rw [List.length_set]; exact hqc⟩⟩
  rw [List.length_append, List.length_map] at hql
  rw [List.length_append, List.length_map, List.length_set]; exact hql
theorem vB {kv bv : Value} {ks : List Bool} {l : List UInt8} {w : World} (hk : Sl w kv (ks.map Value.bool)) (hkl : ks.length ≤ 9223372036854775807) (hb : Bs w bv l) (hl : l.length ≤ 9223372036854775807) :
    eE pg jN #[kv, bv] w (fun r w' => r = .bool true ∧ dQ w w' kP) := by
  refine pC ?_
  obtain ⟨RR, hRR⟩ : ∃ RR : Value → World → Prop, RR = fun r w' => r = .bool true ∧ dQ w w' kP := ⟨_, rfl⟩
  rw [← hRR]
  have hR : ∀ w', dQ w w' kP → RR (.bool true) w' := fun w' x => by rw [hRR]; exact ⟨rfl, x⟩
  unfold nF iI iH
  obtain ⟨ba, bc, rfl, hbc⟩ := hb.len
  obtain ⟨ka, kc, rfl, _⟩ := hk.len
  rw [List.length_map] at hb hk hbc
  rw [List.length_map, List.length_map]
  refine (yL w).mono ?_
  rintro r w1 ⟨rfl, x1⟩
  have z1 := x1.size
  by_cases h20 : 20 < l.length
  · have d1 : decide ((20 : Int) < (l.length : Int)) = true := by simp; omega
    simp (disch := omega) only [bQ, dR, bA, bC, dJ, dK, cN, cR, cQ, cL, dV, cW, bO, dG, cX, dI, dB, dC, cO, dA, dD, cV, dE, cS, cD, cZ, cY, dF, gP, gN, gO, gM, gU, gQ, gW, gT, gX, bM, Result.ok.injEq, Next.value.injEq, true_and, and_true, cK, cU, cP, cM, dH, dW, Int.toNat_natCast, bZ, cC, cB, cF, bS, bN, bT, bL, bK, bH, if_true, if_false, Bool.false_eq_true, Nat.zero_add, Option.isNone_some, Option.isNone_none, Bool.not_true, Bool.not_false, List.getElem?_cons_succ, List.getElem?_cons_zero, aT, aI, aN, aV, aY, aP, cA, aA, aM, aH, aK, aJ, bD, bE, bU, aO, aQ, aR, aG, aS, aC, bG, aW, aF, bF, aE, aL, aD, aZ, aU, aB, cH, dS, eH, eC, dN, dO, d1]
    exact hR _ x1
  have d1 : decide ((20 : Int) < (l.length : Int)) = false := by simp; omega
  simp (disch := omega) only [bQ, dR, bA, bC, dJ, dK, cN, cR, cQ, cL, dV, cW, bO, dG, cX, dI, dB, dC, cO, dA, dD, cV, dE, cS, cD, cZ, cY, dF, gP, gN, gO, gM, gU, gQ, gW, gT, gX, bM, Result.ok.injEq, Next.value.injEq, true_and, and_true, cK, cU, cP, cM, dH, dW, Int.toNat_natCast, bZ, cC, cB, cF, bS, bN, bT, bL, bK, bH, if_true, if_false, Bool.false_eq_true, Nat.zero_add, Option.isNone_some, Option.isNone_none, Bool.not_true, Bool.not_false, List.getElem?_cons_succ, List.getElem?_cons_zero, aT, aI, aN, aV, aY, aP, cA, aA, aM, aH, aK, aJ, bD, bE, bU, aO, aQ, aR, aG, aS, aC, bG, aW, aF, bF, aE, aL, aD, aZ, aU, aB, cH, dS, eH, eC, dN, dO, d1]
  refine (zT (room := 1000) (by omega) (by omega)).mono ?_
  rintro r w2 ⟨p, X, rfl, h2, hX2, x2⟩
  simp (disch := omega) only [bQ, dR, bA, bC, dJ, dK, cN, cR, cQ, cL, dV, cW, bO, dG, cX, dI, dB, dC, cO, dA, dD, cV, dE, cS, cD, cZ, cY, dF, gP, gN, gO, gM, gU, gQ, gW, gT, gX, bM, Result.ok.injEq, Next.value.injEq, true_and, and_true, cK, cU, cP, cM, dH, dW, Int.toNat_natCast, bZ, cC, cB, cF, bS, bN, bT, bL, bK, bH, if_true, if_false, Bool.false_eq_true, Nat.zero_add, Option.isNone_some, Option.isNone_none, Bool.not_true, Bool.not_false, List.getElem?_cons_succ, List.getElem?_cons_zero, aT, aI, aN, aV, aY, aP, cA, aA, aM, aH, aK, aJ, bD, bE, bU, aO, aQ, aR, aG, aS, aC, bG, aW, aF, bF, aE, aL, aD, aZ, aU, aB, cH, dS, eH, eC, dN, dO]
  unfold fQ iK iM fO iL
  have start : lO w w2 l ks p 0 X X (.slice none 0 0) (wF l ks 0) := ⟨h2, fun b h => by have := hX2 b h; omega, x1.seq x2, ⟨rfl, .inl ⟨rfl, rfl⟩⟩⟩
  refine jJ.rule (fun m (t : Value × Value × Value) w' => ∃ (i : Nat) (X D : Nat → Prop) (wv : Value), m = l.length - i ∧ t = (wv, .bool (tF ks i), .int .i64 i) ∧ i ≤ l.length ∧ lO w w' l ks p i X D wv (wF l ks i)) l.length
    ⟨0, X, X, _, rfl, rfl, by omega, start⟩ ?_
  clear start h2 hX2 x2
  rintro m t w3 ⟨i, X, D, wv, rfl, rfl, hi, h3⟩
  unfold fN iD
  by_cases hlt : i < l.length
  · have d2 : decide ((i : Int) < (l.length : Int)) = true := by simp; omega
    have ei : (i : Int) + 1 = ((i + 1 : Nat) : Int) := by omega
    have hb3 := hb.ext h3.ext (jO _)
    have hmid := Sl.mid hb3 (i := i) (j := i + 1) (by omega) (by omega)
    have hmid : Bs w3 (.slice (gZ ba bc i 1) (i + 1 - i) (bc - i)) [l.getD i 0] := by
      have e : ((l.map nD).drop i).take (i + 1 - i) = [l.getD i 0].map nD := by
        rw [show i + 1 - i = 1 from by omega, ← List.map_drop, ← List.map_take]
        congr 1
        rw [List.getD_eq_getElem?_getD, List.getElem?_eq_getElem hlt, List.drop_eq_getElem_cons hlt] <;> rfl
      rw [e] at hmid; exact hmid
    unfold fP iJ iE iF
    simp (disch := omega) only [bQ, dR, bA, bC, dJ, dK, cN, cR, cQ, cL, dV, cW, bO, dG, cX, dI, dB, dC, cO, dA, dD, cV, dE, cS, cD, cZ, cY, dF, gP, gN, gO, gM, gU, gQ, gW, gT, gX, bM, Result.ok.injEq, Next.value.injEq, true_and, and_true, cK, cU, cP, cM, dH, dW, Int.toNat_natCast, bZ, cC, cB, cF, bS, bN, bT, bL, bK, bH, if_true, if_false, Bool.false_eq_true, Nat.zero_add, Option.isNone_some, Option.isNone_none, Bool.not_true, Bool.not_false, List.getElem?_cons_succ, List.getElem?_cons_zero, aT, aI, aN, aV, aY, aP, cA, aA, aM, aH, aK, aJ, bD, bE, bU, aO, aQ, aR, aG, aS, aC, bG, aW, aF, bF, aE, aL, aD, aZ, aU, aB, cH, dS, eH, eC, dN, dO, d2, ei]
    refine (vN (a := (i : Nat)) (name := nA) (l := [l.getD i 0]) h3.dsk (AQ l i hi (by omega)) hmid (by simp) (by omega) (by omega)).mono ?_
    rintro r w4 ⟨rfl, hp4⟩
    rw [yV hlt (by omega)] at hp4 ⊢
    obtain ⟨X4, D4, h4, hX4, hD4, x4⟩ := hp4
    have z3 := h3.ext.size
    have x04 : dQ w w4 kP := dQ.big h3.ext x4 h3.big
    have hD3 := eX.lt h3.dsk
    have o4 : lO w w4 l ks p (i + 1) X4 D4 wv (wF l ks i) := ⟨h4, fun b h => by rcases hX4 b h with h | h; exact h3.big b h; omega, x04, rH (h3.want.ext x4 fun b hb hx => hb.2.1 hx) fun b hb => ⟨hD4 b hb.1, fun hx => by
      rcases hX4 b hx with h | h
      · exact hb.2.1 h
      · have := hD3 b hb.1; omega, hb.2.2⟩⟩
    have n0 : ((0 : Int) != 0) = false := rfl
    have skip : uS ks i = false → ∃ m, m < l.length - i ∧ ∃ (i' : Nat) (X D : Nat → Prop) (wv' : Value), m = l.length - i' ∧ ((wv, Value.bool (tF ks i), Value.int .i64 ((i + 1 : Nat) : Int)) : Value × Value × Value) = (wv', .bool (tF ks i'), .int .i64 i') ∧ i' ≤ l.length ∧ lO w w4 l ks p i' X D wv' (wF l ks i') := fun h =>
      ⟨l.length - (i + 1), by omega, i + 1, X4, D4, wv, rfl, by rw [tF, h, Bool.or_false], by omega, by rw [wF, h]; exact o4⟩
    unfold gA iU fX
    by_cases hki : i < ks.length
    · have d3 : decide ((i : Int) < (ks.length : Int)) = true := by simp; omega
      obtain ⟨kb, koff, rfl, hcell⟩ := AK (hk.ext x04 (jO _)) (by omega)
      have g1 := hcell i hki
      rw [List.getElem?_map, List.getElem?_eq_getElem hki] at g1
      simp only [Option.map_some] at g1
      have hkk : uS ks i = ks[i] := by unfold uS; rw [List.getElem?_eq_getElem hki]; cases ks[i] <;> rfl
      cases hq : ks[i] with
      | false =>
        rw [hq] at g1 hkk
        simp (disch := omega) only [bQ, dR, bA, bC, dJ, dK, cN, cR, cQ, cL, dV, cW, bO, dG, cX, dI, dB, dC, cO, dA, dD, cV, dE, cS, cD, cZ, cY, dF, gP, gN, gO, gM, gU, gQ, gW, gT, gX, bM, Result.ok.injEq, Next.value.injEq, true_and, and_true, cK, cU, cP, cM, dH, dW, Int.toNat_natCast, bZ, cC, cB, cF, bS, bN, bT, bL, bK, bH, if_true, if_false, Bool.false_eq_true, Nat.zero_add, Option.isNone_some, Option.isNone_none, Bool.not_true, Bool.not_false, List.getElem?_cons_succ, List.getElem?_cons_zero, aT, aI, aN, aV, aY, aP, cA, aA, aM, aH, aK, aJ, bD, bE, bU, aO, aQ, aR, aG, aS, aC, bG, aW, aF, bF, aE, aL, aD, aZ, aU, aB, cH, dS, eH, eC, dN, dO, n0, d3, g1, ei]
        exact skip hkk
      | true =>
        rw [hq] at g1 hkk
        simp (disch := omega) only [bQ, dR, bA, bC, dJ, dK, cN, cR, cQ, cL, dV, cW, bO, dG, cX, dI, dB, dC, cO, dA, dD, cV, dE, cS, cD, cZ, cY, dF, gP, gN, gO, gM, gU, gQ, gW, gT, gX, bM, Result.ok.injEq, Next.value.injEq, true_and, and_true, cK, cU, cP, cM, dH, dW, Int.toNat_natCast, bZ, cC, cB, cF, bS, bN, bT, bL, bK, bH, if_true, if_false, Bool.false_eq_true, Nat.zero_add, Option.isNone_some, Option.isNone_none, Bool.not_true, Bool.not_false, List.getElem?_cons_succ, List.getElem?_cons_zero, aT, aI, aN, aV, aY, aP, cA, aA, aM, aH, aK, aJ, bD, bE, bU, aO, aQ, aR, aG, aS, aC, bG, aW, aF, bF, aE, aL, aD, aZ, aU, aB, cH, dS, eH, eC, dN, dO, n0, d3, g1]
        unfold jI iS jG
        have hwl := uY l ks i
        refine jJ.rule (fun m (t : Value) w' => ∃ (k : Nat) (D : Nat → Prop) (wv : Value), m = i + 1 - ((wF l ks i).length + k) ∧ t = wv ∧ (wF l ks i).length + k ≤ i + 1 ∧ lO w w' l ks p (i + 1) X4 D wv (wF l ks i ++ List.replicate k 0)) (i + 1 - (wF l ks i).length)
          ⟨0, D4, wv, rfl, rfl, by omega, by rw [List.replicate_zero, List.append_nil]; exact o4⟩ ?_
        rintro m t w5 ⟨k, D5, wv5, rfl, rfl, hk5, h5⟩
        unfold gB
        have hwant : (wF l ks i ++ List.replicate k (0 : UInt8)).length = (wF l ks i).length + k := by rw [List.length_append, List.length_replicate]
        obtain ⟨wa, wc, hwv⟩ := tY.len h5.want
        rw [hwant] at hwv
        by_cases hle : (wF l ks i).length + k ≤ i
        · have d4 : decide ((((wF l ks i).length + k : Nat) : Int) ≤ (i : Int)) = true := by simp only [decide_eq_true_eq]; omega
          have hpush := fun {K : Value → World → Prop} hK => lO.push (y := 0) (K := K) h5 (by omega) hK
          rw [hwv] at hpush ⊢
          simp (disch := omega) only [bQ, dR, bA, bC, dJ, dK, cN, cR, cQ, cL, dV, cW, bO, dG, cX, dI, dB, dC, cO, dA, dD, cV, dE, cS, cD, cZ, cY, dF, gP, gN, gO, gM, gU, gQ, gW, gT, gX, bM, Result.ok.injEq, Next.value.injEq, true_and, and_true, cK, cU, cP, cM, dH, dW, Int.toNat_natCast, bZ, cC, cB, cF, bS, bN, bT, bL, bK, bH, if_true, if_false, Bool.false_eq_true, Nat.zero_add, Option.isNone_some, Option.isNone_none, Bool.not_true, Bool.not_false, List.getElem?_cons_succ, List.getElem?_cons_zero, aT, aI, aN, aV, aY, aP, cA, aA, aM, aH, aK, aJ, bD, bE, bU, aO, aQ, aR, aG, aS, aC, bG, aW, aF, bF, aE, aL, aD, aZ, aU, aB, cH, dS, eH, eC, dN, dO, d4]
          refine hpush fun v' w' D' h' => ?_
          refine ⟨i + 1 - ((wF l ks i).length + (k + 1)), by omega, k + 1, D', v', rfl, rfl, by omega, ?_⟩
          rw [List.append_assoc, ← List.replicate_succ'] at h'
          exact h'
        · have d4 : decide ((((wF l ks i).length + k : Nat) : Int) ≤ (i : Int)) = false := by simp only [decide_eq_false_iff_not]; omega
          obtain ⟨bb, boff, rfl, hbcell⟩ := AK (hb.ext h5.ext (jO _)) (by omega)
          have gb := hbcell i hlt
          rw [List.getElem?_map, List.getElem?_eq_getElem hlt] at gb
          have gb : w5.cell? ⟨bb, boff + i, none⟩ = some (.int .u8 ((l.getD i 0).toNat : Nat)) := by
            rw [gb, List.getD_eq_getElem?_getD, List.getElem?_eq_getElem hlt] <;> rfl
          have hov := zQ (old := wF l ks i) (i := i) (k := k) (x := l.getD i 0) (by omega) hwl
          have hput := fun {K : World → Prop} => lO.put (K := K) (j := i) (y := l.getD i 0) h5 (by omega)
          rw [hwant, hov] at hput
          rw [hwv] at hput ⊢
          obtain ⟨q, c, hq', hput'⟩ := hput (K := fun w' => ∃ m, m < l.length - i ∧ ∃ (i' : Nat) (X D : Nat → Prop) (wv' : Value), m = l.length - i' ∧ ((Value.slice wa ((wF l ks i).length + k) wc, Value.bool true, Value.int .i64 ((i + 1 : Nat) : Int)) : Value × Value × Value) = (wv', .bool (tF ks i'), .int .i64 i') ∧ i' ≤ l.length ∧ lO w w' l ks p i' X D wv' (wF l ks i'))
          simp only [Value.slice.injEq] at hq'
          obtain ⟨rfl, -, -⟩ := hq'
          unfold gH
          simp (disch := omega) only [bQ, dR, bA, bC, dJ, dK, cN, cR, cQ, cL, dV, cW, bO, dG, cX, dI, dB, dC, cO, dA, dD, cV, dE, cS, cD, cZ, cY, dF, gP, gN, gO, gM, gU, gQ, gW, gT, gX, bM, Result.ok.injEq, Next.value.injEq, true_and, and_true, cK, cU, cP, cM, dH, dW, Int.toNat_natCast, bZ, cC, cB, cF, bS, bN, bT, bL, bK, bH, if_true, if_false, Bool.false_eq_true, Nat.zero_add, Option.isNone_some, Option.isNone_none, Bool.not_true, Bool.not_false, List.getElem?_cons_succ, List.getElem?_cons_zero, aT, aI, aN, aV, aY, aP, cA, aA, aM, aH, aK, aJ, bD, bE, bU, aO, aQ, aR, aG, aS, aC, bG, aW, aF, bF, aE, aL, aD, aZ, aU, aB, cH, dS, eH, eC, dN, dO, d4, gb, ei]
          refine hput' fun w' h' => ⟨l.length - (i + 1), by omega, i + 1, X4, D5, _, rfl, by rw [tF, hkk, Bool.or_true], by omega, ?_⟩
          rw [wF, hkk, if_pos rfl]
          exact h'
    · have d3 : decide ((i : Int) < (ks.length : Int)) = false := by simp; omega
      have hkk : uS ks i = false := by unfold uS; rw [List.getElem?_eq_none (by omega)] <;> rfl
      simp (disch := omega) only [bQ, dR, bA, bC, dJ, dK, cN, cR, cQ, cL, dV, cW, bO, dG, cX, dI, dB, dC, cO, dA, dD, cV, dE, cS, cD, cZ, cY, dF, gP, gN, gO, gM, gU, gQ, gW, gT, gX, bM, Result.ok.injEq, Next.value.injEq, true_and, and_true, cK, cU, cP, cM, dH, dW, Int.toNat_natCast, bZ, cC, cB, cF, bS, bN, bT, bL, bK, bH, if_true, if_false, Bool.false_eq_true, Nat.zero_add, Option.isNone_some, Option.isNone_none, Bool.not_true, Bool.not_false, List.getElem?_cons_succ, List.getElem?_cons_zero, aT, aI, aN, aV, aY, aP, cA, aA, aM, aH, aK, aJ, bD, bE, bU, aO, aQ, aR, aG, aS, aC, bG, aW, aF, bF, aE, aL, aD, aZ, aU, aB, cH, dS, eH, eC, dN, dO, n0, d3, ei]
      exact skip hkk
  · have d2 : decide ((i : Int) < (l.length : Int)) = false := by simp; omega
    obtain rfl : i = l.length := by omega
    obtain ⟨wa, wc, hwv⟩ := tY.len h3.want
    subst hwv
    have hlen : ((qO l).take l.length).length = l.length := by rw [List.length_take, kW]; omega
    have htake : (qO l).take l.length = qO l := List.take_of_length_le (by rw [kW]; omega)
    have hwl := uY l ks l.length
    have z3 := h3.ext.size
    unfold fW
    simp (disch := omega) only [bQ, dR, bA, bC, dJ, dK, cN, cR, cQ, cL, dV, cW, bO, dG, cX, dI, dB, dC, cO, dA, dD, cV, dE, cS, cD, cZ, cY, dF, gP, gN, gO, gM, gU, gQ, gW, gT, gX, bM, Result.ok.injEq, Next.value.injEq, true_and, and_true, cK, cU, cP, cM, dH, dW, Int.toNat_natCast, bZ, cC, cB, cF, bS, bN, bT, bL, bK, bH, if_true, if_false, Bool.false_eq_true, Nat.zero_add, Option.isNone_some, Option.isNone_none, Bool.not_true, Bool.not_false, List.getElem?_cons_succ, List.getElem?_cons_zero, aT, aI, aN, aV, aY, aP, cA, aA, aM, aH, aK, aJ, bD, bE, bU, aO, aQ, aR, aG, aS, aC, bG, aW, aF, bF, aE, aL, aD, aZ, aU, aB, cH, dS, eH, eC, dN, dO, d2]
    refine (pZ h3.dsk).mono ?_
    rintro r w4 ⟨rfl, hw⟩
    rw [hw]; clear hw w4
    have hul : (vT l l.length).under = qO l := htake
    have hfs : ∀ i, i ≤ l.length → eP (tO (qO l) ks [] i) ≤ 1099511627776 := fun i hi => by
      rw [wB l ks i hi]
      have := uY l ks i
      split
      · show (wF l ks i).length + 0 ≤ _; omega
      · show 0 ≤ _; omega
    refine (xE (ks := ks) h3.dsk (hk.ext h3.ext (jO _)) (fun h => (hk.old) (kH h h3.big)) hkl (by rw [hul, kW]; omega) (fun i hi => by rw [hul] at hi ⊢; rw [kW] at hi; exact hfs i hi) (fun o ho => by
      rw [hul] at ho
      obtain ⟨i, hi, rfl⟩ := List.mem_map.1 ho
      have := List.mem_range.1 hi
      exact ⟨by show i ≤ _; omega, by show 1 ≤ _; omega⟩)).mono ?_
    rintro r w4 ⟨rfl, hp4⟩
    have hcs : Bb (vT l l.length) ks = ⟨1000, if tF ks l.length then [(nA, wF l ks l.length)] else [], if tF ks l.length then [(nA, wF l ks l.length)] else [], [], -1, false⟩ := by
      unfold Bb
      rw [hul, kW]
      show (⟨1000, tO (qO l) ks [] l.length, tO (qO l) ks [] l.length, [], -1, false⟩ : qT) = _
      rw [wB l ks l.length (Nat.le_refl _)]
    rw [hcs] at hp4
    obtain ⟨X4, D4, h4, hX4, hD4, x4⟩ := hp4
    have x04 : dQ w w4 kP := dQ.big h3.ext x4 h3.big
    have big4 : ∀ b, X4 b → w.heap.size ≤ b := fun b h => by rcases hX4 b h with h | h; exact h3.big b h; omega
    have hwant : Bs w4 (.slice wa (wF l ks l.length).length wc) (wF l ks l.length) := A6 (h3.want.ext x4 fun b hb hx => hb.2.1 hx)
    have hB4 : Ad ⟨1000, if tF ks l.length then [(nA, wF l ks l.length)] else [], if tF ks l.length then [(nA, wF l ks l.length)] else [], [], -1, false⟩ := Bn (by omega) (by
      split
      · show (wF l ks l.length).length + 0 ≤ _; omega
      · show 0 ≤ _; omega) (by simp) (by omega)
    have hul' : (vT l l.length).under.length = l.length := by rw [hul, kW]
    rw [hul']
    refine (uT (name := nA) h4 hB4 (fun b hb => by
      cases ht : tF ks l.length with
      | false => rw [ht] at hb; cases hb
      | true =>
        rw [ht] at hb
        have hb : some (wF l ks l.length) = some b := hb
        cases hb; omega)).mono ?_
    rintro r w5 ⟨hr, x5⟩
    have hw5 := gC (hwant.ext x5 (jO _))
    have h5 := h4.new x5
    have n0 : ((0 : Int) == 0) = true := rfl
    have n1 : (((l.length : Nat) : Int) == ((l.length : Nat) : Int)) = true := by simp
    rcases hr with ⟨h, _⟩ | ⟨_, hg, rfl⟩ | ⟨_, b, v, hg, rfl, ho⟩
    · cases h
    · cases ht : tF ks l.length with
      | true => rw [ht] at hg; have hg : some (wF l ks l.length) = none := hg; cases hg
      | false =>
        rw [uX l ks _ ht] at hw5 ⊢
        have n2 : ((21 : Int) == 0) = false := rfl
        have nb : (false == false) = true := rfl
        have n3 : ((⟨([] : List UInt8).toArray⟩ : ByteArray).toList == (⟨([] : List UInt8).toArray⟩ : ByteArray).toList) = true := by simp
        have hnil0 : Bs w5 (.slice none 0 0) [] := Sl.nil w5
        have hnil := gC hnil0
        simp (disch := omega) only [bQ, dR, bA, bC, dJ, dK, cN, cR, cQ, cL, dV, cW, bO, dG, cX, dI, dB, dC, cO, dA, dD, cV, dE, cS, cD, cZ, cY, dF, gP, gN, gO, gM, gU, gQ, gW, gT, gX, bM, Result.ok.injEq, Next.value.injEq, true_and, and_true, cK, cU, cP, cM, dH, dW, Int.toNat_natCast, bZ, cC, cB, cF, bS, bN, bT, bL, bK, bH, if_true, if_false, Bool.false_eq_true, Nat.zero_add, Option.isNone_some, Option.isNone_none, Bool.not_true, Bool.not_false, List.getElem?_cons_succ, List.getElem?_cons_zero, aT, aI, aN, aV, aY, aP, cA, aA, aM, aH, aK, aJ, bD, bE, bU, aO, aQ, aR, aG, aS, aC, bG, aW, aF, bF, aE, aL, aD, aZ, aU, aB, cH, dS, eH, eC, dN, dO, n0, n1, n2, nb, hnil, hw5, wC, n3]
        refine (pZ h5).mono ?_
        rintro r w6 ⟨rfl, hw⟩
        rw [hw]; clear hw w6
        have n4 : ((((([] : List sC).length : Nat) : Nat) : Int) == 0) = true := rfl
        have hl0 : ([] : List sC).length = 0 := rfl
        have n5 : (((0 : Nat) : Int) == 0) = true := rfl
        simp (disch := omega) only [bQ, dR, bA, bC, dJ, dK, cN, cR, cQ, cL, dV, cW, bO, dG, cX, dI, dB, dC, cO, dA, dD, cV, dE, cS, cD, cZ, cY, dF, gP, gN, gO, gM, gU, gQ, gW, gT, gX, bM, Result.ok.injEq, Next.value.injEq, true_and, and_true, cK, cU, cP, cM, dH, dW, Int.toNat_natCast, bZ, cC, cB, cF, bS, bN, bT, bL, bK, bH, if_true, if_false, Bool.false_eq_true, Nat.zero_add, Option.isNone_some, Option.isNone_none, Bool.not_true, Bool.not_false, List.getElem?_cons_succ, List.getElem?_cons_zero, aT, aI, aN, aV, aY, aP, cA, aA, aM, aH, aK, aJ, bD, bE, bU, aO, aQ, aR, aG, aS, aC, bG, aW, aF, bF, aE, aL, aD, aZ, aU, aB, cH, dS, eH, eC, dN, dO, hl0, n5]
        exact hR _ (x04.seq x5)
    · cases ht : tF ks l.length with
      | false => rw [ht] at hg; have hg : none = some b := hg; cases hg
      | true =>
        rw [ht] at hg
        have hg : some (wF l ks l.length) = some b := hg
        cases hg
        obtain ⟨va, vc, rfl⟩ := ho.len
        have hv5 := gC (show Bs w5 (.slice va (wF l ks l.length).length vc) (wF l ks l.length) from ho.sl)
        have nb : (true == true) = true := rfl
        have n3 : ((⟨(wF l ks l.length).toArray⟩ : ByteArray).toList == (⟨(wF l ks l.length).toArray⟩ : ByteArray).toList) = true := by simp
        simp (disch := omega) only [bQ, dR, bA, bC, dJ, dK, cN, cR, cQ, cL, dV, cW, bO, dG, cX, dI, dB, dC, cO, dA, dD, cV, dE, cS, cD, cZ, cY, dF, gP, gN, gO, gM, gU, gQ, gW, gT, gX, bM, Result.ok.injEq, Next.value.injEq, true_and, and_true, cK, cU, cP, cM, dH, dW, Int.toNat_natCast, bZ, cC, cB, cF, bS, bN, bT, bL, bK, bH, if_true, if_false, Bool.false_eq_true, Nat.zero_add, Option.isNone_some, Option.isNone_none, Bool.not_true, Bool.not_false, List.getElem?_cons_succ, List.getElem?_cons_zero, aT, aI, aN, aV, aY, aP, cA, aA, aM, aH, aK, aJ, bD, bE, bU, aO, aQ, aR, aG, aS, aC, bG, aW, aF, bF, aE, aL, aD, aZ, aU, aB, cH, dS, eH, eC, dN, dO, n0, n1, nb, hv5, hw5, wC, n3]
        refine (pZ h5).mono ?_
        rintro r w6 ⟨rfl, hw⟩
        rw [hw]; clear hw w6
        have hl0 : ([] : List sC).length = 0 := rfl
        have n5 : (((0 : Nat) : Int) == 0) = true := rfl
        simp (disch := omega) only [bQ, dR, bA, bC, dJ, dK, cN, cR, cQ, cL, dV, cW, bO, dG, cX, dI, dB, dC, cO, dA, dD, cV, dE, cS, cD, cZ, cY, dF, gP, gN, gO, gM, gU, gQ, gW, gT, gX, bM, Result.ok.injEq, Next.value.injEq, true_and, and_true, cK, cU, cP, cM, dH, dW, Int.toNat_natCast, bZ, cC, cB, cF, bS, bN, bT, bL, bK, bH, if_true, if_false, Bool.false_eq_true, Nat.zero_add, Option.isNone_some, Option.isNone_none, Bool.not_true, Bool.not_false, List.getElem?_cons_succ, List.getElem?_cons_zero, aT, aI, aN, aV, aY, aP, cA, aA, aM, aH, aK, aJ, bD, bE, bU, aO, aQ, aR, aG, aS, aC, bG, aW, aF, bF, aE, aL, aD, aZ, aU, aB, cH, dS, eH, eC, dN, dO, hl0, n5]
        exact hR _ (x04.seq x5)
end Go.Proofs.Ytmhokapokchneaa
namespace Go.En
open Go Go.ChangeShapes Go.WideShapes Go.ChangeAt Go.RowKit
theorem tR {H : Type} {enc : TypeId × Value → H} {P : Program} (hl : laidOutB P = true) {W W' : World} (hb : Below W.heap.size W W') : ∀ (ts : List TypeId) (vs : List Value) (ds : List (DataW H)) (ps : List MemPlace),
    (ts.all fun t => P.readableRec t && decide (t < P.types.size)) = true → DataW.TrodAll enc P W 0 (fun _ => true) true ts vs ds ps → (∀ x ∈ ps, x.block < W.heap.size) →
    DataW.TrodAll enc P W' 0 (fun b => decide (b < W.heap.size)) true ts vs ds ps := by
  intro ts
  induction ts with
  | nil =>
    intro vs ds ps _ h _
    cases vs <;> cases ds <;> simp [DataW.TrodAll] at h ⊢
    exact h
  | cons t ts ih =>
    intro vs ds ps hr h hlt
    cases vs with
    | nil => simp [DataW.TrodAll] at h
    | cons v vs =>
      cases ds with
      | nil => simp [DataW.TrodAll] at h
      | cons d ds =>
        obtain ⟨p, q, h1, h2, rfl⟩ := h
        rw [List.all_cons, Bool.and_eq_true, Bool.and_eq_true, decide_eq_true_eq] at hr
        exact ⟨p, q, Below.trod hl hr.1.1 hr.1.2 h1 hb (fun x hx => hlt x (List.mem_append_left _ hx)), ih _ _ _ hr.2 h2 (fun x hx => hlt x (List.mem_append_right _ hx)), rfl⟩
theorem yX {H : Type} {enc : TypeId × Value → H} {P : Program} {f : Func} {s : ChangeSpec} {apart fresh handsOn : Bool} {tb : TypeId} {W W' : World} {args : Array Value} {ds gs : List (DataW H)} {before : List MemPlace}
    (hl : laidOutB P = true) (hr : (f.params.toList.all fun t => P.readableRec t && decide (t < P.types.size)) = true) (hres : f.resultTypes = #[tb]) (hbool : P.underlying tb = some .bool)
    (hW : DataW.Whole enc P f.params.toList s.vars apart W args.toList ds gs before) (hvars : s.vars = []) (h1 : (s.fn H (ds ++ gs)).results = [.lit (.bool true)]) (h2 : (s.fn H (ds ++ gs)).args = ds) (h3 : (s.fn H (ds ++ gs)).vars = [])
    (hx : dQ W W' kP) : s.post enc P f apart fresh handsOn false W args (.bool true) W' := by
  have hb := hx.below
  have hlt : ∀ x ∈ before, x.block < W.heap.size := fun x hx => hW.lt x hx
  have hW' := hW
  obtain ⟨p, q, hA, hV, rfl, _, _⟩ := hW
  rw [hvars] at hV
  obtain ⟨_, rfl⟩ := trodVars_none hV
  rw [List.append_nil] at hW' hlt
  refine ⟨ds, gs, p, [], p, [], hW', ?_, ?_, ?_, hb.frame _, fun h => by cases h⟩
  · rw [h1, hres]
    exact trodAll_cons_mk (shut_bool hbool _) trodAll_mk0
  · rw [h2]; exact tR hl hb _ _ _ _ hr hA hlt
  · rw [h3, hvars] <;> rfl
theorem Ar {H : Type} {enc : TypeId × Value → H} {P : Program} {W : World} {base b0 : Nat} {r : Reach} {sp : Nat → Bool} {hd : Bool} {t e : TypeId} {k : IntKind} {v : Value} {d : DataW H} {ps : List MemPlace} (ht : P.underlying t = some (.slice e)) (he : P.underlying e = some (.int k)) (hc : P.cellsOf e = 1)
    (hval : Value.okWide P W r b0 t v) (h : DataW.Trod enc P W base sp hd t v d ps) :
    ∃ zs : List Int, Sl W v (zs.map (Value.int k)) ∧ zs.length ≤ 9223372036854775807 ∧ ∀ z ∈ zs, (Lit.int k z).wf = true := by
  obtain ⟨a0, len, cap, rfl⟩ := okWide_slice ht hval
  obtain ⟨fuel, hf⟩ := h
  rcases open_ints ht he hc hf with ⟨hcs, -⟩ | ⟨a, len', cap', zs, hcs, _, hl, hm, hz, -, hcell, hwz⟩
  · have : Value.slice a0 len cap = .slice none 0 0 := by simpa [Value.cells] using hcs
    cases this
    exact ⟨[], ⟨none, 0, 0, rfl, rfl, Nat.le_refl _, fun h => absurd h (by simp)⟩, by simp, by simp⟩
  · have : Value.slice a0 len cap = .slice (some a) len' cap' := by simpa [Value.cells] using hcs
    cases this
    unfold maxLen at hm
    have hle : len ≤ zs.length := by rw [hz]; split <;> omega
    refine ⟨zs.take len, ⟨some a, len, cap, rfl, by rw [List.length_map, List.length_take]; omega, hl, fun h0 => ?_⟩, by rw [List.length_take]; omega, fun z hz => hwz z (List.mem_of_mem_take hz)⟩
    obtain ⟨b, off, spot⟩ := a
    have hs : spot = none := by
      have h0 := hcell 0 (by omega)
      unfold World.cell? at h0
      split at h0
      · cases spot
        · rfl
        · simp [Addr.add] at h0
      · cases h0
    subst hs
    refine ⟨b, off, rfl, fun i hi => ?_⟩
    rw [← lT, hcell i (by omega), List.getElem?_map, List.getElem?_take_of_lt hi, List.getD_eq_getElem?_getD, List.getElem?_eq_getElem (by omega)]
    rfl
theorem zH (zs : List Int) (h : ∀ z ∈ zs, (Lit.int .u8 z).wf = true) : ∃ l : List UInt8, zs.map (Value.int .u8) = l.map nD ∧ l.length = zs.length := by
  refine ⟨zs.map fun z => UInt8.ofNat z.toNat, ?_, by simp⟩
  rw [List.map_map]
  refine List.map_congr_left fun z hz => ?_
  have := h z hz
  have hx : 0 ≤ z ∧ z ≤ 255 := by simpa [Lit.wf, IntKind.min, IntKind.max, IntKind.signed, IntKind.bits] using this
  show _ = nD (UInt8.ofNat z.toNat)
  unfold nD
  rw [UInt8.toNat_ofNat']
  congr 1
  omega
end Go.En
namespace Go.En
open Go Go.ChangeShapes Go.WideShapes Go.ChangeAt Go.RowKit
theorem zF {H : Type} {enc : TypeId × Value → H} {P : Program} {W : World} {base b0 : Nat} {r : Reach} {hd : Bool} {t e : TypeId} {v : Value} {d : DataW H} {ps : List MemPlace} (ht : P.underlying t = some (.slice e)) (he : P.underlying e = some .bool) (hc : P.cellsOf e = 1)
    (hval : Value.okWide P W r b0 t v) (h : DataW.Trod enc P W base (fun _ => true) hd t v d ps) :
    ∃ zs : List Bool, Sl W v (zs.map Value.bool) ∧ zs.length ≤ 9223372036854775807 := by
  obtain ⟨a0, len, cap, rfl⟩ := okWide_slice ht hval
  obtain ⟨fuel, hf⟩ := h
  rcases Go.Deep.open_bools ht he hc hf with ⟨hcs, -⟩ | ⟨a, len', cap', B, hcs, _, hl, hm, -, hcell⟩
  · have : Value.slice a0 len cap = .slice none 0 0 := by simpa [Value.cells] using hcs
    cases this
    exact ⟨[], ⟨none, 0, 0, rfl, rfl, Nat.le_refl _, fun h => absurd h (by simp)⟩, by simp⟩
  · have : Value.slice a0 len cap = .slice (some a) len' cap' := by simpa [Value.cells] using hcs
    cases this
    unfold maxLen at hm
    refine ⟨(List.range len).map B, ⟨some a, len, cap, rfl, by simp, hl, fun h0 => ?_⟩, by simp; omega⟩
    obtain ⟨b, off, spot⟩ := a
    have hs : spot = none := by
      have h0 := hcell 0 (by omega)
      unfold World.cell? at h0
      split at h0
      · cases spot
        · rfl
        · simp [Addr.add] at h0
      · cases h0
    subst hs
    refine ⟨b, off, rfl, fun i hi => ?_⟩
    rw [← lT, hcell i (by omega)]
    simp [hi]
end Go.En
