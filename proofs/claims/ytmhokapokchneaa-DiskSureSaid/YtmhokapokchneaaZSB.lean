/- Parts of the proof of DiskSure: merged and given short names by a program of ours. -/
import Derived.Shelf.SlMaps.Clone
import Derived.WalkKit
import Derived.ProofKit
import Derived.OpenShut
import Derived.Deep.Matrix
import Derived.Test.YtmhokapokchneaaZSA
namespace Go.En
open Go
set_option linter.unusedVariables false
section
variable {P : Program} {w : World} {t e : TypeId}
theorem uZ {i : TypeInfo} (hu : P.underlying t = some (.slice e)) (hi : P.info? e = some i)
    {K : Value → World → Prop} (hk : ∀ w', fT w' w.heap.size [] → dJ w w' jU → w'.heap.size = w.heap.size + 1 → K (.slice (some ⟨w.heap.size, 0, none⟩) 0 0) w') :
    bP P (dS t 0 []) w K := by
  have : (dS t 0 []).run P w = .ok (.value (.slice (some ⟨w.heap.size, 0, none⟩) 0 0)) (w.alloc (.cells ([] : List Value).toArray e)) := by
    unfold dS; rw [fR]
    have h1 : ¬ (0 > 2 ^ 24) := by omega
    have e : ∀ f : Nat → Value, Array.map f (Array.range 0) = #[] := fun f => by simp
    simp only [Instr.buildSlice, underlying, pure_bind, Sem.run_bind, run_program, Result.andThen_ok, hu, Sem.run_pure, eH hi, Nat.zero_mul, h1, if_false, if_true, newRow, run_newObj, Instr.fill, e]
    rfl
  unfold bP
  rw [this]
  exact hk _ (fT.alloc _ _ _) (dJ.alloc _ _ _) (by simp)
def At (v : Value) (b : Nat) : Prop := ∀ M : Nat → Prop, ¬ M b → ¬ tR v M
theorem At.nil (c b : Nat) (a : Option Addr) : At (.slice a 0 c) b := fun M h => by unfold tR; split <;> simp_all
theorem At.at (b o n c : Nat) : At (.slice (some ⟨b, o, none⟩) n c) b := fun M h => by
  unfold tR; split
  · rename_i x m _ e
    obtain ⟨rfl, _⟩ : (⟨b, o, none⟩ : Addr) = x ∧ _ := by simpa using e
    exact h
  · simp
theorem rF.at' {w : World} {base sz n : Nat} {v : Value} {l : List Value} (h : rF w base sz v n l) (hb : base < w.heap.size) : ∃ b, base ≤ b ∧ b < w.heap.size ∧ At v b := by
  rcases h.2 with ⟨rfl, rfl⟩ | ⟨b, c, rest, rfl, h2, h3, h4, h5⟩
  · exact ⟨base, Nat.le_refl _, hb, At.nil _ _ _⟩
  · exact ⟨b, h2, h3.lt, At.at _ _ _ _⟩
end
end Go.En
namespace Go.Proofs.Ytmhokapokchneaa
open Go Go.En
set_option maxRecDepth 4000
set_option linter.unusedSimpArgs false
set_option linter.unusedVariables false
theorem Aw (l : List UInt8) : ∀ y ∈ l.map pW, one y = true := fun y hy => by
  obtain ⟨z, -, rfl⟩ := List.mem_map.1 hy; rfl
theorem wY {v : Value} {l : List UInt8} {w : World} (h : Bs w v l) (hl : l.length ≤ 1000000000) :
    dG pg eP #[v] w (fun r w' => rF w' w.heap.size 1 r l.length (l.map pW) ∧ dJ w w' jU) := by
  refine mR ?_
  have h1 := h
  obtain ⟨a, n, c, rfl, hn, hc, hh⟩ := h
  rw [List.length_map] at hn
  unfold lQ gZ
  cases a with
  | none =>
    have h0 : l = [] := by
      cases l with
      | nil => rfl
      | cons x l => obtain ⟨b, off, h, _⟩ := hh (by simp at hn; omega); cases h
    subst h0
    simp (disch := omega) only [bP, dE, aY, bB, cR, cD, cI, cE, dA, cM, dL, cJ, bK, cS, cO, cZ, cL, cK, cU, cY, cT, cV, cP, cX, bS, cC, cN, cW, fD, fI, fA, fC, fF, fB, fE, eZ, fG, bJ, Result.ok.injEq, Next.value.injEq, true_and, and_true, cB, cF, cQ, cH, cG, dK, Int.toNat_natCast, bV, bR, bT, bU, bM, bL, bN, bH, bG, bF, if_true, if_false, Bool.false_eq_true, Nat.zero_add, Option.isNone_some, Option.isNone_none, Bool.not_true, Bool.not_false, List.getElem?_cons_succ, List.getElem?_cons_zero, aS, aJ, aP, aW, aZ, aQ, bQ, aA, aM, aH, aI, aK, bA, bC, bO, aR, aO, aN, aG, aT, aC, bD, aV, aF, bE, aE, aL, aD, aX, aU, aB]
    exact ⟨rF.nil _ _ _, dJ.refl _ _⟩
  | some x =>
    simp (disch := omega) only [bP, dE, aY, bB, cR, cD, cI, cE, dA, cM, dL, cJ, bK, cS, cO, cZ, cL, cK, cU, cY, cT, cV, cP, cX, bS, cC, cN, cW, fD, fI, fA, fC, fF, fB, fE, eZ, fG, bJ, Result.ok.injEq, Next.value.injEq, true_and, and_true, cB, cF, cQ, cH, cG, dK, Int.toNat_natCast, bV, bR, bT, bU, bM, bL, bN, bH, bG, bF, if_true, if_false, Bool.false_eq_true, Nat.zero_add, Option.isNone_some, Option.isNone_none, Bool.not_true, Bool.not_false, List.getElem?_cons_succ, List.getElem?_cons_zero, aS, aJ, aP, aW, aZ, aQ, bQ, aA, aM, aH, aI, aK, bA, bC, bO, aR, aO, aN, aG, aT, aC, bD, aV, aF, bE, aE, aL, aD, aX, aU, aB]
    refine uZ Try.underlying23 uU fun w1 o1 x1 s1 => ?_
    have hcl1 := (h1.ext x1 (jW _)).cl
    rw [List.length_map] at hcl1
    have hos : rF w1 w.heap.size 1 (.slice (some ⟨w.heap.size, 0, none⟩) 0 0) 0 [] := ⟨rfl, .inr ⟨_, 0, [], rfl, Nat.le_refl _, o1, rfl, Nat.le_refl _⟩⟩
    refine oP hos hcl1 (Aw _) x1.size (by omega) fun v3 w3 o3 x3 => ?_
    rw [Nat.zero_add, List.nil_append] at o3
    exact ⟨o3, x1.trans x3 fun b hb h => Nat.not_le_of_lt hb h⟩
theorem Ba {w : World} {a : Option Addr} {n c : Nat} {l : List Value} (h : Sl w (.slice a n c) l) (h0 : 0 < n) : ∃ b off, a = some ⟨b, off, none⟩ ∧ ∀ i, i < n → w.cell? ⟨b, off + i, none⟩ = l[i]? := by
  obtain ⟨a', n', c', e, hn, hc, hh⟩ := h
  cases e
  exact hh h0
end Go.Proofs.Ytmhokapokchneaa
namespace Go.Proofs.Ytmhokapokchneaa
open Go Go.En Go.Pu
set_option maxRecDepth 4000
set_option linter.unusedSimpArgs false
set_option linter.unusedVariables false
abbrev dP (p : Nat) : Value := .pointer (some ⟨p, 0, none⟩)
def lZ (w : World) (p : Nat) (X D : Nat → Prop) (S' : pK) (w' : World) : Prop := ∃ X' D', fN w' p X' D' S' ∧ (∀ b, X' b → X b ∨ w.heap.size ≤ b) ∧ (∀ b, D b → D' b) ∧ dJ w w' X
theorem lZ.refl {w : World} {p : Nat} {X D : Nat → Prop} {S : pK} (h : fN w p X D S) : lZ w p X D S w := ⟨X, D, h, fun _ h => .inl h, fun _ h => h, dJ.refl _ _⟩
theorem lZ.step {w w1 w2 : World} {p : Nat} {X D X1 D1 : Nat → Prop} {S2 : pK} (x : dJ w w1 X) (hX : ∀ b, X1 b → X b ∨ w.heap.size ≤ b) (hD : ∀ b, D b → D1 b) (h : lZ w1 p X1 D1 S2 w2) : lZ w p X D S2 w2 := by
  obtain ⟨X2, D2, h1, h2, h4, h3⟩ := h
  have z := x.size
  refine ⟨X2, D2, h1, fun b hb => ?_, fun b hb => h4 b (hD b hb), x.trans h3 fun b hb hx => ?_⟩
  · rcases h2 b hb with h | h
    · exact hX b h
    · exact .inr (by omega)
  · rcases hX b hx with h | h
    · exact h
    · omega
theorem xC {w : World} {S T : Nat → Prop} {sz n : Nat} {v : Value} {l : List Value} (h : vO w S sz v n l) (hT : ∀ b, S b → T b) : vO w T sz v n l := by
  refine ⟨h.1, ?_⟩
  rcases h.2 with h2 | ⟨b, c, rest, h1, h2, h3⟩
  · exact .inl h2
  · exact .inr ⟨b, c, rest, h1, hT b h2, h3⟩
theorem Ap {w : World} {S : Nat → Prop} {sz n : Nat} {v : Value} {l : List Value} (h : vO w S sz v n l) : vO w (fun b => S b ∧ b < w.heap.size) sz v n l := by
  refine ⟨h.1, ?_⟩
  rcases h.2 with h2 | ⟨b, c, rest, h1, h2, h3, h4⟩
  · exact .inl h2
  · exact .inr ⟨b, c, rest, h1, ⟨h2, h3.lt⟩, h3, h4⟩
theorem Ak {p : Nat} {X D : Nat → Prop} {S : pK} {w : World} (h : fN w p X D S) : dG pg eA #[dP p] w (fun r w' => r = .int .i64 (if S.down then 20 else 0) ∧ w' = w) := by
  refine lO ?_
  unfold mS iC
  obtain ⟨ms, mn, sv, ls, ln, cs, h1, h2, h3, h4, h5, h6, hXD, hDl, o, hms, hmn, hfs, hfn, hu, ho⟩ := h
  have c5 := o.cell (off := 5)
  simp only [List.getElem?_cons_zero, List.getElem?_cons_succ] at c5
  cases hd : S.down with
  | true =>
    rw [hd] at c5
    simp (disch := omega) only [bP, dE, aY, bB, cR, cD, cI, cE, dA, cM, dL, cJ, bK, cS, cO, cZ, cL, cK, cU, cY, cT, cV, cP, cX, bS, cC, cN, cW, fD, fI, fA, fC, fF, fB, fE, eZ, fG, bJ, Result.ok.injEq, Next.value.injEq, true_and, and_true, cB, cF, cQ, cH, cG, dK, Int.toNat_natCast, bV, bR, bT, bU, bM, bL, bN, bH, bG, bF, if_true, if_false, Bool.false_eq_true, Nat.zero_add, Option.isNone_some, Option.isNone_none, Bool.not_true, Bool.not_false, List.getElem?_cons_succ, List.getElem?_cons_zero, aS, aJ, aP, aW, aZ, aQ, bQ, aA, aM, aH, aI, aK, bA, bC, bO, aR, aO, aN, aG, aT, aC, bD, aV, aF, bE, aE, aL, aD, aX, aU, aB, c5]
  | false =>
    rw [hd] at c5
    simp (disch := omega) only [bP, dE, aY, bB, cR, cD, cI, cE, dA, cM, dL, cJ, bK, cS, cO, cZ, cL, cK, cU, cY, cT, cV, cP, cX, bS, cC, cN, cW, fD, fI, fA, fC, fF, fB, fE, eZ, fG, bJ, Result.ok.injEq, Next.value.injEq, true_and, and_true, cB, cF, cQ, cH, cG, dK, Int.toNat_natCast, bV, bR, bT, bU, bM, bL, bN, bH, bG, bF, if_true, if_false, Bool.false_eq_true, Nat.zero_add, Option.isNone_some, Option.isNone_none, Bool.not_true, Bool.not_false, List.getElem?_cons_succ, List.getElem?_cons_zero, aS, aJ, aP, aW, aZ, aQ, bQ, aA, aM, aH, aI, aK, bA, bC, bO, aR, aO, aN, aG, aT, aC, bD, aV, aF, bE, aE, aL, aD, aX, aU, aB, c5]
theorem sR (w : World) : dG pg eA #[.pointer none] w (fun r w' => r = .int .i64 1 ∧ w' = w) := by
  refine lO ?_
  unfold mS iC
  simp (disch := omega) only [bP, dE, aY, bB, cR, cD, cI, cE, dA, cM, dL, cJ, bK, cS, cO, cZ, cL, cK, cU, cY, cT, cV, cP, cX, bS, cC, cN, cW, fD, fI, fA, fC, fF, fB, fE, eZ, fG, bJ, Result.ok.injEq, Next.value.injEq, true_and, and_true, cB, cF, cQ, cH, cG, dK, Int.toNat_natCast, bV, bR, bT, bU, bM, bL, bN, bH, bG, bF, if_true, if_false, Bool.false_eq_true, Nat.zero_add, Option.isNone_some, Option.isNone_none, Bool.not_true, Bool.not_false, List.getElem?_cons_succ, List.getElem?_cons_zero, aS, aJ, aP, aW, aZ, aQ, bQ, aA, aM, aH, aI, aK, bA, bC, bO, aR, aO, aN, aG, aT, aC, bD, aV, aF, bE, aE, aL, aD, aX, aU, aB]
def rO (l : Int) : Int := if 0 < l then l - 1 else l
def yG (S : pK) : Bool := S.down || S.left == 0
theorem wS {p : Nat} {a b c d : Value} {left : Int} {down : Bool} {w : World} (o : fT w p [a, b, c, d, .int .i64 left, .bool down]) (hl : -1 ≤ left ∧ left ≤ 9223372036854775807) :
    dG pg fQ #[dP p] w (fun r w' => r = .bool (down || left == 0) ∧ fT w' p [a, b, c, d, .int .i64 (rO left), .bool (down || left == 0)] ∧ dJ w w' (fun y => y = p)) := by
  refine oM ?_
  unfold nD iS iL rO
  have c4 := o.cell (off := 4)
  simp only [List.getElem?_cons_zero, List.getElem?_cons_succ] at c4
  by_cases h0 : left = 0
  · subst h0
    have n1 : ((0 : Int) == 0) = true := rfl
    simp (disch := omega) only [bP, dE, aY, bB, cR, cD, cI, cE, dA, cM, dL, cJ, bK, cS, cO, cZ, cL, cK, cU, cY, cT, cV, cP, cX, bS, cC, cN, cW, fD, fI, fA, fC, fF, fB, fE, eZ, fG, bJ, Result.ok.injEq, Next.value.injEq, true_and, and_true, cB, cF, cQ, cH, cG, dK, Int.toNat_natCast, bV, bR, bT, bU, bM, bL, bN, bH, bG, bF, if_true, if_false, Bool.false_eq_true, Nat.zero_add, Option.isNone_some, Option.isNone_none, Bool.not_true, Bool.not_false, List.getElem?_cons_succ, List.getElem?_cons_zero, aS, aJ, aP, aW, aZ, aQ, bQ, aA, aM, aH, aI, aK, bA, bC, bO, aR, aO, aN, aG, aT, aC, bD, aV, aF, bE, aE, aL, aD, aX, aU, aB, c4, n1]
    refine wQ o rfl (by simp) fun w1 o1 x1 s1 => ?_
    simp only [List.set_cons_zero, List.set_cons_succ] at o1
    have c5 := o1.cell (off := 5)
    simp only [List.getElem?_cons_zero, List.getElem?_cons_succ] at c5
    unfold eL
    simp (disch := omega) only [bP, dE, aY, bB, cR, cD, cI, cE, dA, cM, dL, cJ, bK, cS, cO, cZ, cL, cK, cU, cY, cT, cV, cP, cX, bS, cC, cN, cW, fD, fI, fA, fC, fF, fB, fE, eZ, fG, bJ, Result.ok.injEq, Next.value.injEq, true_and, and_true, cB, cF, cQ, cH, cG, dK, Int.toNat_natCast, bV, bR, bT, bU, bM, bL, bN, bH, bG, bF, if_true, if_false, Bool.false_eq_true, Nat.zero_add, Option.isNone_some, Option.isNone_none, Bool.not_true, Bool.not_false, List.getElem?_cons_succ, List.getElem?_cons_zero, aS, aJ, aP, aW, aZ, aQ, bQ, aA, aM, aH, aI, aK, bA, bC, bO, aR, aO, aN, aG, aT, aC, bD, aV, aF, bE, aE, aL, aD, aX, aU, aB, c5]
    rw [Bool.or_true]
    exact ⟨rfl, o1, x1⟩
  have n1 : (left == 0) = false := beq_eq_false_iff_ne.2 h0
  rw [n1, Bool.or_false]
  by_cases h1 : 0 < left
  · have d1 : decide (0 < left) = true := by simpa using h1
    simp (disch := omega) only [bP, dE, aY, bB, cR, cD, cI, cE, dA, cM, dL, cJ, bK, cS, cO, cZ, cL, cK, cU, cY, cT, cV, cP, cX, bS, cC, cN, cW, fD, fI, fA, fC, fF, fB, fE, eZ, fG, bJ, Result.ok.injEq, Next.value.injEq, true_and, and_true, cB, cF, cQ, cH, cG, dK, Int.toNat_natCast, bV, bR, bT, bU, bM, bL, bN, bH, bG, bF, if_true, if_false, Bool.false_eq_true, Nat.zero_add, Option.isNone_some, Option.isNone_none, Bool.not_true, Bool.not_false, List.getElem?_cons_succ, List.getElem?_cons_zero, aS, aJ, aP, aW, aZ, aQ, bQ, aA, aM, aH, aI, aK, bA, bC, bO, aR, aO, aN, aG, aT, aC, bD, aV, aF, bE, aE, aL, aD, aX, aU, aB, c4, n1, d1]
    refine wC o rfl (by simp) fun w1 o1 x1 s1 => ?_
    simp only [List.set_cons_zero, List.set_cons_succ] at o1
    have c5 := o1.cell (off := 5)
    simp only [List.getElem?_cons_zero, List.getElem?_cons_succ] at c5
    unfold eL
    rw [if_pos h1]
    simp (disch := omega) only [bP, dE, aY, bB, cR, cD, cI, cE, dA, cM, dL, cJ, bK, cS, cO, cZ, cL, cK, cU, cY, cT, cV, cP, cX, bS, cC, cN, cW, fD, fI, fA, fC, fF, fB, fE, eZ, fG, bJ, Result.ok.injEq, Next.value.injEq, true_and, and_true, cB, cF, cQ, cH, cG, dK, Int.toNat_natCast, bV, bR, bT, bU, bM, bL, bN, bH, bG, bF, if_true, if_false, Bool.false_eq_true, Nat.zero_add, Option.isNone_some, Option.isNone_none, Bool.not_true, Bool.not_false, List.getElem?_cons_succ, List.getElem?_cons_zero, aS, aJ, aP, aW, aZ, aQ, bQ, aA, aM, aH, aI, aK, bA, bC, bO, aR, aO, aN, aG, aT, aC, bD, aV, aF, bE, aE, aL, aD, aX, aU, aB, c5]
    exact ⟨o1, x1⟩
  · have d1 : decide (0 < left) = false := by simpa using h1
    have c5 := o.cell (off := 5)
    simp only [List.getElem?_cons_zero, List.getElem?_cons_succ] at c5
    unfold eL
    rw [if_neg h1]
    simp (disch := omega) only [bP, dE, aY, bB, cR, cD, cI, cE, dA, cM, dL, cJ, bK, cS, cO, cZ, cL, cK, cU, cY, cT, cV, cP, cX, bS, cC, cN, cW, fD, fI, fA, fC, fF, fB, fE, eZ, fG, bJ, Result.ok.injEq, Next.value.injEq, true_and, and_true, cB, cF, cQ, cH, cG, dK, Int.toNat_natCast, bV, bR, bT, bU, bM, bL, bN, bH, bG, bF, if_true, if_false, Bool.false_eq_true, Nat.zero_add, Option.isNone_some, Option.isNone_none, Bool.not_true, Bool.not_false, List.getElem?_cons_succ, List.getElem?_cons_zero, aS, aJ, aP, aW, aZ, aQ, bQ, aA, aM, aH, aI, aK, bA, bC, bO, aR, aO, aN, aG, aT, aC, bD, aV, aF, bE, aE, aL, aD, aX, aU, aB, c4, c5, n1, d1]
    exact ⟨o, dJ.refl _ _⟩
def nI (S : pK) (o : sS) : pK × Int :=
  if yG S then ({ S with left := rO S.left, down := yG S }, 20)
  else ({ S with left := rO S.left, down := yG S, under := S.under ++ [o], seen := qE o S.seen }, 0)
theorem yR {p : Nat} {X D : Nat → Prop} {S : pK} {o : sS} {va : Option Addr} {vc : Nat} {w : World} (h : fN w p X D S) (hd : kO w D (.slice va o.bytes.length vc) o.bytes) (hl : -1 ≤ S.left ∧ S.left ≤ 9223372036854775807)
    (hs : dU S.seen ≤ 1099511627776) (ha : o.at' ≤ 1099511627776) (hb : o.bytes.length ≤ 1099511627776) (hu : S.under.length ≤ 1000000) :
    dG pg eS #[dP p, .agg (qY o (.slice va o.bytes.length vc)).toArray] w (fun r w' => r = .int .i64 (nI S o).2 ∧ lZ w p X D (nI S o).1 w') := by
  refine pR ?_
  unfold oK jB
  refine uA fun w1 o1 x1 s1 => ?_
  have o1 : fT w1 w.heap.size (qY o (.slice va o.bytes.length vc)) := o1
  obtain ⟨ms, mn, sv, ls, ln, cs, h1, h2, h3, h4, h5, h6, hXD, hDl, op, hms, hmn, hfs, hfn, hun, hop⟩ := h.new x1
  have h7 := fun b (hb : X b) => hDl b (hXD b hb)
  have hX0 : ∀ b, X b → b < w.heap.size := by obtain ⟨_, _, _, _, _, _, _, _, _, _, _, _, q1, q2, _⟩ := h; exact fun b hb => q2 b (q1 b hb)
  refine (wS op hl).mono ?_
  rintro r w2 ⟨rfl, op2, x2⟩
  have x2X : dJ w1 w2 X := x2.mono fun b _ hb => hb ▸ h1
  have x2D : dJ w1 w2 D := x2X.mono fun b _ hb => hXD b hb
  have x02 : dJ w w2 X := (x1.mono fun _ _ h => h.elim).seq x2X
  have z2 := x2.size
  have hms2 := hms.ext x2 (fun h => h4 h.symm)
  have hmn2 := hmn.ext x2 (fun h => h5 h.symm)
  have hfs2 := hfs.ext x2D (fun b h => h)
  have hfn2 := hfn.ext x2D (fun b h => h)
  have hun2 := hun.ext x2 (fun b hb h => hb.2.1 h)
  have hop2 := hop.ext x2D (fun b h => h)
  have h72 : ∀ b, X b → b < w2.heap.size := fun b hb => by have := h7 b hb; omega
  have hD2 : ∀ b, D b → b < w2.heap.size := fun b hb => by have := hDl b hb; omega
  have hdn : (S.down || S.left == 0) = yG S := rfl
  rw [hdn] at *
  cases hD : yG S with
  | true =>
    have hE : nI S o = ({ S with left := rO S.left, down := yG S }, 20) := by unfold nI; rw [if_pos hD]
    rw [hE]
    simp (disch := omega) only [bP, dE, aY, bB, cR, cD, cI, cE, dA, cM, dL, cJ, bK, cS, cO, cZ, cL, cK, cU, cY, cT, cV, cP, cX, bS, cC, cN, cW, fD, fI, fA, fC, fF, fB, fE, eZ, fG, bJ, Result.ok.injEq, Next.value.injEq, true_and, and_true, cB, cF, cQ, cH, cG, dK, Int.toNat_natCast, bV, bR, bT, bU, bM, bL, bN, bH, bG, bF, if_true, if_false, Bool.false_eq_true, Nat.zero_add, Option.isNone_some, Option.isNone_none, Bool.not_true, Bool.not_false, List.getElem?_cons_succ, List.getElem?_cons_zero, aS, aJ, aP, aW, aZ, aQ, bQ, aA, aM, aH, aI, aK, bA, bC, bO, aR, aO, aN, aG, aT, aC, bD, aV, aF, bE, aE, aL, aD, aX, aU, aB]
    exact ⟨X, D, ⟨ms, mn, sv, ls, ln, cs, h1, h2, h3, h4, h5, h6, hXD, hD2, op2, hms2, hmn2, hfs2, hfn2, hun2, hop2⟩, fun _ h => .inl h, fun _ h => h, x02⟩
  | false =>
    have hE : nI S o = ({ S with left := rO S.left, down := yG S, under := S.under ++ [o], seen := qE o S.seen }, 0) := by unfold nI; rw [if_neg (by rw [hD]; decide)]
    rw [hE]
    have hb3 : ¬ (w.heap.size = p) := fun h => by have := hX0 p h1; omega
    have o12 := hO (o1.ext x2 hb3)
    have l1 := eX (off := 0) o12 (by unfold qY; simp)
    have l1' : ((qY o (.slice va o.bytes.length vc)).drop 0).take 5 = qY o (.slice va o.bytes.length vc) := rfl
    rw [l1'] at l1
    have op2d := hO op2
    have q3 := op2d.cell (off := 3)
    simp only [List.getElem?_cons_zero, List.getElem?_cons_succ] at q3
    simp (disch := omega) only [bP, dE, aY, bB, cR, cD, cI, cE, dA, cM, dL, cJ, bK, cS, cO, cZ, cL, cK, cU, cY, cT, cV, cP, cX, bS, cC, cN, cW, fD, fI, fA, fC, fF, fB, fE, eZ, fG, bJ, Result.ok.injEq, Next.value.injEq, true_and, and_true, cB, cF, cQ, cH, cG, dK, Int.toNat_natCast, bV, bR, bT, bU, bM, bL, bN, bH, bG, bF, if_true, if_false, Bool.false_eq_true, Nat.zero_add, Option.isNone_some, Option.isNone_none, Bool.not_true, Bool.not_false, List.getElem?_cons_succ, List.getElem?_cons_zero, aS, aJ, aP, aW, aZ, aQ, bQ, aA, aM, aH, aI, aK, bA, bC, bO, aR, aO, aN, aG, aT, aC, bD, aV, aF, bE, aE, aL, aD, aX, aU, aB, q3, l1]
    refine pH (cells := (qY o (.slice va o.bytes.length vc)).toArray) (by decide) (by decide) (by kernel_rfl) fun w3 o3 x3 s3 => ?_
    have x3 : dJ w2 w3 jU := (dJ.dr _ _).seq x3
    have z3 := x3.size
    have s3 : w3.heap.size = w2.heap.size + 1 := s3
    have x03 : dJ w w3 X := x02.trans x3 fun _ _ h => h.elim
    have op3 := op2.ext x3 (fun h => h)
    have q3 := op3.cell (off := 3)
    have q3d := (hO op3).cell (off := 3)
    simp only [List.getElem?_cons_zero, List.getElem?_cons_succ] at q3 q3d
    have hu3 : vO w3 (fun b => (X b ∧ b ≠ p ∧ b ≠ ms ∧ b ≠ mn) ∨ w3.heap.size ≤ b) 5 sv S.under.length cs := xC (hun2.ext x3 (fun b _ h => h)) fun b h => .inl h
    have o3 : fT w3 w2.heap.size (qY o (.slice va o.bytes.length vc)) := o3
    simp (disch := omega) only [bP, dE, aY, bB, cR, cD, cI, cE, dA, cM, dL, cJ, bK, cS, cO, cZ, cL, cK, cU, cY, cT, cV, cP, cX, bS, cC, cN, cW, fD, fI, fA, fC, fF, fB, fE, eZ, fG, bJ, Result.ok.injEq, Next.value.injEq, true_and, and_true, cB, cF, cQ, cH, cG, dK, Int.toNat_natCast, bV, bR, bT, bU, bM, bL, bN, bH, bG, bF, if_true, if_false, Bool.false_eq_true, Nat.zero_add, Option.isNone_some, Option.isNone_none, Bool.not_true, Bool.not_false, List.getElem?_cons_succ, List.getElem?_cons_zero, aS, aJ, aP, aW, aZ, aQ, bQ, aA, aM, aH, aI, aK, bA, bC, bO, aR, aO, aN, aG, aT, aC, bD, aV, aF, bE, aE, aL, aD, aX, aU, aB, q3, q3d]
    refine rQ (m := 1) (news := qY o (.slice va o.bytes.length vc)) (i := Try.t65) Try.underlying58 Try.underlying58 tM rfl rfl rfl hu3 (o3.cl (off := 0) (n := 1) rfl (fun i hi => by rw [Nat.zero_add])) (by unfold qY; simp [one]) (fun b hb => .inr hb) (by omega) (by rw [show Try.t65.bytes = 72 from rfl]; omega) (by decide) fun v4 w4 o4 x4 => ?_
    have z4 := x4.size
    have hp3 : p < w3.heap.size := op3.lt
    have hms3 := hms2.ext x3 (fun h => h)
    have hmn3 := hmn2.ext x3 (fun h => h)
    have hmsl := hms3.lt
    have hmnl := hmn3.lt
    have op4 := op3.ext x4 (by rintro (⟨_, h, _⟩ | h) <;> omega)
    have hms4 := hms3.ext x4 (by rintro (⟨_, _, h, _⟩ | h) <;> omega)
    have hmn4 := hmn3.ext x4 (by rintro (⟨_, _, _, h⟩ | h) <;> omega)
    obtain ⟨Y, hY⟩ : ∃ Y : Nat → Prop, Y = fun b => X b ∨ (w3.heap.size ≤ b ∧ b < w4.heap.size) := ⟨_, rfl⟩
    have hYX : ∀ b, X b → Y b := fun b h => by rw [hY]; exact .inl h
    have hY3 : ∀ b, Y b → X b ∨ w3.heap.size ≤ b := fun b h => by rw [hY] at h; rcases h with h | h; exact .inl h; exact .inr h.1
    have hY4 : ∀ b, Y b → b < w4.heap.size := fun b h => by
      rw [hY] at h
      rcases h with h | h
      · have := h72 b h; omega
      · exact h.2
    obtain ⟨E, hE'⟩ : ∃ E : Nat → Prop, E = fun b => D b ∨ (w3.heap.size ≤ b ∧ b < w4.heap.size) := ⟨_, rfl⟩
    have hED : ∀ b, D b → E b := fun b h => by rw [hE']; exact .inl h
    have hYE : ∀ b, Y b → E b := fun b h => by
      rw [hY] at h; rw [hE']
      rcases h with h | h
      · exact .inl (hXD b h)
      · exact .inr h
    have hE3 : ∀ b, E b → D b ∨ w3.heap.size ≤ b := fun b h => by rw [hE'] at h; rcases h with h | h; exact .inl h; exact .inr h.1
    have hE4 : ∀ b, E b → b < w4.heap.size := fun b h => by
      rw [hE'] at h
      rcases h with h | h
      · have := hD2 b h; omega
      · exact h.2
    have dat4 : ∀ v b, kO w3 D v b → kO w4 E v b := fun v b hd => by
      have h1 := (hd.sub (Y := fun b => D b ∨ w3.heap.size ≤ b) fun _ h => h).ext x4 (fun b h => by rcases h with h | h; exact .inl (hXD b h.1); exact .inr h)
      exact h1.sub fun b h => .inl (hE3 b h)
    have dat0 : ∀ v b, kO w2 D v b → kO w4 E v b := fun v b hd => dat4 v b (hd.ext x3 fun _ h => h.elim)
    refine hG op4 (by obtain ⟨a, c, e⟩ := o4.len; rw [e] <;> rfl) (by simp) fun w5 op5 x5 s5 => ?_
    simp only [List.set_cons_zero, List.set_cons_succ] at op5
    have hne4 : p ≠ ms ∧ p ≠ mn := ⟨h4, h5⟩
    have hms5 := hms4.ext x5 (fun h => h4 h.symm)
    have hmn5 := hmn4.ext x5 (fun h => h5 h.symm)
    have x5Y : dJ w4 w5 E := x5.mono fun b _ h => by rw [h]; exact hYE _ (hYX _ h1)
    have dat5 : ∀ v b, kO w2 D v b → kO w5 E v b := fun v b hd => (dat0 v b hd).ext x5Y fun _ h => h
    have o15 : fT w5 w.heap.size (qY o (.slice va o.bytes.length vc)) := by
      have h1 := (o1.ext x2 hb3).ext x3 (fun h => h)
      have h2 := h1.ext x4 (by rintro (⟨h, _⟩ | h); exact absurd (hX0 _ h) (by omega); omega)
      exact h2.ext x5 hb3
    have l5 := eX (off := 0) (hO o15) (by unfold qY; simp)
    rw [l1'] at l5
    have r2 := (hO op5).cell (off := 2)
    simp only [List.getElem?_cons_zero, List.getElem?_cons_succ] at r2
    simp (disch := omega) only [bP, dE, aY, bB, cR, cD, cI, cE, dA, cM, dL, cJ, bK, cS, cO, cZ, cL, cK, cU, cY, cT, cV, cP, cX, bS, cC, cN, cW, fD, fI, fA, fC, fF, fB, fE, eZ, fG, bJ, Result.ok.injEq, Next.value.injEq, true_and, and_true, cB, cF, cQ, cH, cG, dK, Int.toNat_natCast, bV, bR, bT, bU, bM, bL, bN, bH, bG, bF, if_true, if_false, Bool.false_eq_true, Nat.zero_add, Option.isNone_some, Option.isNone_none, Bool.not_true, Bool.not_false, List.getElem?_cons_succ, List.getElem?_cons_zero, aS, aJ, aP, aW, aZ, aQ, bQ, aA, aM, aH, aI, aK, bA, bC, bO, aR, aO, aN, aG, aT, aC, bD, aV, aF, bE, aE, aL, aD, aX, aU, aB, r2, l5]
    have hd5 : kO w5 E (.slice va o.bytes.length vc) o.bytes := dat5 _ _ ((hd.ext x1 fun _ h => h.elim).ext x2D fun _ h => h)
    have hE5 : ∀ b, E b → b < w5.heap.size := fun b h => by rw [s5]; exact hE4 b h
    refine (AX (X := E) (c := S.seen) (o := o) (hmn5.dr) (hYE _ (hYX _ h3)) hE5 ((hfn2.map dat5).ext (dJ.dr _ jU) fun _ h => h.elim) (hd5.ext (dJ.dr _ jU) fun _ h => h.elim) hs ha hb).mono ?_
    rintro r w6 ⟨rfl, ln', hmn6, hfn6, x6⟩
    have x6 : dJ w5 w6 (fun b => b = mn) := (dJ.dr _ _).seq x6
    have x6Y : dJ w5 w6 E := x6.mono fun b _ h => by rw [h]; exact hYE _ (hYX _ h3)
    have z6 := x6.size
    have hou : vO w4 (fun b => Y b ∧ b ≠ p ∧ b ≠ ms ∧ b ≠ mn) 5 v4 (S.under.length + 1) (cs ++ qY o (.slice va o.bytes.length vc)) := xC (Ap o4) fun b h => by
      rw [hY]
      rcases h with ⟨h | h, h'⟩
      · exact ⟨.inl h.1, h.2⟩
      · exact ⟨.inr ⟨h, h'⟩, by omega, by omega, by omega⟩
    refine ⟨Y, E, ⟨ms, mn, v4, ls, ln', cs ++ qY o (.slice va o.bytes.length vc), hYX _ h1, hYX _ h2, hYX _ h3, h4, h5, h6, hYE, fun b h => by have := hE5 b h; omega, op5.ext x6 (fun h => h5 h), hms5.ext x6 (fun h => h6 h), hmn6, (hfs2.map dat5).ext x6Y fun _ h => h, hfn6, ?_, ?_⟩, fun b h => ?_, hED, ?_⟩
    · show vO w6 _ 5 v4 (S.under ++ [o]).length _
      rw [List.length_append]
      exact (hou.ext x5 (fun b h e => h.2.1 e)).ext x6 (fun b h e => h.2.2.2 e)
    · exact (rS.snoc ⟨_, _, _, rfl⟩ hd5 (hop2.map dat5)).ext x6Y fun _ h => h
    · rcases hY3 b h with h | h
      · exact .inl h
      · exact .inr (by omega)
    · refine ((x03.trans x4 fun b hb h => ?_).trans x5 fun b hb h => by rw [h]; exact h1).trans x6 fun b hb h => by rw [h]; exact h3
      rcases h with h | h
      · exact h.1
      · omega
end Go.Proofs.Ytmhokapokchneaa
namespace Go.Proofs.Ytmhokapokchneaa
open Go Go.En
set_option linter.unusedVariables false
def Bc : Go.Shelf.Ren := ⟨fun x => if x = 5 then gW else if x = 7 then 36 else x, fun x => if x = 23 then 57 else if x = 25 then 9 else if x = 3 then 23 else if x = 4 then 4 else 20, fun x => x⟩
theorem Bg : SlLaysW.n5 pg Bc where
  mixed := Try.checked.mixed
  f5 := ⟨Try.f27.name, by kernel_rfl, by kernel_rfl⟩
  f7 := by kernel_rfl
  t4 := by kernel_rfl
  a4 := fun w => by kernel_rfl
  z4 := fun w => by kernel_rfl
  v4 := fun w => by kernel_rfl
  t20 := by kernel_rfl
  a20 := fun w => by kernel_rfl
  z20 := fun w => by kernel_rfl
  v20 := fun w => by kernel_rfl
  t23 := by kernel_rfl
  a23 := fun w => by kernel_rfl
  z23 := fun w => by kernel_rfl
  v23 := fun w => by kernel_rfl
theorem vI {m : Nat} {l : List (ByteArray × Value)} {w : World} (hm : Mp w m rE l) :
    dG pg gW #[.map (some m)] w (fun r w' => r = .map (some w.heap.size) ∧ Mp w' w.heap.size rE l ∧ dJ w w' jU ∧ w'.heap.size = w.heap.size + 1) := by
  obtain ⟨es, c, hb, he, hg, hnd⟩ := hm
  refine ⟨_, _, AnyW.maps_Clone Bg m es c w hb, rfl, ⟨es, c, ?_, he, hg, hnd⟩, dJ.alloc _ _ _, ?_⟩
  · show (w.heap.push _)[w.heap.size]? = _
    simp
  · show (w.heap.push _).size = _
    simp
end Go.Proofs.Ytmhokapokchneaa
namespace Go.Proofs.Ytmhokapokchneaa
open Go Go.En Go.Pu
set_option maxRecDepth 4000
set_option linter.unusedSimpArgs false
set_option linter.unusedVariables false
def yX (room : Int) : pK := ⟨room, [], [], [], -1, false⟩
theorem yY {room : Int} {w : World} (h0 : 0 ≤ room) (h1 : room ≤ 16777216) : dG pg lC #[.int .i64 room] w (fun r w' => ∃ p X, r = .tuple #[dP p, .int .i64 0] ∧ fN w' p X X (yX room) ∧ (∀ b, X b → w.heap.size ≤ b) ∧ dJ w w' jU) := by
  refine sX ?_
  unfold vC oQ
  have d1 : decide (room < 0) = false := by simp; omega
  have d2 : decide (16777216 < room) = false := by simp; omega
  simp (disch := omega) only [bP, dE, aY, bB, cR, cD, cI, cE, dA, cM, dL, cJ, bK, cS, cO, cZ, cL, cK, cU, cY, cT, cV, cP, cX, bS, cC, cN, cW, fD, fI, fA, fC, fF, fB, fE, eZ, fG, bJ, Result.ok.injEq, Next.value.injEq, true_and, and_true, cB, cF, cQ, cH, cG, dK, Int.toNat_natCast, bV, bR, bT, bU, bM, bL, bN, bH, bG, bF, if_true, if_false, Bool.false_eq_true, Nat.zero_add, Option.isNone_some, Option.isNone_none, Bool.not_true, Bool.not_false, List.getElem?_cons_succ, List.getElem?_cons_zero, aS, aJ, aP, aW, aZ, aQ, bQ, aA, aM, aH, aI, aK, bA, bC, bO, aR, aO, aN, aG, aT, aC, bD, aV, aF, bE, aE, aL, aD, aX, aU, aB, d1, d2]
  refine pU fun w1 m1 x1 s1 => ?_
  refine pU fun w2 m2 x2 s2 => ?_
  simp (disch := omega) only [bP, dE, aY, bB, cR, cD, cI, cE, dA, cM, dL, cJ, bK, cS, cO, cZ, cL, cK, cU, cY, cT, cV, cP, cX, bS, cC, cN, cW, fD, fI, fA, fC, fF, fB, fE, eZ, fG, bJ, Result.ok.injEq, Next.value.injEq, true_and, and_true, cB, cF, cQ, cH, cG, dK, Int.toNat_natCast, bV, bR, bT, bU, bM, bL, bN, bH, bG, bF, if_true, if_false, Bool.false_eq_true, Nat.zero_add, Option.isNone_some, Option.isNone_none, Bool.not_true, Bool.not_false, List.getElem?_cons_succ, List.getElem?_cons_zero, aS, aJ, aP, aW, aZ, aQ, bQ, aA, aM, aH, aI, aK, bA, bC, bO, aR, aO, aN, aG, aT, aC, bD, aV, aF, bE, aE, aL, aD, aX, aU, aB]
  refine uA fun w3 o3 x3 s3 => ?_
  have o3 : fT w3 w2.heap.size [.int .i64 room, .map (some w.heap.size), .map (some w1.heap.size), .slice none 0 0, .int .i64 (-1), .bool false] := o3
  refine ⟨w2.heap.size, fun b => w.heap.size ≤ b ∧ b < w3.heap.size, rfl, ⟨w.heap.size, w1.heap.size, .slice none 0 0, [], [], [], ⟨by omega, by omega⟩, ⟨by omega, by omega⟩, ⟨by omega, by omega⟩, by omega, by omega, by omega, fun _ h => h, fun b h => h.2, o3, (m1.ext x2 (fun h => h)).ext x3 (fun h => h), m2.ext x3 (fun h => h), trivial, trivial, ⟨rfl, .inl ⟨rfl, rfl⟩⟩, rfl⟩, fun b h => h.1, (x1.seq x2).seq x3⟩
structure xJ (S : pK) : Prop where
  left : -1 ≤ S.left ∧ S.left ≤ 9223372036854775807
  seen : dU S.seen ≤ 1099511627776
  under : S.under.length ≤ 1000000
  room : 0 ≤ S.room ∧ S.room ≤ 16777216
theorem kO.slice {w : World} {X : Nat → Prop} {v : Value} {b : List UInt8} (h : kO w X v b) : ∃ a c, v = .slice a b.length c := by
  obtain ⟨a, c, e, _⟩ := h.1.len
  rw [List.length_map] at e
  exact ⟨a, c, e⟩
theorem rF.dat {w w0 : World} {X : Nat → Prop} {v : Value} {l : List UInt8} (h : rF w w0.heap.size 1 v l.length (l.map pW)) (hX : ∀ b, X b → b < w0.heap.size) : kO w X v l := by
  refine ⟨h.sl, fun hi => ?_⟩
  rcases h.2 with ⟨rfl, _⟩ | ⟨b, c, rest, rfl, h2, _⟩
  · exact hi
  · unfold tR at hi
    split at hi
    · rename_i e
      simp only [Value.slice.injEq, Option.some.injEq] at e
      obtain ⟨rfl, _⟩ := e
      have hi : X b := hi
      have := hX _ hi
      omega
    · exact hi
theorem fN.lt {w : World} {p : Nat} {X D : Nat → Prop} {S : pK} (h : fN w p X D S) : ∀ b, D b → b < w.heap.size := by
  obtain ⟨_, _, _, _, _, _, _, _, _, _, _, _, _, h7, _⟩ := h; exact h7
def tI (S : pK) (name : ByteArray) : List UInt8 := (lJ name S.seen).getD []
def AU (S : pK) (name : ByteArray) (a : Int) (n : Nat) : Int :=
  if S.down then 20 else if qZ name = false ∨ a < 0 then 1 else if ((tI S name).length : Int) < a then 17
  else if S.room < dU S.seen + max (a + n - (tI S name).length) 0 then 22 else 0
def yI (S : pK) (name : ByteArray) (a : Int) (l : List UInt8) : pK × Int :=
  if AU S name a l.length = 0 then nI S ⟨0, name, ⟨#[]⟩, a.toNat, l⟩ else (S, AU S name a l.length)
theorem sM {p : Nat} {X D : Nat → Prop} {S : pK} {name : ByteArray} {a : Int} {bv : Value} {l : List UInt8} {w : World} (h : fN w p X D S) (hB : xJ S) (hb : Bs w bv l) (hl : l.length ≤ 1000000000) (ha : a ≤ 9000000000000000000) (ha' : -9223372036854775808 ≤ a) :
    dG pg dV #[dP p, .string name, .int .i64 a, bv] w (fun r w' => r = .int .i64 (yI S name a l).2 ∧ lZ w p X D (yI S name a l).1 w') := by
  refine jY ?_
  unfold kF gG
  obtain ⟨ba, bc, rfl, _⟩ := hb.len
  rw [List.length_map] at hb
  rw [List.length_map]
  obtain ⟨E, hE⟩ : ∃ E, AU S name a l.length = E := ⟨_, rfl⟩
  have hW : ∀ e, E = e → e ≠ 0 → yI S name a l = (S, e) := fun e h1 h2 => by unfold yI; rw [hE, h1, if_neg h2]
  refine (Ak h).mono ?_
  rintro r w1 ⟨rfl, rfl⟩
  have hE0 := hE
  unfold AU at hE
  by_cases hd : S.down = true
  · rw [if_pos hd] at hE
    rw [hW 20 hE.symm (by decide), if_pos hd]
    have n1 : ((20 : Int) != 0) = true := rfl
    simp (disch := omega) only [bP, dE, aY, bB, cR, cD, cI, cE, dA, cM, dL, cJ, bK, cS, cO, cZ, cL, cK, cU, cY, cT, cV, cP, cX, bS, cC, cN, cW, fD, fI, fA, fC, fF, fB, fE, eZ, fG, bJ, Result.ok.injEq, Next.value.injEq, true_and, and_true, cB, cF, cQ, cH, cG, dK, Int.toNat_natCast, bV, bR, bT, bU, bM, bL, bN, bH, bG, bF, if_true, if_false, Bool.false_eq_true, Nat.zero_add, Option.isNone_some, Option.isNone_none, Bool.not_true, Bool.not_false, List.getElem?_cons_succ, List.getElem?_cons_zero, aS, aJ, aP, aW, aZ, aQ, bQ, aA, aM, aH, aI, aK, bA, bC, bO, aR, aO, aN, aG, aT, aC, bD, aV, aF, bE, aE, aL, aD, aX, aU, aB, n1]
    exact lZ.refl h
  rw [if_neg hd] at hE
  rw [if_neg hd]
  have n1 : ((0 : Int) != 0) = false := rfl
  have h' := h
  obtain ⟨ms, mn, sv, ls, ln, cs, h1, h2, h3, h4, h5, h6, hXD, hDl, op, hms, hmn, hfs, hfn, hun, hop⟩ := h'
  have h7 : ∀ b, X b → b < w1.heap.size := fun b hb => hDl b (hXD b hb)
  have c2 := op.cell (off := 2)
  have c0d := (hO op).cell (off := 0)
  have c2d := (hO op).cell (off := 2)
  simp only [List.getElem?_cons_zero, List.getElem?_cons_succ] at c2 c0d c2d
  obtain ⟨oa, oc, ob, l0, hob⟩ : ∃ (oa : Option Addr) (oc : Nat) (ob : List UInt8), (kD 57 (.map (some mn)) (.string name) false).run pg w1 = .ok (.value (.slice oa ob.length oc)) w1 ∧ tI S name = ob := by
    have l0 := sI hmn name
    unfold tI
    rcases hfn.get name with ⟨q1, q2⟩ | ⟨v, b, q1, q2, q3⟩
    · rw [q1] at l0
      exact ⟨none, 0, [], l0, by rw [q2] <;> rfl⟩
    · obtain ⟨a', c', rfl⟩ := kO.slice q3
      rw [q1] at l0
      exact ⟨a', c', b, l0, by rw [q2] <;> rfl⟩
  rw [hob] at hE
  have holdlen : ob.length ≤ 1099511627776 := by rw [← hob]; have := tE (k := name) (c := S.seen); have := hB.seen; unfold tI; omega
  simp (disch := omega) only [bP, dE, aY, bB, cR, cD, cI, cE, dA, cM, dL, cJ, bK, cS, cO, cZ, cL, cK, cU, cY, cT, cV, cP, cX, bS, cC, cN, cW, fD, fI, fA, fC, fF, fB, fE, eZ, fG, bJ, Result.ok.injEq, Next.value.injEq, true_and, and_true, cB, cF, cQ, cH, cG, dK, Int.toNat_natCast, bV, bR, bT, bU, bM, bL, bN, bH, bG, bF, if_true, if_false, Bool.false_eq_true, Nat.zero_add, Option.isNone_some, Option.isNone_none, Bool.not_true, Bool.not_false, List.getElem?_cons_succ, List.getElem?_cons_zero, aS, aJ, aP, aW, aZ, aQ, bQ, aA, aM, aH, aI, aK, bA, bC, bO, aR, aO, aN, aG, aT, aC, bD, aV, aF, bE, aE, aL, aD, aX, aU, aB, n1, c2, l0]
  refine (zN name _).mono ?_
  rintro r w2 ⟨rfl, hw⟩
  rw [hw]; clear hw w2
  by_cases hmay : qZ name = false
  · rw [if_pos (.inl hmay)] at hE
    rw [hW 1 hE.symm (by decide), hmay]
    simp (disch := omega) only [bP, dE, aY, bB, cR, cD, cI, cE, dA, cM, dL, cJ, bK, cS, cO, cZ, cL, cK, cU, cY, cT, cV, cP, cX, bS, cC, cN, cW, fD, fI, fA, fC, fF, fB, fE, eZ, fG, bJ, Result.ok.injEq, Next.value.injEq, true_and, and_true, cB, cF, cQ, cH, cG, dK, Int.toNat_natCast, bV, bR, bT, bU, bM, bL, bN, bH, bG, bF, if_true, if_false, Bool.false_eq_true, Nat.zero_add, Option.isNone_some, Option.isNone_none, Bool.not_true, Bool.not_false, List.getElem?_cons_succ, List.getElem?_cons_zero, aS, aJ, aP, aW, aZ, aQ, bQ, aA, aM, aH, aI, aK, bA, bC, bO, aR, aO, aN, aG, aT, aC, bD, aV, aF, bE, aE, aL, aD, aX, aU, aB]
    exact lZ.refl h
  have hmay : qZ name = true := by cases hq : qZ name with | true => rfl | false => exact absurd hq hmay
  rw [hmay] at hE ⊢
  by_cases ha0 : a < 0
  · have d1 : decide (a < 0) = true := by simpa using ha0
    rw [if_pos (.inr ha0)] at hE
    rw [hW 1 hE.symm (by decide)]
    simp (disch := omega) only [bP, dE, aY, bB, cR, cD, cI, cE, dA, cM, dL, cJ, bK, cS, cO, cZ, cL, cK, cU, cY, cT, cV, cP, cX, bS, cC, cN, cW, fD, fI, fA, fC, fF, fB, fE, eZ, fG, bJ, Result.ok.injEq, Next.value.injEq, true_and, and_true, cB, cF, cQ, cH, cG, dK, Int.toNat_natCast, bV, bR, bT, bU, bM, bL, bN, bH, bG, bF, if_true, if_false, Bool.false_eq_true, Nat.zero_add, Option.isNone_some, Option.isNone_none, Bool.not_true, Bool.not_false, List.getElem?_cons_succ, List.getElem?_cons_zero, aS, aJ, aP, aW, aZ, aQ, bQ, aA, aM, aH, aI, aK, bA, bC, bO, aR, aO, aN, aG, aT, aC, bD, aV, aF, bE, aE, aL, aD, aX, aU, aB, d1]
    exact lZ.refl h
  have d1 : decide (a < 0) = false := by simpa using ha0
  rw [if_neg (by rintro (h | h); cases h; exact ha0 h)] at hE
  by_cases ha1 : (ob.length : Int) < a
  · have d2 : decide ((ob.length : Int) < a) = true := by simpa using ha1
    rw [if_pos ha1] at hE
    rw [hW 17 hE.symm (by decide)]
    simp (disch := omega) only [bP, dE, aY, bB, cR, cD, cI, cE, dA, cM, dL, cJ, bK, cS, cO, cZ, cL, cK, cU, cY, cT, cV, cP, cX, bS, cC, cN, cW, fD, fI, fA, fC, fF, fB, fE, eZ, fG, bJ, Result.ok.injEq, Next.value.injEq, true_and, and_true, cB, cF, cQ, cH, cG, dK, Int.toNat_natCast, bV, bR, bT, bU, bM, bL, bN, bH, bG, bF, if_true, if_false, Bool.false_eq_true, Nat.zero_add, Option.isNone_some, Option.isNone_none, Bool.not_true, Bool.not_false, List.getElem?_cons_succ, List.getElem?_cons_zero, aS, aJ, aP, aW, aZ, aQ, bQ, aA, aM, aH, aI, aK, bA, bC, bO, aR, aO, aN, aG, aT, aC, bD, aV, aF, bE, aE, aL, aD, aX, aU, aB, d1, d2]
    exact lZ.refl h
  have d2 : decide ((ob.length : Int) < a) = false := by simpa using ha1
  rw [if_neg ha1] at hE
  have hbs := hB.seen
  have hbr := hB.room
  obtain ⟨k, rfl⟩ : ∃ k : Nat, a = k := ⟨a.toNat, by omega⟩
  simp (disch := omega) only [bP, dE, aY, bB, cR, cD, cI, cE, dA, cM, dL, cJ, bK, cS, cO, cZ, cL, cK, cU, cY, cT, cV, cP, cX, bS, cC, cN, cW, fD, fI, fA, fC, fF, fB, fE, eZ, fG, bJ, Result.ok.injEq, Next.value.injEq, true_and, and_true, cB, cF, cQ, cH, cG, dK, Int.toNat_natCast, bV, bR, bT, bU, bM, bL, bN, bH, bG, bF, if_true, if_false, Bool.false_eq_true, Nat.zero_add, Option.isNone_some, Option.isNone_none, Bool.not_true, Bool.not_false, List.getElem?_cons_succ, List.getElem?_cons_zero, aS, aJ, aP, aW, aZ, aQ, bQ, aA, aM, aH, aI, aK, bA, bC, bO, aR, aO, aN, aG, aT, aC, bD, aV, aF, bE, aE, aL, aD, aX, aU, aB, d1, d2, c2d]
  refine (AG (c := S.seen) hmn.dr (hfn.ext (dJ.dr _ jU) fun _ h => h.elim) hbs).mono ?_
  rintro r w2 ⟨rfl, x2⟩
  have x2 : dJ w1 w2 jU := (dJ.dr _ _).seq x2
  have op2 := op.ext x2 (fun h => h)
  have r0 := op2.cell (off := 0)
  have r0d := (hO op2).cell (off := 0)
  simp only [List.getElem?_cons_zero, List.getElem?_cons_succ] at r0 r0d
  have e1 : (k : Int) + (l.length : Int) = ((k + l.length : Nat) : Int) := by omega
  obtain ⟨q, hq⟩ : ∃ q : Nat, max (((k + l.length : Nat) : Int) - (ob.length : Int)) 0 = q := ⟨(max (((k + l.length : Nat) : Int) - (ob.length : Int)) 0).toNat, by omega⟩
  have hmax : (if (0 : Int) > ((k + l.length : Nat) : Int) - (ob.length : Int) then (0 : Int) else ((k + l.length : Nat) : Int) - (ob.length : Int)) = (q : Nat) := by
    split <;> omega
  have e2 : ((dU S.seen : Nat) : Int) + (q : Int) = ((dU S.seen + q : Nat) : Int) := by omega
  rw [e1, hq, e2] at hE
  by_cases hsp : S.room < ((dU S.seen + q : Nat) : Int)
  · have d3 : decide (S.room < ((dU S.seen + q : Nat) : Int)) = true := by simpa using hsp
    rw [if_pos hsp] at hE
    rw [hW 22 hE.symm (by decide)]
    simp (disch := omega) only [bP, dE, aY, bB, cR, cD, cI, cE, dA, cM, dL, cJ, bK, cS, cO, cZ, cL, cK, cU, cY, cT, cV, cP, cX, bS, cC, cN, cW, fD, fI, fA, fC, fF, fB, fE, eZ, fG, bJ, Result.ok.injEq, Next.value.injEq, true_and, and_true, cB, cF, cQ, cH, cG, dK, Int.toNat_natCast, bV, bR, bT, bU, bM, bL, bN, bH, bG, bF, if_true, if_false, Bool.false_eq_true, Nat.zero_add, Option.isNone_some, Option.isNone_none, Bool.not_true, Bool.not_false, List.getElem?_cons_succ, List.getElem?_cons_zero, aS, aJ, aP, aW, aZ, aQ, bQ, aA, aM, aH, aI, aK, bA, bC, bO, aR, aO, aN, aG, aT, aC, bD, aV, aF, bE, aE, aL, aD, aX, aU, aB, d1, d2, r0, r0d, c0d, e1, hmax, e2, d3]
    exact ⟨X, D, h.new x2, fun _ h => .inl h, fun _ h => h, x2.mono fun _ _ h => h.elim⟩
  have d3 : decide (S.room < ((dU S.seen + q : Nat) : Int)) = false := by simpa using hsp
  rw [if_neg hsp] at hE
  have hW0 : yI S name k l = nI S ⟨0, name, ⟨#[]⟩, k, l⟩ := by unfold yI; rw [hE0, ← hE, if_pos rfl, Int.toNat_natCast]
  rw [hW0]
  simp (disch := omega) only [bP, dE, aY, bB, cR, cD, cI, cE, dA, cM, dL, cJ, bK, cS, cO, cZ, cL, cK, cU, cY, cT, cV, cP, cX, bS, cC, cN, cW, fD, fI, fA, fC, fF, fB, fE, eZ, fG, bJ, Result.ok.injEq, Next.value.injEq, true_and, and_true, cB, cF, cQ, cH, cG, dK, Int.toNat_natCast, bV, bR, bT, bU, bM, bL, bN, bH, bG, bF, if_true, if_false, Bool.false_eq_true, Nat.zero_add, Option.isNone_some, Option.isNone_none, Bool.not_true, Bool.not_false, List.getElem?_cons_succ, List.getElem?_cons_zero, aS, aJ, aP, aW, aZ, aQ, bQ, aA, aM, aH, aI, aK, bA, bC, bO, aR, aO, aN, aG, aT, aC, bD, aV, aF, bE, aE, aL, aD, aX, aU, aB, d1, d2, r0, r0d, c0d, e1, hmax, e2, d3]
  refine (wY (hb.ext x2 (jW _)) hl).mono ?_
  rintro r w3 ⟨ho, x3⟩
  obtain ⟨va, vc, rfl⟩ := ho.len
  have h2' := h.new x2
  have hd3 : kO w3 D (.slice va l.length vc) l := rF.dat ho fun b hb => fN.lt h2' b hb
  have opE : qY ⟨0, name, ⟨#[]⟩, k, l⟩ (.slice va l.length vc) = [.int .i64 0, .string name, .string ⟨#[]⟩, .int .i64 k, .slice va l.length vc] := rfl
  have hdn := yR (o := ⟨0, name, ⟨#[]⟩, k, l⟩) (h2'.new x3) hd3 hB.left hbs (show k ≤ 1099511627776 by omega) (show l.length ≤ 1099511627776 by omega) hB.under
  rw [opE] at hdn
  simp (disch := omega) only [bP, dE, aY, bB, cR, cD, cI, cE, dA, cM, dL, cJ, bK, cS, cO, cZ, cL, cK, cU, cY, cT, cV, cP, cX, bS, cC, cN, cW, fD, fI, fA, fC, fF, fB, fE, eZ, fG, bJ, Result.ok.injEq, Next.value.injEq, true_and, and_true, cB, cF, cQ, cH, cG, dK, Int.toNat_natCast, bV, bR, bT, bU, bM, bL, bN, bH, bG, bF, if_true, if_false, Bool.false_eq_true, Nat.zero_add, Option.isNone_some, Option.isNone_none, Bool.not_true, Bool.not_false, List.getElem?_cons_succ, List.getElem?_cons_zero, aS, aJ, aP, aW, aZ, aQ, bQ, aA, aM, aH, aI, aK, bA, bC, bO, aR, aO, aN, aG, aT, aC, bD, aV, aF, bE, aE, aL, aD, aX, aU, aB]
  refine hdn.mono ?_
  rintro r w4 ⟨rfl, hp⟩
  exact ⟨rfl, lZ.step ((x2.seq x3).mono fun _ _ h => h.elim) (fun _ h => .inl h) (fun _ h => h) hp⟩
theorem tV {p : Nat} {X D : Nat → Prop} {S : pK} {name : ByteArray} {w : World} (h : fN w p X D S) (hB : xJ S) (hsz : ∀ b, lJ name S.seen = some b → b.length ≤ 1000000000) :
    dG pg dY #[dP p, .string name] w (fun r w' => ((S.down = true ∧ r = .tuple #[.slice none 0 0, .int .i64 20]) ∨ (S.down = false ∧ lJ name S.seen = none ∧ r = .tuple #[.slice none 0 0, .int .i64 21]) ∨
      (S.down = false ∧ ∃ b v, lJ name S.seen = some b ∧ r = .tuple #[v, .int .i64 0] ∧ rF w' w.heap.size 1 v b.length (b.map pW))) ∧ dJ w w' jU) := by
  refine kI ?_
  obtain ⟨RR, hRR⟩ : ∃ RR : Value → World → Prop, RR = fun r w' => ((S.down = true ∧ r = .tuple #[.slice none 0 0, .int .i64 20]) ∨ (S.down = false ∧ lJ name S.seen = none ∧ r = .tuple #[.slice none 0 0, .int .i64 21]) ∨
      (S.down = false ∧ ∃ b v, lJ name S.seen = some b ∧ r = .tuple #[v, .int .i64 0] ∧ rF w' w.heap.size 1 v b.length (b.map pW))) ∧ dJ w w' jU := ⟨_, rfl⟩
  rw [← hRR]
  unfold lH gU
  refine (Ak h).mono ?_
  rintro r w1 ⟨rfl, rfl⟩
  by_cases hd : S.down = true
  · rw [if_pos hd]
    have n1 : ((20 : Int) != 0) = true := rfl
    simp (disch := omega) only [bP, dE, aY, bB, cR, cD, cI, cE, dA, cM, dL, cJ, bK, cS, cO, cZ, cL, cK, cU, cY, cT, cV, cP, cX, bS, cC, cN, cW, fD, fI, fA, fC, fF, fB, fE, eZ, fG, bJ, Result.ok.injEq, Next.value.injEq, true_and, and_true, cB, cF, cQ, cH, cG, dK, Int.toNat_natCast, bV, bR, bT, bU, bM, bL, bN, bH, bG, bF, if_true, if_false, Bool.false_eq_true, Nat.zero_add, Option.isNone_some, Option.isNone_none, Bool.not_true, Bool.not_false, List.getElem?_cons_succ, List.getElem?_cons_zero, aS, aJ, aP, aW, aZ, aQ, bQ, aA, aM, aH, aI, aK, bA, bC, bO, aR, aO, aN, aG, aT, aC, bD, aV, aF, bE, aE, aL, aD, aX, aU, aB, n1]
    rw [hRR]
    exact ⟨.inl ⟨hd, rfl⟩, dJ.refl _ _⟩
  have hd' : S.down = false := by cases hq : S.down with | true => exact absurd hq hd | false => rfl
  rw [if_neg hd]
  have n1 : ((0 : Int) != 0) = false := rfl
  obtain ⟨ms, mn, sv, ls, ln, cs, h1, h2, h3, h4, h5, h6, hXD, hDl, op, hms, hmn, hfs, hfn, hun, hop⟩ := h
  have h7 := fun b (hb : X b) => hDl b (hXD b hb)
  have c2 := op.cell (off := 2)
  simp only [List.getElem?_cons_zero, List.getElem?_cons_succ] at c2
  have l0 := lV hmn name
  rcases hfn.get name with ⟨q1, q2⟩ | ⟨v, b, q1, q2, q3⟩
  · rw [q1] at l0
    have l0 : (kD 57 (.map (some mn)) (.string name) true).run pg w1 = .ok (.value (.tuple #[.slice none 0 0, .bool false])) w1 := l0
    simp (disch := omega) only [bP, dE, aY, bB, cR, cD, cI, cE, dA, cM, dL, cJ, bK, cS, cO, cZ, cL, cK, cU, cY, cT, cV, cP, cX, bS, cC, cN, cW, fD, fI, fA, fC, fF, fB, fE, eZ, fG, bJ, Result.ok.injEq, Next.value.injEq, true_and, and_true, cB, cF, cQ, cH, cG, dK, Int.toNat_natCast, bV, bR, bT, bU, bM, bL, bN, bH, bG, bF, if_true, if_false, Bool.false_eq_true, Nat.zero_add, Option.isNone_some, Option.isNone_none, Bool.not_true, Bool.not_false, List.getElem?_cons_succ, List.getElem?_cons_zero, aS, aJ, aP, aW, aZ, aQ, bQ, aA, aM, aH, aI, aK, bA, bC, bO, aR, aO, aN, aG, aT, aC, bD, aV, aF, bE, aE, aL, aD, aX, aU, aB, n1, c2, l0]
    rw [hRR]
    exact ⟨.inr (.inl ⟨hd', q2, rfl⟩), dJ.refl _ _⟩
  · obtain ⟨a', c', rfl⟩ := kO.slice q3
    rw [q1] at l0
    have l0 : (kD 57 (.map (some mn)) (.string name) true).run pg w1 = .ok (.value (.tuple #[.slice a' b.length c', .bool true])) w1 := l0
    simp (disch := omega) only [bP, dE, aY, bB, cR, cD, cI, cE, dA, cM, dL, cJ, bK, cS, cO, cZ, cL, cK, cU, cY, cT, cV, cP, cX, bS, cC, cN, cW, fD, fI, fA, fC, fF, fB, fE, eZ, fG, bJ, Result.ok.injEq, Next.value.injEq, true_and, and_true, cB, cF, cQ, cH, cG, dK, Int.toNat_natCast, bV, bR, bT, bU, bM, bL, bN, bH, bG, bF, if_true, if_false, Bool.false_eq_true, Nat.zero_add, Option.isNone_some, Option.isNone_none, Bool.not_true, Bool.not_false, List.getElem?_cons_succ, List.getElem?_cons_zero, aS, aJ, aP, aW, aZ, aQ, bQ, aA, aM, aH, aI, aK, bA, bC, bO, aR, aO, aN, aG, aT, aC, bD, aV, aF, bE, aE, aL, aD, aX, aU, aB, n1, c2, l0]
    refine (wY q3.1 (hsz b q2)).mono ?_
    rintro r w2 ⟨ho, x2⟩
    rw [hRR]
    exact ⟨.inr (.inr ⟨hd', b, r, q2, rfl, ho⟩), x2⟩
theorem xM {p : Nat} {X D : Nat → Prop} {S : pK} {w : World} (h : fN w p X D S) : dG pg eC #[dP p] w (fun r w' => r = .int .i64 (S.under.length : Nat) ∧ w' = w) := by
  refine jE ?_
  unfold iW fP
  obtain ⟨ms, mn, sv, ls, ln, cs, h1, h2, h3, h4, h5, h6, hXD, hDl, op, hms, hmn, hfs, hfn, hun, hop⟩ := h
  have h7 := fun b (hb : X b) => hDl b (hXD b hb)
  have c3 := op.cell (off := 3)
  simp only [List.getElem?_cons_zero, List.getElem?_cons_succ] at c3
  obtain ⟨ua, uc, rfl⟩ := hun.len
  simp (disch := omega) only [bP, dE, aY, bB, cR, cD, cI, cE, dA, cM, dL, cJ, bK, cS, cO, cZ, cL, cK, cU, cY, cT, cV, cP, cX, bS, cC, cN, cW, fD, fI, fA, fC, fF, fB, fE, eZ, fG, bJ, Result.ok.injEq, Next.value.injEq, true_and, and_true, cB, cF, cQ, cH, cG, dK, Int.toNat_natCast, bV, bR, bT, bU, bM, bL, bN, bH, bG, bF, if_true, if_false, Bool.false_eq_true, Nat.zero_add, Option.isNone_some, Option.isNone_none, Bool.not_true, Bool.not_false, List.getElem?_cons_succ, List.getElem?_cons_zero, aS, aJ, aP, aW, aZ, aQ, bQ, aA, aM, aH, aI, aK, bA, bC, bO, aR, aO, aN, aG, aT, aC, bD, aV, aF, bE, aE, aL, aD, aX, aU, aB, c3]
def A7 (S : pK) (old name : ByteArray) : pK × Int := if S.down then (S, 20) else if qZ old = false ∨ qZ name = false then (S, 1) else if (lJ old S.seen).isNone then (S, 21) else nI S ⟨1, old, name, 0, []⟩
theorem yC {p : Nat} {X D : Nat → Prop} {S : pK} {old name : ByteArray} {w : World} (h : fN w p X D S) (hB : xJ S) :
    dG pg eK #[dP p, .string old, .string name] w (fun r w' => r = .int .i64 (A7 S old name).2 ∧ lZ w p X D (A7 S old name).1 w') := by
  refine jL ?_
  unfold jQ fS A7
  refine (Ak h).mono ?_
  rintro r w1 ⟨rfl, rfl⟩
  by_cases hd : S.down = true
  · rw [if_pos hd, if_pos hd]
    have n1 : ((20 : Int) != 0) = true := rfl
    simp (disch := omega) only [bP, dE, aY, bB, cR, cD, cI, cE, dA, cM, dL, cJ, bK, cS, cO, cZ, cL, cK, cU, cY, cT, cV, cP, cX, bS, cC, cN, cW, fD, fI, fA, fC, fF, fB, fE, eZ, fG, bJ, Result.ok.injEq, Next.value.injEq, true_and, and_true, cB, cF, cQ, cH, cG, dK, Int.toNat_natCast, bV, bR, bT, bU, bM, bL, bN, bH, bG, bF, if_true, if_false, Bool.false_eq_true, Nat.zero_add, Option.isNone_some, Option.isNone_none, Bool.not_true, Bool.not_false, List.getElem?_cons_succ, List.getElem?_cons_zero, aS, aJ, aP, aW, aZ, aQ, bQ, aA, aM, aH, aI, aK, bA, bC, bO, aR, aO, aN, aG, aT, aC, bD, aV, aF, bE, aE, aL, aD, aX, aU, aB, n1]
    exact lZ.refl h
  rw [if_neg hd, if_neg hd]
  have n1 : ((0 : Int) != 0) = false := rfl
  have h' := h
  obtain ⟨ms, mn, sv, ls, ln, cs, h1, h2, h3, h4, h5, h6, hXD, hDl, op, hms, hmn, hfs, hfn, hun, hop⟩ := h'
  have h7 : ∀ b, X b → b < w1.heap.size := fun b hb => hDl b (hXD b hb)
  have c2 := op.cell (off := 2)
  simp only [List.getElem?_cons_zero, List.getElem?_cons_succ] at c2
  simp (disch := omega) only [bP, dE, aY, bB, cR, cD, cI, cE, dA, cM, dL, cJ, bK, cS, cO, cZ, cL, cK, cU, cY, cT, cV, cP, cX, bS, cC, cN, cW, fD, fI, fA, fC, fF, fB, fE, eZ, fG, bJ, Result.ok.injEq, Next.value.injEq, true_and, and_true, cB, cF, cQ, cH, cG, dK, Int.toNat_natCast, bV, bR, bT, bU, bM, bL, bN, bH, bG, bF, if_true, if_false, Bool.false_eq_true, Nat.zero_add, Option.isNone_some, Option.isNone_none, Bool.not_true, Bool.not_false, List.getElem?_cons_succ, List.getElem?_cons_zero, aS, aJ, aP, aW, aZ, aQ, bQ, aA, aM, aH, aI, aK, bA, bC, bO, aR, aO, aN, aG, aT, aC, bD, aV, aF, bE, aE, aL, aD, aX, aU, aB, n1]
  refine (zN old _).mono ?_
  rintro r w2 ⟨rfl, hw⟩
  rw [hw]; clear hw w2
  cases hm1 : qZ old with
  | false =>
    rw [if_pos (.inl rfl)]
    simp (disch := omega) only [bP, dE, aY, bB, cR, cD, cI, cE, dA, cM, dL, cJ, bK, cS, cO, cZ, cL, cK, cU, cY, cT, cV, cP, cX, bS, cC, cN, cW, fD, fI, fA, fC, fF, fB, fE, eZ, fG, bJ, Result.ok.injEq, Next.value.injEq, true_and, and_true, cB, cF, cQ, cH, cG, dK, Int.toNat_natCast, bV, bR, bT, bU, bM, bL, bN, bH, bG, bF, if_true, if_false, Bool.false_eq_true, Nat.zero_add, Option.isNone_some, Option.isNone_none, Bool.not_true, Bool.not_false, List.getElem?_cons_succ, List.getElem?_cons_zero, aS, aJ, aP, aW, aZ, aQ, bQ, aA, aM, aH, aI, aK, bA, bC, bO, aR, aO, aN, aG, aT, aC, bD, aV, aF, bE, aE, aL, aD, aX, aU, aB]
    exact lZ.refl h
  | true =>
    simp (disch := omega) only [bP, dE, aY, bB, cR, cD, cI, cE, dA, cM, dL, cJ, bK, cS, cO, cZ, cL, cK, cU, cY, cT, cV, cP, cX, bS, cC, cN, cW, fD, fI, fA, fC, fF, fB, fE, eZ, fG, bJ, Result.ok.injEq, Next.value.injEq, true_and, and_true, cB, cF, cQ, cH, cG, dK, Int.toNat_natCast, bV, bR, bT, bU, bM, bL, bN, bH, bG, bF, if_true, if_false, Bool.false_eq_true, Nat.zero_add, Option.isNone_some, Option.isNone_none, Bool.not_true, Bool.not_false, List.getElem?_cons_succ, List.getElem?_cons_zero, aS, aJ, aP, aW, aZ, aQ, bQ, aA, aM, aH, aI, aK, bA, bC, bO, aR, aO, aN, aG, aT, aC, bD, aV, aF, bE, aE, aL, aD, aX, aU, aB]
    refine (zN name _).mono ?_
    rintro r w2 ⟨rfl, hw⟩
    rw [hw]; clear hw w2
    cases hm2 : qZ name with
    | false =>
      rw [if_pos (.inr rfl)]
      simp (disch := omega) only [bP, dE, aY, bB, cR, cD, cI, cE, dA, cM, dL, cJ, bK, cS, cO, cZ, cL, cK, cU, cY, cT, cV, cP, cX, bS, cC, cN, cW, fD, fI, fA, fC, fF, fB, fE, eZ, fG, bJ, Result.ok.injEq, Next.value.injEq, true_and, and_true, cB, cF, cQ, cH, cG, dK, Int.toNat_natCast, bV, bR, bT, bU, bM, bL, bN, bH, bG, bF, if_true, if_false, Bool.false_eq_true, Nat.zero_add, Option.isNone_some, Option.isNone_none, Bool.not_true, Bool.not_false, List.getElem?_cons_succ, List.getElem?_cons_zero, aS, aJ, aP, aW, aZ, aQ, bQ, aA, aM, aH, aI, aK, bA, bC, bO, aR, aO, aN, aG, aT, aC, bD, aV, aF, bE, aE, aL, aD, aX, aU, aB]
      exact lZ.refl h
    | true =>
      rw [if_neg (by simp)]
      have l0 := lV hmn old
      rcases hfn.get old with ⟨q1, q2⟩ | ⟨v, b, q1, q2, q3⟩
      · rw [q1] at l0
        have l0 : (kD 57 (.map (some mn)) (.string old) true).run pg w1 = .ok (.value (.tuple #[.slice none 0 0, .bool false])) w1 := l0
        rw [q2, if_pos (show (none : Option (List UInt8)).isNone = true from rfl)]
        simp (disch := omega) only [bP, dE, aY, bB, cR, cD, cI, cE, dA, cM, dL, cJ, bK, cS, cO, cZ, cL, cK, cU, cY, cT, cV, cP, cX, bS, cC, cN, cW, fD, fI, fA, fC, fF, fB, fE, eZ, fG, bJ, Result.ok.injEq, Next.value.injEq, true_and, and_true, cB, cF, cQ, cH, cG, dK, Int.toNat_natCast, bV, bR, bT, bU, bM, bL, bN, bH, bG, bF, if_true, if_false, Bool.false_eq_true, Nat.zero_add, Option.isNone_some, Option.isNone_none, Bool.not_true, Bool.not_false, List.getElem?_cons_succ, List.getElem?_cons_zero, aS, aJ, aP, aW, aZ, aQ, bQ, aA, aM, aH, aI, aK, bA, bC, bO, aR, aO, aN, aG, aT, aC, bD, aV, aF, bE, aE, aL, aD, aX, aU, aB, n1, c2, l0]
        exact lZ.refl h
      · obtain ⟨a', c', rfl⟩ := kO.slice q3
        rw [q1] at l0
        have l0 : (kD 57 (.map (some mn)) (.string old) true).run pg w1 = .ok (.value (.tuple #[.slice a' b.length c', .bool true])) w1 := l0
        rw [q2, if_neg (show ¬ (some b).isNone = true by simp)]
        have hdn := yR (o := ⟨1, old, name, 0, []⟩) (va := none) (vc := 0) h ⟨Sl.nil _, fun h => h⟩ hB.left hB.seen (show 0 ≤ _ by omega) (show 0 ≤ _ by omega) hB.under
        have opE : qY ⟨1, old, name, 0, []⟩ (.slice none ([] : List UInt8).length 0) = [.int .i64 1, .string old, .string name, .int .i64 0, .slice none 0 0] := rfl
        rw [opE] at hdn
        simp (disch := omega) only [bP, dE, aY, bB, cR, cD, cI, cE, dA, cM, dL, cJ, bK, cS, cO, cZ, cL, cK, cU, cY, cT, cV, cP, cX, bS, cC, cN, cW, fD, fI, fA, fC, fF, fB, fE, eZ, fG, bJ, Result.ok.injEq, Next.value.injEq, true_and, and_true, cB, cF, cQ, cH, cG, dK, Int.toNat_natCast, bV, bR, bT, bU, bM, bL, bN, bH, bG, bF, if_true, if_false, Bool.false_eq_true, Nat.zero_add, Option.isNone_some, Option.isNone_none, Bool.not_true, Bool.not_false, List.getElem?_cons_succ, List.getElem?_cons_zero, aS, aJ, aP, aW, aZ, aQ, bQ, aA, aM, aH, aI, aK, bA, bC, bO, aR, aO, aN, aG, aT, aC, bD, aV, aF, bE, aE, aL, aD, aX, aU, aB, n1, c2, l0]
        exact hdn
end Go.Proofs.Ytmhokapokchneaa
namespace Go.Proofs.Ytmhokapokchneaa
open Go Go.En Go.Pu
set_option maxRecDepth 4000
set_option linter.unusedSimpArgs false
set_option linter.unusedVariables false
theorem AI {p : Nat} {X D : Nat → Prop} {S : pK} {a : Int} {w : World} (h : fN w p X D S) : dG pg eT #[dP p, .int .i64 a] w (fun r w' => r = .tuple #[] ∧ lZ w p X D { S with left := max a (-1) } w') := by
  refine kT ?_
  unfold lB gT
  obtain ⟨ms, mn, sv, ls, ln, cs, h1, h2, h3, h4, h5, h6, hXD, hDl, op, hms, hmn, hfs, hfn, hun, hop⟩ := h
  have h7 := fun b (hb : X b) => hDl b (hXD b hb)
  have e1 : (if (-1 : Int) > a then (-1 : Int) else a) = max a (-1) := by split <;> omega
  simp (disch := omega) only [bP, dE, aY, bB, cR, cD, cI, cE, dA, cM, dL, cJ, bK, cS, cO, cZ, cL, cK, cU, cY, cT, cV, cP, cX, bS, cC, cN, cW, fD, fI, fA, fC, fF, fB, fE, eZ, fG, bJ, Result.ok.injEq, Next.value.injEq, true_and, and_true, cB, cF, cQ, cH, cG, dK, Int.toNat_natCast, bV, bR, bT, bU, bM, bL, bN, bH, bG, bF, if_true, if_false, Bool.false_eq_true, Nat.zero_add, Option.isNone_some, Option.isNone_none, Bool.not_true, Bool.not_false, List.getElem?_cons_succ, List.getElem?_cons_zero, aS, aJ, aP, aW, aZ, aQ, bQ, aA, aM, aH, aI, aK, bA, bC, bO, aR, aO, aN, aG, aT, aC, bD, aV, aF, bE, aE, aL, aD, aX, aU, aB, e1]
  refine wC op rfl (by simp) fun w1 o1 x1 s1 => ?_
  simp only [List.set_cons_zero, List.set_cons_succ] at o1
  have xX : dJ w w1 X := x1.mono fun b _ h => h ▸ h1
  have xD : dJ w w1 D := xX.mono fun b _ h => hXD b h
  exact ⟨X, D, ⟨ms, mn, sv, ls, ln, cs, h1, h2, h3, h4, h5, h6, hXD, fun b hb => by have := hDl b hb; omega, o1, hms.ext x1 (fun h => h4 h.symm), hmn.ext x1 (fun h => h5 h.symm), hfs.ext xD fun _ h => h, hfn.ext xD fun _ h => h, hun.ext x1 (fun b hb h => hb.2.1 h), hop.ext xD fun _ h => h⟩, fun _ h => .inl h, fun _ h => h, xX⟩
def AZ (S : pK) : pK × Int :=
  if S.down then (S, 20) else if yG S then ({ S with left := rO S.left, down := yG S }, 20)
  else ({ S with left := rO S.left, down := yG S, sure := S.seen, under := [] }, 0)
theorem yS {p : Nat} {X D : Nat → Prop} {S : pK} {w : World} (h : fN w p X D S) (hB : xJ S) :
    dG pg eJ #[dP p] w (fun r w' => r = .int .i64 (AZ S).2 ∧ lZ w p X D (AZ S).1 w') := by
  refine kN ?_
  unfold lK gV AZ
  refine (Ak h).mono ?_
  rintro r w1 ⟨rfl, rfl⟩
  by_cases hd : S.down = true
  · rw [if_pos hd, if_pos hd]
    have n1 : ((20 : Int) != 0) = true := rfl
    simp (disch := omega) only [bP, dE, aY, bB, cR, cD, cI, cE, dA, cM, dL, cJ, bK, cS, cO, cZ, cL, cK, cU, cY, cT, cV, cP, cX, bS, cC, cN, cW, fD, fI, fA, fC, fF, fB, fE, eZ, fG, bJ, Result.ok.injEq, Next.value.injEq, true_and, and_true, cB, cF, cQ, cH, cG, dK, Int.toNat_natCast, bV, bR, bT, bU, bM, bL, bN, bH, bG, bF, if_true, if_false, Bool.false_eq_true, Nat.zero_add, Option.isNone_some, Option.isNone_none, Bool.not_true, Bool.not_false, List.getElem?_cons_succ, List.getElem?_cons_zero, aS, aJ, aP, aW, aZ, aQ, bQ, aA, aM, aH, aI, aK, bA, bC, bO, aR, aO, aN, aG, aT, aC, bD, aV, aF, bE, aE, aL, aD, aX, aU, aB, n1]
    exact lZ.refl h
  rw [if_neg hd, if_neg hd]
  have n1 : ((0 : Int) != 0) = false := rfl
  obtain ⟨ms, mn, sv, ls, ln, cs, h1, h2, h3, h4, h5, h6, hXD, hDl, op, hms, hmn, hfs, hfn, hun, hop⟩ := h
  have h7 := fun b (hb : X b) => hDl b (hXD b hb)
  simp (disch := omega) only [bP, dE, aY, bB, cR, cD, cI, cE, dA, cM, dL, cJ, bK, cS, cO, cZ, cL, cK, cU, cY, cT, cV, cP, cX, bS, cC, cN, cW, fD, fI, fA, fC, fF, fB, fE, eZ, fG, bJ, Result.ok.injEq, Next.value.injEq, true_and, and_true, cB, cF, cQ, cH, cG, dK, Int.toNat_natCast, bV, bR, bT, bU, bM, bL, bN, bH, bG, bF, if_true, if_false, Bool.false_eq_true, Nat.zero_add, Option.isNone_some, Option.isNone_none, Bool.not_true, Bool.not_false, List.getElem?_cons_succ, List.getElem?_cons_zero, aS, aJ, aP, aW, aZ, aQ, bQ, aA, aM, aH, aI, aK, bA, bC, bO, aR, aO, aN, aG, aT, aC, bD, aV, aF, bE, aE, aL, aD, aX, aU, aB, n1]
  refine (wS op hB.left).mono ?_
  rintro r w2 ⟨rfl, op2, x2⟩
  have hdn : (S.down || S.left == 0) = yG S := rfl
  rw [hdn] at op2 ⊢
  have xX : dJ w1 w2 X := x2.mono fun b _ h => h ▸ h1
  have xD : dJ w1 w2 D := xX.mono fun b _ h => hXD b h
  have z2 := x2.size
  have h72 : ∀ b, X b → b < w2.heap.size := fun b hb => by have := h7 b hb; omega
  have hD2 : ∀ b, D b → b < w2.heap.size := fun b hb => by have := hDl b hb; omega
  have hms2 := hms.ext x2 (fun h => h4 h.symm)
  have hmn2 := hmn.ext x2 (fun h => h5 h.symm)
  have hfs2 := hfs.ext xD fun _ h => h
  have hfn2 := hfn.ext xD fun _ h => h
  cases hD : yG S with
  | true =>
    rw [hD] at op2
    rw [if_pos rfl]
    simp (disch := omega) only [bP, dE, aY, bB, cR, cD, cI, cE, dA, cM, dL, cJ, bK, cS, cO, cZ, cL, cK, cU, cY, cT, cV, cP, cX, bS, cC, cN, cW, fD, fI, fA, fC, fF, fB, fE, eZ, fG, bJ, Result.ok.injEq, Next.value.injEq, true_and, and_true, cB, cF, cQ, cH, cG, dK, Int.toNat_natCast, bV, bR, bT, bU, bM, bL, bN, bH, bG, bF, if_true, if_false, Bool.false_eq_true, Nat.zero_add, Option.isNone_some, Option.isNone_none, Bool.not_true, Bool.not_false, List.getElem?_cons_succ, List.getElem?_cons_zero, aS, aJ, aP, aW, aZ, aQ, bQ, aA, aM, aH, aI, aK, bA, bC, bO, aR, aO, aN, aG, aT, aC, bD, aV, aF, bE, aE, aL, aD, aX, aU, aB]
    exact ⟨X, D, ⟨ms, mn, sv, ls, ln, cs, h1, h2, h3, h4, h5, h6, hXD, hD2, op2, hms2, hmn2, hfs2, hfn2, hun.ext x2 (fun b hb h => hb.2.1 h), hop.ext xD fun _ h => h⟩, fun _ h => .inl h, fun _ h => h, xX⟩
  | false =>
    rw [hD] at op2
    rw [if_neg (by decide)]
    have c2 := op2.cell (off := 2)
    simp only [List.getElem?_cons_zero, List.getElem?_cons_succ] at c2
    simp (disch := omega) only [bP, dE, aY, bB, cR, cD, cI, cE, dA, cM, dL, cJ, bK, cS, cO, cZ, cL, cK, cU, cY, cT, cV, cP, cX, bS, cC, cN, cW, fD, fI, fA, fC, fF, fB, fE, eZ, fG, bJ, Result.ok.injEq, Next.value.injEq, true_and, and_true, cB, cF, cQ, cH, cG, dK, Int.toNat_natCast, bV, bR, bT, bU, bM, bL, bN, bH, bG, bF, if_true, if_false, Bool.false_eq_true, Nat.zero_add, Option.isNone_some, Option.isNone_none, Bool.not_true, Bool.not_false, List.getElem?_cons_succ, List.getElem?_cons_zero, aS, aJ, aP, aW, aZ, aQ, bQ, aA, aM, aH, aI, aK, bA, bC, bO, aR, aO, aN, aG, aT, aC, bD, aV, aF, bE, aE, aL, aD, aX, aU, aB, c2]
    refine (vI hmn2).mono ?_
    rintro r w3 ⟨rfl, hmc, x3, s3⟩
    have op3 := op2.ext x3 (fun h => h)
    refine pZ op3 rfl (by simp) fun w4 op4 x4 s4 => ?_
    simp only [List.set_cons_zero, List.set_cons_succ] at op4
    refine hG op4 rfl (by simp) fun w5 op5 x5 s5 => ?_
    simp only [List.set_cons_zero, List.set_cons_succ] at op5
    have hp2 : p < w2.heap.size := op2.lt
    have hmn2l := hmn2.lt
    have x45 : dJ w3 w5 (fun y => y = p) := x4.seq x5
    obtain ⟨Y, hY⟩ : ∃ Y : Nat → Prop, Y = fun b => X b ∨ b = w2.heap.size := ⟨_, rfl⟩
    have hYX : ∀ b, X b → Y b := fun b h => by rw [hY]; exact .inl h
    have hY2 : ∀ b, Y b → X b ∨ w2.heap.size ≤ b := fun b h => by rw [hY] at h; rcases h with h | h; exact .inl h; exact .inr (by omega)
    obtain ⟨E, hE⟩ : ∃ E : Nat → Prop, E = fun b => D b ∨ b = w2.heap.size := ⟨_, rfl⟩
    have hED : ∀ b, D b → E b := fun b h => by rw [hE]; exact .inl h
    have hYE : ∀ b, Y b → E b := fun b h => by rw [hY] at h; rw [hE]; rcases h with h | h; exact .inl (hXD b h); exact .inr h
    have hE2 : ∀ b, E b → D b ∨ w2.heap.size ≤ b := fun b h => by rw [hE] at h; rcases h with h | h; exact .inl h; exact .inr (by omega)
    have x3Y : dJ w2 w3 E := x3.mono fun _ _ h => h.elim
    have x45Y : dJ w3 w5 E := x45.mono fun b _ h => by rw [h]; exact hED _ (hXD _ h1)
    have dat : ∀ v b, kO w2 D v b → kO w5 E v b := fun v b hd => ((hd.sub hE2).ext x3Y fun _ h => h).ext x45Y fun _ h => h
    refine ⟨Y, E, ⟨w2.heap.size, mn, .slice none 0 0, ln, ln, [], hYX _ h1, by rw [hY]; exact .inr rfl, hYX _ h3, by omega, h5, by omega, hYE, fun b h => ?_, op5, hmc.ext x45 (by omega), (hmn2.ext x3 (fun h => h)).ext x45 (fun h => h5 h.symm), hfn2.map dat, hfn2.map dat, ⟨rfl, .inl ⟨rfl, rfl⟩⟩, rfl⟩, fun b h => ?_, hED, (xX.trans x3 fun _ _ h => h.elim).trans x45 fun b _ h => by rw [h]; exact h1⟩
    · rw [hE] at h
      rcases h with h | h
      · have := hD2 b h; omega
      · omega
    · rcases hY2 b h with h | h
      · exact .inl h
      · exact .inr (by omega)
theorem zB (a : Int) (w : World) : dG pg eT #[.pointer none, .int .i64 a] w (fun r w' => r = .tuple #[] ∧ w' = w) := by
  refine kT ?_
  unfold lB gT
  simp (disch := omega) only [bP, dE, aY, bB, cR, cD, cI, cE, dA, cM, dL, cJ, bK, cS, cO, cZ, cL, cK, cU, cY, cT, cV, cP, cX, bS, cC, cN, cW, fD, fI, fA, fC, fF, fB, fE, eZ, fG, bJ, Result.ok.injEq, Next.value.injEq, true_and, and_true, cB, cF, cQ, cH, cG, dK, Int.toNat_natCast, bV, bR, bT, bU, bM, bL, bN, bH, bG, bF, if_true, if_false, Bool.false_eq_true, Nat.zero_add, Option.isNone_some, Option.isNone_none, Bool.not_true, Bool.not_false, List.getElem?_cons_succ, List.getElem?_cons_zero, aS, aJ, aP, aW, aZ, aQ, bQ, aA, aM, aH, aI, aK, bA, bC, bO, aR, aO, aN, aG, aT, aC, bD, aV, aF, bE, aE, aL, aD, aX, aU, aB]
theorem xV (v : Value) (w : World) : dG pg dZ #[.pointer none, v] w (fun r w' => r = .tuple #[] ∧ w' = w) := by
  refine kA ?_
  unfold kH fW fU
  simp (disch := omega) only [bP, dE, aY, bB, cR, cD, cI, cE, dA, cM, dL, cJ, bK, cS, cO, cZ, cL, cK, cU, cY, cT, cV, cP, cX, bS, cC, cN, cW, fD, fI, fA, fC, fF, fB, fE, eZ, fG, bJ, Result.ok.injEq, Next.value.injEq, true_and, and_true, cB, cF, cQ, cH, cG, dK, Int.toNat_natCast, bV, bR, bT, bU, bM, bL, bN, bH, bG, bF, if_true, if_false, Bool.false_eq_true, Nat.zero_add, Option.isNone_some, Option.isNone_none, Bool.not_true, Bool.not_false, List.getElem?_cons_succ, List.getElem?_cons_zero, aS, aJ, aP, aW, aZ, aQ, bQ, aA, aM, aH, aI, aK, bA, bC, bO, aR, aO, aN, aG, aT, aC, bD, aV, aF, bE, aE, aL, aD, aX, aU, aB]
theorem yZ (s : ByteArray) (w : World) : dG pg dY #[.pointer none, .string s] w (fun r w' => r = .tuple #[.slice none 0 0, .int .i64 1] ∧ w' = w) := by
  refine kI ?_
  unfold lH gU
  refine (sR w).mono ?_
  rintro r w1 ⟨rfl, rfl⟩
  have n1 : ((1 : Int) != 0) = true := rfl
  simp (disch := omega) only [bP, dE, aY, bB, cR, cD, cI, cE, dA, cM, dL, cJ, bK, cS, cO, cZ, cL, cK, cU, cY, cT, cV, cP, cX, bS, cC, cN, cW, fD, fI, fA, fC, fF, fB, fE, eZ, fG, bJ, Result.ok.injEq, Next.value.injEq, true_and, and_true, cB, cF, cQ, cH, cG, dK, Int.toNat_natCast, bV, bR, bT, bU, bM, bL, bN, bH, bG, bF, if_true, if_false, Bool.false_eq_true, Nat.zero_add, Option.isNone_some, Option.isNone_none, Bool.not_true, Bool.not_false, List.getElem?_cons_succ, List.getElem?_cons_zero, aS, aJ, aP, aW, aZ, aQ, bQ, aA, aM, aH, aI, aK, bA, bC, bO, aR, aO, aN, aG, aT, aC, bD, aV, aF, bE, aE, aL, aD, aX, aU, aB, n1]
theorem xL (s : ByteArray) (a v : Value) (w : World) : dG pg dV #[.pointer none, .string s, a, v] w (fun r w' => r = .int .i64 1 ∧ w' = w) := by
  refine jY ?_
  unfold kF gG
  refine (sR w).mono ?_
  rintro r w1 ⟨rfl, rfl⟩
  have n1 : ((1 : Int) != 0) = true := rfl
  simp (disch := omega) only [bP, dE, aY, bB, cR, cD, cI, cE, dA, cM, dL, cJ, bK, cS, cO, cZ, cL, cK, cU, cY, cT, cV, cP, cX, bS, cC, cN, cW, fD, fI, fA, fC, fF, fB, fE, eZ, fG, bJ, Result.ok.injEq, Next.value.injEq, true_and, and_true, cB, cF, cQ, cH, cG, dK, Int.toNat_natCast, bV, bR, bT, bU, bM, bL, bN, bH, bG, bF, if_true, if_false, Bool.false_eq_true, Nat.zero_add, Option.isNone_some, Option.isNone_none, Bool.not_true, Bool.not_false, List.getElem?_cons_succ, List.getElem?_cons_zero, aS, aJ, aP, aW, aZ, aQ, bQ, aA, aM, aH, aI, aK, bA, bC, bO, aR, aO, aN, aG, aT, aC, bD, aV, aF, bE, aE, aL, aD, aX, aU, aB, n1]
theorem wI (s t : ByteArray) (w : World) : dG pg eK #[.pointer none, .string s, .string t] w (fun r w' => r = .int .i64 1 ∧ w' = w) := by
  refine jL ?_
  unfold jQ fS
  refine (sR w).mono ?_
  rintro r w1 ⟨rfl, rfl⟩
  have n1 : ((1 : Int) != 0) = true := rfl
  simp (disch := omega) only [bP, dE, aY, bB, cR, cD, cI, cE, dA, cM, dL, cJ, bK, cS, cO, cZ, cL, cK, cU, cY, cT, cV, cP, cX, bS, cC, cN, cW, fD, fI, fA, fC, fF, fB, fE, eZ, fG, bJ, Result.ok.injEq, Next.value.injEq, true_and, and_true, cB, cF, cQ, cH, cG, dK, Int.toNat_natCast, bV, bR, bT, bU, bM, bL, bN, bH, bG, bF, if_true, if_false, Bool.false_eq_true, Nat.zero_add, Option.isNone_some, Option.isNone_none, Bool.not_true, Bool.not_false, List.getElem?_cons_succ, List.getElem?_cons_zero, aS, aJ, aP, aW, aZ, aQ, bQ, aA, aM, aH, aI, aK, bA, bC, bO, aR, aO, aN, aG, aT, aC, bD, aV, aF, bE, aE, aL, aD, aX, aU, aB, n1]
theorem wG (s : ByteArray) (w : World) : dG pg gK #[.pointer none, .string s] w (fun r w' => r = .int .i64 1 ∧ w' = w) := by
  refine nV ?_
  unfold mJ hU
  refine (sR w).mono ?_
  rintro r w1 ⟨rfl, rfl⟩
  have n1 : ((1 : Int) != 0) = true := rfl
  simp (disch := omega) only [bP, dE, aY, bB, cR, cD, cI, cE, dA, cM, dL, cJ, bK, cS, cO, cZ, cL, cK, cU, cY, cT, cV, cP, cX, bS, cC, cN, cW, fD, fI, fA, fC, fF, fB, fE, eZ, fG, bJ, Result.ok.injEq, Next.value.injEq, true_and, and_true, cB, cF, cQ, cH, cG, dK, Int.toNat_natCast, bV, bR, bT, bU, bM, bL, bN, bH, bG, bF, if_true, if_false, Bool.false_eq_true, Nat.zero_add, Option.isNone_some, Option.isNone_none, Bool.not_true, Bool.not_false, List.getElem?_cons_succ, List.getElem?_cons_zero, aS, aJ, aP, aW, aZ, aQ, bQ, aA, aM, aH, aI, aK, bA, bC, bO, aR, aO, aN, aG, aT, aC, bD, aV, aF, bE, aE, aL, aD, aX, aU, aB, n1]
theorem zM (w : World) : dG pg eJ #[.pointer none] w (fun r w' => r = .int .i64 1 ∧ w' = w) := by
  refine kN ?_
  unfold lK gV
  refine (sR w).mono ?_
  rintro r w1 ⟨rfl, rfl⟩
  have n1 : ((1 : Int) != 0) = true := rfl
  simp (disch := omega) only [bP, dE, aY, bB, cR, cD, cI, cE, dA, cM, dL, cJ, bK, cS, cO, cZ, cL, cK, cU, cY, cT, cV, cP, cX, bS, cC, cN, cW, fD, fI, fA, fC, fF, fB, fE, eZ, fG, bJ, Result.ok.injEq, Next.value.injEq, true_and, and_true, cB, cF, cQ, cH, cG, dK, Int.toNat_natCast, bV, bR, bT, bU, bM, bL, bN, bH, bG, bF, if_true, if_false, Bool.false_eq_true, Nat.zero_add, Option.isNone_some, Option.isNone_none, Bool.not_true, Bool.not_false, List.getElem?_cons_succ, List.getElem?_cons_zero, aS, aJ, aP, aW, aZ, aQ, bQ, aA, aM, aH, aI, aK, bA, bC, bO, aR, aO, aN, aG, aT, aC, bD, aV, aF, bE, aE, aL, aD, aX, aU, aB, n1]
theorem vA (w : World) : dG pg eC #[.pointer none] w (fun r w' => r = .int .i64 0 ∧ w' = w) := by
  refine jE ?_
  unfold iW fP
  simp (disch := omega) only [bP, dE, aY, bB, cR, cD, cI, cE, dA, cM, dL, cJ, bK, cS, cO, cZ, cL, cK, cU, cY, cT, cV, cP, cX, bS, cC, cN, cW, fD, fI, fA, fC, fF, fB, fE, eZ, fG, bJ, Result.ok.injEq, Next.value.injEq, true_and, and_true, cB, cF, cQ, cH, cG, dK, Int.toNat_natCast, bV, bR, bT, bU, bM, bL, bN, bH, bG, bF, if_true, if_false, Bool.false_eq_true, Nat.zero_add, Option.isNone_some, Option.isNone_none, Bool.not_true, Bool.not_false, List.getElem?_cons_succ, List.getElem?_cons_zero, aS, aJ, aP, aW, aZ, aQ, bQ, aA, aM, aH, aI, aK, bA, bC, bO, aR, aO, aN, aG, aT, aC, bD, aV, aF, bE, aE, aL, aD, aX, aU, aB]
theorem xG (w : World) : dG pg gS #[.pointer none] w (fun r w' => r = .slice none 0 0 ∧ w' = w) := by
  refine pJ ?_
  unfold nJ iT
  simp (disch := omega) only [bP, dE, aY, bB, cR, cD, cI, cE, dA, cM, dL, cJ, bK, cS, cO, cZ, cL, cK, cU, cY, cT, cV, cP, cX, bS, cC, cN, cW, fD, fI, fA, fC, fF, fB, fE, eZ, fG, bJ, Result.ok.injEq, Next.value.injEq, true_and, and_true, cB, cF, cQ, cH, cG, dK, Int.toNat_natCast, bV, bR, bT, bU, bM, bL, bN, bH, bG, bF, if_true, if_false, Bool.false_eq_true, Nat.zero_add, Option.isNone_some, Option.isNone_none, Bool.not_true, Bool.not_false, List.getElem?_cons_succ, List.getElem?_cons_zero, aS, aJ, aP, aW, aZ, aQ, bQ, aA, aM, aH, aI, aK, bA, bC, bO, aR, aO, aN, aG, aT, aC, bD, aV, aF, bE, aE, aL, aD, aX, aU, aB]
end Go.Proofs.Ytmhokapokchneaa
namespace Go.Proofs.Ytmhokapokchneaa
open Go Go.En Go.Pu
set_option maxRecDepth 4000
set_option linter.unusedSimpArgs false
set_option linter.unusedVariables false
def tW (os : List sS) (ks : List Bool) (c : fZ) : Nat → fZ
  | 0 => c
  | i + 1 => match os[i]?, ks[i]? with
    | some o, some true => qE o (tW os ks c i)
    | _, _ => tW os ks c i
def A5 (S : pK) (ks : List Bool) : pK := { S with sure := tW S.under ks S.sure S.under.length, seen := tW S.under ks S.sure S.under.length, under := [], left := -1, down := false }
theorem wT {p : Nat} {X D : Nat → Prop} {S : pK} {kv : Value} {ks : List Bool} {w : World} (h : fN w p X D S) (hk : Sl w kv (ks.map Value.bool)) (hkX : ¬ tR kv X) (hkl : ks.length ≤ 9223372036854775807) (hu : S.under.length ≤ 1000000)
    (hs : ∀ i, i ≤ S.under.length → dU (tW S.under ks S.sure i) ≤ 1099511627776) (hop' : ∀ o ∈ S.under, o.at' ≤ 1099511627776 ∧ o.bytes.length ≤ 1099511627776) :
    dG pg dZ #[dP p, kv] w (fun r w' => r = .tuple #[] ∧ lZ w p X D (A5 S ks) w') := by
  refine kA ?_
  unfold kH fW fU
  simp (disch := omega) only [bP, dE, aY, bB, cR, cD, cI, cE, dA, cM, dL, cJ, bK, cS, cO, cZ, cL, cK, cU, cY, cT, cV, cP, cX, bS, cC, cN, cW, fD, fI, fA, fC, fF, fB, fE, eZ, fG, bJ, Result.ok.injEq, Next.value.injEq, true_and, and_true, cB, cF, cQ, cH, cG, dK, Int.toNat_natCast, bV, bR, bT, bU, bM, bL, bN, bH, bG, bF, if_true, if_false, Bool.false_eq_true, Nat.zero_add, Option.isNone_some, Option.isNone_none, Bool.not_true, Bool.not_false, List.getElem?_cons_succ, List.getElem?_cons_zero, aS, aJ, aP, aW, aZ, aQ, bQ, aA, aM, aH, aI, aK, bA, bC, bO, aR, aO, aN, aG, aT, aC, bD, aV, aF, bE, aE, aL, aD, aX, aU, aB]
  obtain ⟨ms, mn, sv, ls, ln, cs, h1, h2, h3, h4, h5, h6, hXD, hDl, op, hms, hmn, hfs, hfn, hun, hop⟩ := h
  have h7 := fun b (hb : X b) => hDl b (hXD b hb)
  have hp : p < w.heap.size := op.lt
  have hmsl := hms.lt
  have hmnl := hmn.lt
  have c3 := op.cell (off := 3)
  simp only [List.getElem?_cons_zero, List.getElem?_cons_succ] at c3
  obtain ⟨ua, uc, rfl⟩ := hun.len
  obtain ⟨ka, kc, rfl, _⟩ := hk.len
  rw [List.length_map] at hk hkX ⊢
  unfold gD iG iR
  simp (disch := omega) only [bP, dE, aY, bB, cR, cD, cI, cE, dA, cM, dL, cJ, bK, cS, cO, cZ, cL, cK, cU, cY, cT, cV, cP, cX, bS, cC, cN, cW, fD, fI, fA, fC, fF, fB, fE, eZ, fG, bJ, Result.ok.injEq, Next.value.injEq, true_and, and_true, cB, cF, cQ, cH, cG, dK, Int.toNat_natCast, bV, bR, bT, bU, bM, bL, bN, bH, bG, bF, if_true, if_false, Bool.false_eq_true, Nat.zero_add, Option.isNone_some, Option.isNone_none, Bool.not_true, Bool.not_false, List.getElem?_cons_succ, List.getElem?_cons_zero, aS, aJ, aP, aW, aZ, aQ, bQ, aA, aM, aH, aI, aK, bA, bC, bO, aR, aO, aN, aG, aT, aC, bD, aV, aF, bE, aE, aL, aD, aX, aU, aB, c3]
  unfold gA iQ
  have hol := hop.len
  refine kS.rule (fun m (t : Value) w' => ∃ (i : Nat) (ls' : List (ByteArray × Value)), m = S.under.length - i ∧ t = .int .i64 i ∧ i ≤ S.under.length ∧ Mp w' ms rE ls' ∧ kQ w' D ls' (tW S.under ks S.sure i) ∧ dJ w w' (fun b => b = ms)) S.under.length
    ⟨0, ls, rfl, rfl, by omega, hms, hfs, dJ.refl _ _⟩ ?_
  rintro m t w1 ⟨i, ls', rfl, rfl, hi, hms1, hf1, x1⟩
  have z1 := x1.size
  have x1X : dJ w w1 X := x1.mono fun b _ h => h ▸ h2
  have x1D : dJ w w1 D := x1X.mono fun b _ h => hXD b h
  have op1 := op.ext x1 (fun h => h4 h)
  unfold gI iI
  by_cases hlt : i < S.under.length
  · have d1 : decide ((i : Int) < (S.under.length : Int)) = true := by simp; omega
    obtain ⟨v, ⟨va, vn, vc, rfl⟩, hcs, hdat⟩ := hop.at hlt
    obtain ⟨a', c', e'⟩ := kO.slice hdat
    simp only [Value.slice.injEq] at e'
    obtain ⟨-, rfl, -⟩ := e'
    rcases hun.2 with ⟨hnil, h0⟩ | ⟨b, c, rest, hsv, hbX, ob, hbl, hbc⟩
    · omega
    simp only [Value.slice.injEq] at hsv
    obtain ⟨rfl, -, rfl⟩ := hsv
    have ob1 := ob.ext x1 (fun h => hbX.2.2.1 h)
    have l1 := eX (off := i * 5) ob1 (by rw [List.length_append]; omega)
    have htk : ((cs ++ rest).drop (i * 5)).take 5 = qY S.under[i] (.slice va S.under[i].bytes.length vc) := by
      rw [List.drop_append_of_le_length (by omega), List.take_append_of_le_length (by rw [List.length_drop]; omega)]; exact hcs
    rw [htk] at l1
    have hmem := hop' _ (List.getElem_mem hlt)
    have hcr : tW S.under ks S.sure (i + 1) = match ks[i]? with | some true => qE S.under[i] (tW S.under ks S.sure i) | _ => tW S.under ks S.sure i := by
      rw [tW, List.getElem?_eq_getElem hlt]
      cases ks[i]? with
      | none => rfl
      | some q => cases q <;> rfl
    have hsi := hs i hi
    generalize S.under[i] = o at *
    simp (disch := omega) only [bP, dE, aY, bB, cR, cD, cI, cE, dA, cM, dL, cJ, bK, cS, cO, cZ, cL, cK, cU, cY, cT, cV, cP, cX, bS, cC, cN, cW, fD, fI, fA, fC, fF, fB, fE, eZ, fG, bJ, Result.ok.injEq, Next.value.injEq, true_and, and_true, cB, cF, cQ, cH, cG, dK, Int.toNat_natCast, bV, bR, bT, bU, bM, bL, bN, bH, bG, bF, if_true, if_false, Bool.false_eq_true, Nat.zero_add, Option.isNone_some, Option.isNone_none, Bool.not_true, Bool.not_false, List.getElem?_cons_succ, List.getElem?_cons_zero, aS, aJ, aP, aW, aZ, aQ, bQ, aA, aM, aH, aI, aK, bA, bC, bO, aR, aO, aN, aG, aT, aC, bD, aV, aF, bE, aE, aL, aD, aX, aU, aB, d1, l1]
    refine qT fun w2 o2 x2 s2 => ?_
    refine qH o2 rfl (by unfold qY; simp [one]) (by simp) fun w3 o3 x3 s3 => ?_
    have o3 : fT w3 w1.heap.size (qY o (.slice va o.bytes.length vc)) := o3
    have x13 : dJ w1 w3 jU := x2.new x3 (Nat.le_refl _)
    have x03 := x1.trans x13 fun _ _ h => h.elim
    have hms3 := hms1.ext x13 (fun h => h)
    have hf3 := hf1.ext x13 fun _ h => h.elim
    have hd3 : kO w3 D (.slice va o.bytes.length vc) o.bytes := (hdat.ext x1D fun _ h => h).ext x13 fun _ h => h.elim
    have op3 := op1.ext x13 (fun h => h)
    have q1d := (hO op3).cell (off := 1)
    have q1 := op3.cell (off := 1)
    simp only [List.getElem?_cons_zero, List.getElem?_cons_succ] at q1 q1d
    have l3 := eX (off := 0) o3 (by unfold qY; simp)
    have l3d := eX (off := 0) (hO o3) (by unfold qY; simp)
    have l3' : ((qY o (.slice va o.bytes.length vc)).drop 0).take 5 = qY o (.slice va o.bytes.length vc) := rfl
    rw [l3'] at l3 l3d
    have z3 := x13.size
    unfold gL
    have skip : tW S.under ks S.sure (i + 1) = tW S.under ks S.sure i → ∃ m, m < S.under.length - i ∧ ∃ (i' : Nat) (ls' : List (ByteArray × Value)), m = S.under.length - i' ∧ Value.int .i64 ((i + 1 : Nat) : Int) = .int .i64 i' ∧ i' ≤ S.under.length ∧ Mp w3 ms rE ls' ∧ kQ w3 D ls' (tW S.under ks S.sure i') ∧ dJ w w3 (fun b => b = ms) := fun e =>
      ⟨S.under.length - (i + 1), by omega, i + 1, ls', rfl, rfl, by omega, hms3, by rw [e]; exact hf3, x03⟩
    have ei : (i : Int) + 1 = ((i + 1 : Nat) : Int) := by omega
    by_cases hki : i < ks.length
    · have d2 : decide ((i : Int) < (ks.length : Int)) = true := by simp; omega
      obtain ⟨kb, koff, rfl, hcell⟩   := Ba (hk.ext x03 (fun h => hkX (mL h fun b hb => by rw [hb]; exact h2))) (by omega)
      have g1 := hcell i hki
      rw [List.getElem?_map, List.getElem?_eq_getElem hki] at g1
      simp only [Option.map_some] at g1
      rw [List.getElem?_eq_getElem hki] at hcr
      generalize ks[i] = kq at *
      cases kq with
      | false =>
        simp (disch := omega) only [bP, dE, aY, bB, cR, cD, cI, cE, dA, cM, dL, cJ, bK, cS, cO, cZ, cL, cK, cU, cY, cT, cV, cP, cX, bS, cC, cN, cW, fD, fI, fA, fC, fF, fB, fE, eZ, fG, bJ, Result.ok.injEq, Next.value.injEq, true_and, and_true, cB, cF, cQ, cH, cG, dK, Int.toNat_natCast, bV, bR, bT, bU, bM, bL, bN, bH, bG, bF, if_true, if_false, Bool.false_eq_true, Nat.zero_add, Option.isNone_some, Option.isNone_none, Bool.not_true, Bool.not_false, List.getElem?_cons_succ, List.getElem?_cons_zero, aS, aJ, aP, aW, aZ, aQ, bQ, aA, aM, aH, aI, aK, bA, bC, bO, aR, aO, aN, aG, aT, aC, bD, aV, aF, bE, aE, aL, aD, aX, aU, aB, d2, g1, ei]
        exact skip hcr
      | true =>
        simp (disch := omega) only [bP, dE, aY, bB, cR, cD, cI, cE, dA, cM, dL, cJ, bK, cS, cO, cZ, cL, cK, cU, cY, cT, cV, cP, cX, bS, cC, cN, cW, fD, fI, fA, fC, fF, fB, fE, eZ, fG, bJ, Result.ok.injEq, Next.value.injEq, true_and, and_true, cB, cF, cQ, cH, cG, dK, Int.toNat_natCast, bV, bR, bT, bU, bM, bL, bN, bH, bG, bF, if_true, if_false, Bool.false_eq_true, Nat.zero_add, Option.isNone_some, Option.isNone_none, Bool.not_true, Bool.not_false, List.getElem?_cons_succ, List.getElem?_cons_zero, aS, aJ, aP, aW, aZ, aQ, bQ, aA, aM, aH, aI, aK, bA, bC, bO, aR, aO, aN, aG, aT, aC, bD, aV, aF, bE, aE, aL, aD, aX, aU, aB, d2, g1, q1, q1d, l3, l3d]
        refine (AX (X := D) (c := tW S.under ks S.sure i) (o := o) hms3.dr (hXD _ h2) (fun b hb => by have := hDl b hb; show b < w3.heap.size; omega) (hf3.ext (dJ.dr _ jU) fun _ h => h.elim) (hd3.ext (dJ.dr _ jU) fun _ h => h.elim) hsi hmem.1 hmem.2).mono ?_
        rintro r w4 ⟨rfl, ls4, hms4, hf4, x4⟩
        have x4 : dJ w3 w4 (fun b => b = ms) := (dJ.dr _ _).seq x4
        simp (disch := omega) only [bP, dE, aY, bB, cR, cD, cI, cE, dA, cM, dL, cJ, bK, cS, cO, cZ, cL, cK, cU, cY, cT, cV, cP, cX, bS, cC, cN, cW, fD, fI, fA, fC, fF, fB, fE, eZ, fG, bJ, Result.ok.injEq, Next.value.injEq, true_and, and_true, cB, cF, cQ, cH, cG, dK, Int.toNat_natCast, bV, bR, bT, bU, bM, bL, bN, bH, bG, bF, if_true, if_false, Bool.false_eq_true, Nat.zero_add, Option.isNone_some, Option.isNone_none, Bool.not_true, Bool.not_false, List.getElem?_cons_succ, List.getElem?_cons_zero, aS, aJ, aP, aW, aZ, aQ, bQ, aA, aM, aH, aI, aK, bA, bC, bO, aR, aO, aN, aG, aT, aC, bD, aV, aF, bE, aE, aL, aD, aX, aU, aB, ei]
        exact ⟨S.under.length - (i + 1), by omega, i + 1, ls4, rfl, rfl, by omega, hms4, by rw [hcr]; exact hf4, x03.seq x4⟩
    · have d2 : decide ((i : Int) < (ks.length : Int)) = false := by simp; omega
      rw [List.getElem?_eq_none (by omega)] at hcr
      simp (disch := omega) only [bP, dE, aY, bB, cR, cD, cI, cE, dA, cM, dL, cJ, bK, cS, cO, cZ, cL, cK, cU, cY, cT, cV, cP, cX, bS, cC, cN, cW, fD, fI, fA, fC, fF, fB, fE, eZ, fG, bJ, Result.ok.injEq, Next.value.injEq, true_and, and_true, cB, cF, cQ, cH, cG, dK, Int.toNat_natCast, bV, bR, bT, bU, bM, bL, bN, bH, bG, bF, if_true, if_false, Bool.false_eq_true, Nat.zero_add, Option.isNone_some, Option.isNone_none, Bool.not_true, Bool.not_false, List.getElem?_cons_succ, List.getElem?_cons_zero, aS, aJ, aP, aW, aZ, aQ, bQ, aA, aM, aH, aI, aK, bA, bC, bO, aR, aO, aN, aG, aT, aC, bD, aV, aF, bE, aE, aL, aD, aX, aU, aB, d2, ei]
      exact skip hcr
  · have d1 : decide ((i : Int) < (S.under.length : Int)) = false := by simp; omega
    obtain rfl : i = S.under.length := by omega
    have c1 := op1.cell (off := 1)
    simp only [List.getElem?_cons_zero, List.getElem?_cons_succ] at c1
    unfold gC
    simp (disch := omega) only [bP, dE, aY, bB, cR, cD, cI, cE, dA, cM, dL, cJ, bK, cS, cO, cZ, cL, cK, cU, cY, cT, cV, cP, cX, bS, cC, cN, cW, fD, fI, fA, fC, fF, fB, fE, eZ, fG, bJ, Result.ok.injEq, Next.value.injEq, true_and, and_true, cB, cF, cQ, cH, cG, dK, Int.toNat_natCast, bV, bR, bT, bU, bM, bL, bN, bH, bG, bF, if_true, if_false, Bool.false_eq_true, Nat.zero_add, Option.isNone_some, Option.isNone_none, Bool.not_true, Bool.not_false, List.getElem?_cons_succ, List.getElem?_cons_zero, aS, aJ, aP, aW, aZ, aQ, bQ, aA, aM, aH, aI, aK, bA, bC, bO, aR, aO, aN, aG, aT, aC, bD, aV, aF, bE, aE, aL, aD, aX, aU, aB, d1, c1]
    refine (vI hms1).mono ?_
    rintro r w3 ⟨rfl, hmc, x3, s3⟩
    have op3 := op1.ext x3 (fun h => h)
    refine pZ op3 rfl (by simp) fun w4 op4 x4 s4 => ?_
    simp only [List.set_cons_zero, List.set_cons_succ] at op4
    refine hG op4 rfl (by simp) fun w5 op5 x5 s5 => ?_
    simp only [List.set_cons_zero, List.set_cons_succ] at op5
    refine wC op5 rfl (by simp) fun w6 op6 x6 s6 => ?_
    simp only [List.set_cons_zero, List.set_cons_succ] at op6
    refine wQ op6 rfl (by simp) fun w7 op7 x7 s7 => ?_
    simp only [List.set_cons_zero, List.set_cons_succ] at op7
    have x37 : dJ w3 w7 (fun y => y = p) := ((x4.seq x5).seq x6).seq x7
    obtain ⟨Y, hY⟩ : ∃ Y : Nat → Prop, Y = fun b => X b ∨ b = w1.heap.size := ⟨_, rfl⟩
    have hYX : ∀ b, X b → Y b := fun b h => by rw [hY]; exact .inl h
    have hY2 : ∀ b, Y b → X b ∨ w1.heap.size ≤ b := fun b h => by rw [hY] at h; rcases h with h | h; exact .inl h; exact .inr (by omega)
    obtain ⟨E, hE⟩ : ∃ E : Nat → Prop, E = fun b => D b ∨ b = w1.heap.size := ⟨_, rfl⟩
    have hED : ∀ b, D b → E b := fun b h => by rw [hE]; exact .inl h
    have hYE : ∀ b, Y b → E b := fun b h => by rw [hY] at h; rw [hE]; rcases h with h | h; exact .inl (hXD b h); exact .inr h
    have hE2 : ∀ b, E b → D b ∨ w1.heap.size ≤ b := fun b h => by rw [hE] at h; rcases h with h | h; exact .inl h; exact .inr (by omega)
    have x3Y : dJ w1 w3 E := x3.mono fun _ _ h => h.elim
    have x37Y : dJ w3 w7 E := x37.mono fun b _ h => by rw [h]; exact hED _ (hXD _ h1)
    have dat : ∀ v b, kO w1 D v b → kO w7 E v b := fun v b hd => ((hd.sub hE2).ext x3Y fun _ h => h).ext x37Y fun _ h => h
    refine ⟨Y, E, ⟨ms, w1.heap.size, .slice none 0 0, ls', ls', [], hYX _ h1, hYX _ h2, by rw [hY]; exact .inr rfl, h4, by omega, by omega, hYE, fun b h => ?_, op7, (hms1.ext x3 (fun h => h)).ext x37 (fun h => h4 h.symm), hmc.ext x37 (by omega), hf1.map dat, hf1.map dat, ⟨rfl, .inl ⟨rfl, rfl⟩⟩, rfl⟩, fun b h => ?_, hED, (x1X.trans x3 fun _ _ h => h.elim).trans x37 fun b _ h => by rw [h]; exact h1⟩
    · rw [hE] at h
      rcases h with h | h
      · have := hDl b h; omega
      · omega
    · rcases hY2 b h with h | h
      · exact .inl h
      · exact .inr (by omega)
end Go.Proofs.Ytmhokapokchneaa
namespace Go.Proofs.Ytmhokapokchneaa
open Go Go.En
set_option linter.unusedVariables false
set_option maxRecDepth 20000
attribute [local irreducible] Go.En.eE
variable (Q : Exit → dQ → World → Prop) (g : dQ) (w : World)
def eI : FA := ⟨jP, fun i => .leaf ([], []) []⟩
def fO : List ResultVar := [.tmp 8]
noncomputable def eB : Code := gN Try.f6
def gR (R : K1) (zP zC zH qR : Value) (w : World) : Prop :=
  bP pg (dB .eql 26 (.tmp 154) (.const (.int .i64 0)) zP (.int .i64 0)) w fun t155 w =>
  Gd (fX t155 true) (fun K => K zC w) w fun t157 w =>
  Gd (fX t155 true) (fun K => bP pg (dB .eql 26 (.tmp 157) (.const (.int .i64 0)) t157 (.int .i64 0)) w K) w fun t158 w =>
  bP pg (fL t155 t158 (.bool false)) w fun t159 w =>
  Gd (fX t159 true) (fun K => K zH w) w fun t161 w =>
  Gd (fX t159 true) (fun K => bP pg (mU 23 9 t161) w K) w fun t162 w =>
  Gd (fX t159 true) (fun K => K qR w) w fun t163 w =>
  Gd (fX t159 true) (fun K => bP pg (mU 23 9 t163) w K) w fun t164 w =>
  Gd (fX t159 true) (fun K => bP pg (dB .eql 9 (.tmp 162) (.tmp 164) t162 t164) w K) w fun t165 w =>
  bP pg (fL t159 t165 (.bool false)) w fun t166 w =>
  R t166 w
theorem oR (R : K1) (hr : HR fO R Q) (h : gR R (g 17) (g 18) (g 19) (g 21) w) : eE pg eI (dI 21 eB) Q g w :=
  dR (kn := no) (l := []) (by kernel_rfl) h rN hr trivial
def iY (kn : K4) (R : K1) (AC AY rX uF : Value) (w : World) : Prop :=
  dG pg jV #[] w fun t22 w =>
  bP pg (xI .not t22) w fun t24 w =>
  lN t24
    (R (.bool false) w)
    (bP pg (jI .len #[23] 3 [AC]) w fun t26 w =>
    bP pg (dB .gtr 3 (.tmp 26) (.const (.int .i64 200)) t26 (.int .i64 200)) w fun t27 w =>
    Gd (fX t27 false) (fun K => K AY w) w fun t29 w =>
    Gd (fX t27 false) (fun K => bP pg (jI .len #[23] 3 [t29]) w K) w fun t30 w =>
    Gd (fX t27 false) (fun K => bP pg (dB .gtr 3 (.tmp 30) (.const (.int .i64 200)) t30 (.int .i64 200)) w K) w fun t31 w =>
    bP pg (fL t27 (.bool true) t31) w fun t32 w =>
    lN t32
      (R (.bool true) w)
      (dG pg eT #[(.pointer none), (.int .i64 1)] w fun t34 w =>
      dG pg dZ #[(.pointer none), (.slice none 0 0)] w fun t36 w =>
      dG pg dY #[(.pointer none), (.string ⟨#[97]⟩)] w fun t39 w =>
      bP pg (eY t39 0) w fun t40 w =>
      bP pg (eY t39 1) w fun t41 w =>
      bP pg (dB .neq 26 (.tmp 42) (.const (.int .i64 1)) t41 (.int .i64 1)) w fun t43 w =>
      Gd (fX t43 false) (fun K => K (.pointer none) w) w fun t45 w =>
      Gd (fX t43 false) (fun K => K AC w) w fun t46 w =>
      Gd (fX t43 false) (fun K => dG pg dV #[t45, (.string ⟨#[97]⟩), (.int .i64 0), t46] w K) w fun t47 w =>
      Gd (fX t43 false) (fun K => bP pg (dB .neq 26 (.tmp 47) (.const (.int .i64 1)) t47 (.int .i64 1)) w K) w fun t48 w =>
      bP pg (fL t43 (.bool true) t48) w fun t49 w =>
      Gd (fX t49 false) (fun K => K (.pointer none) w) w fun t51 w =>
      Gd (fX t49 false) (fun K => dG pg eK #[t51, (.string ⟨#[97]⟩), (.string ⟨#[98]⟩)] w K) w fun t52 w =>
      Gd (fX t49 false) (fun K => bP pg (dB .neq 26 (.tmp 52) (.const (.int .i64 1)) t52 (.int .i64 1)) w K) w fun t53 w =>
      bP pg (fL t49 (.bool true) t53) w fun t54 w =>
      Gd (fX t54 false) (fun K => K (.pointer none) w) w fun t56 w =>
      Gd (fX t54 false) (fun K => dG pg gK #[t56, (.string ⟨#[97]⟩)] w K) w fun t57 w =>
      Gd (fX t54 false) (fun K => bP pg (dB .neq 26 (.tmp 57) (.const (.int .i64 1)) t57 (.int .i64 1)) w K) w fun t58 w =>
      bP pg (fL t54 (.bool true) t58) w fun t59 w =>
      Gd (fX t59 false) (fun K => K (.pointer none) w) w fun t61 w =>
      Gd (fX t59 false) (fun K => dG pg eJ #[t61] w K) w fun t62 w =>
      Gd (fX t59 false) (fun K => bP pg (dB .neq 26 (.tmp 62) (.const (.int .i64 1)) t62 (.int .i64 1)) w K) w fun t63 w =>
      bP pg (fL t59 (.bool true) t63) w fun t64 w =>
      Gd (fX t64 false) (fun K => K (.pointer none) w) w fun t66 w =>
      Gd (fX t64 false) (fun K => dG pg eC #[t66] w K) w fun t67 w =>
      Gd (fX t64 false) (fun K => bP pg (dB .neq 3 (.tmp 67) (.const (.int .i64 0)) t67 (.int .i64 0)) w K) w fun t68 w =>
      bP pg (fL t64 (.bool true) t68) w fun t69 w =>
      Gd (fX t69 false) (fun K => K (.pointer none) w) w fun t71 w =>
      Gd (fX t69 false) (fun K => dG pg gS #[t71] w K) w fun t72 w =>
      Gd (fX t69 false) (fun K => bP pg (jI .len #[53] 3 [t72]) w K) w fun t73 w =>
      Gd (fX t69 false) (fun K => bP pg (dB .gtr 3 (.tmp 73) (.const (.int .i64 0)) t73 (.int .i64 0)) w K) w fun t74 w =>
      bP pg (fL t69 (.bool true) t74) w fun t75 w =>
      lN t75
        (R (.bool false) w)
        (dG pg lC #[(.int .i64 1000)] w fun t77 w =>
        bP pg (eY t77 0) w fun t78 w =>
        bP pg (eY t77 1) w fun t79 w =>
        dG pg dV #[t78, (.string ⟨#[102]⟩), (.int .i64 0), AC] w fun t82 w =>
        dG pg eJ #[t78] w fun t84 w =>
        bP pg (dB .rem 5 (.tmp 86) (.const (.int .u8 3)) uF (.int .u8 3)) w fun t87 w =>
        bP pg (mU 5 3 t87) w fun t88 w =>
        dG pg eT #[t78, t88] w fun t89 w =>
        dG pg dV #[t78, (.string ⟨#[103]⟩), (.int .i64 0), AY] w fun t92 w =>
        dG pg eK #[t78, (.string ⟨#[103]⟩), (.string ⟨#[102]⟩)] w fun t94 w =>
        bP pg (dS 22 2 [(0, rX), (1, rX)]) w fun t98 w =>
        dG pg dZ #[t78, t98] w fun t99 w =>
        dG pg dY #[t78, (.string ⟨#[102]⟩)] w fun t102 w =>
        bP pg (eY t102 0) w fun t103 w =>
        bP pg (eY t102 1) w fun t104 w =>
        bP pg (dB .neq 26 (.tmp 105) (.const (.int .i64 0)) t79 (.int .i64 0)) w fun t106 w =>
        Gd (fX t106 false) (fun K => K t82 w) w fun t108 w =>
        Gd (fX t106 false) (fun K => bP pg (dB .neq 26 (.tmp 108) (.const (.int .i64 0)) t108 (.int .i64 0)) w K) w fun t109 w =>
        bP pg (fL t106 (.bool true) t109) w fun t110 w =>
        Gd (fX t110 false) (fun K => K t84 w) w fun t112 w =>
        Gd (fX t110 false) (fun K => bP pg (dB .neq 26 (.tmp 112) (.const (.int .i64 0)) t112 (.int .i64 0)) w K) w fun t113 w =>
        bP pg (fL t110 (.bool true) t113) w fun t114 w =>
        Gd (fX t114 false) (fun K => K t104 w) w fun t116 w =>
        Gd (fX t114 false) (fun K => bP pg (dB .neq 26 (.tmp 116) (.const (.int .i64 0)) t116 (.int .i64 0)) w K) w fun t117 w =>
        bP pg (fL t114 (.bool true) t117) w fun t118 w =>
        lN t118
          (R (.bool false) w)
          (bP pg (dB .rem 5 (.tmp 119) (.const (.int .u8 3)) uF (.int .u8 3)) w fun t120 w =>
          bP pg (dB .eql 5 (.tmp 120) (.const (.int .u8 0)) t120 (.int .u8 0)) w fun t122 w =>
          lN t122
            (bP pg (dB .eql 26 (.tmp 123) (.const (.int .i64 20)) t92 (.int .i64 20)) w fun t124 w =>
            Gd (fX t124 true) (fun K => K t94 w) w fun t126 w =>
            Gd (fX t124 true) (fun K => bP pg (dB .eql 26 (.tmp 126) (.const (.int .i64 20)) t126 (.int .i64 20)) w K) w fun t127 w =>
            bP pg (fL t124 t127 (.bool false)) w fun t128 w =>
            Gd (fX t128 true) (fun K => K t103 w) w fun t130 w =>
            Gd (fX t128 true) (fun K => bP pg (mU 23 9 t130) w K) w fun t131 w =>
            Gd (fX t128 true) (fun K => K AC w) w fun t132 w =>
            Gd (fX t128 true) (fun K => bP pg (mU 23 9 t132) w K) w fun t133 w =>
            Gd (fX t128 true) (fun K => bP pg (dB .eql 9 (.tmp 131) (.tmp 133) t131 t133) w K) w fun t134 w =>
            bP pg (fL t128 t134 (.bool false)) w fun t135 w =>
            R t135 w)
            (bP pg (dB .eql 5 (.tmp 120) (.const (.int .u8 1)) t120 (.int .u8 1)) w fun t137 w =>
            lN t137
              (bP pg (dB .eql 26 (.tmp 138) (.const (.int .i64 0)) t92 (.int .i64 0)) w fun t139 w =>
              Gd (fX t139 true) (fun K => K t94 w) w fun t141 w =>
              Gd (fX t139 true) (fun K => bP pg (dB .eql 26 (.tmp 141) (.const (.int .i64 20)) t141 (.int .i64 20)) w K) w fun t142 w =>
              bP pg (fL t139 t142 (.bool false)) w fun t143 w =>
              Gd (fX t143 true) (fun K => K t103 w) w fun t145 w =>
              Gd (fX t143 true) (fun K => bP pg (mU 23 9 t145) w K) w fun t146 w =>
              Gd (fX t143 true) (fun K => K AC w) w fun t147 w =>
              Gd (fX t143 true) (fun K => bP pg (mU 23 9 t147) w K) w fun t148 w =>
              Gd (fX t143 true) (fun K => bP pg (dB .eql 9 (.tmp 146) (.tmp 148) t146 t148) w K) w fun t149 w =>
              bP pg (fL t143 t149 (.bool false)) w fun t150 w =>
              R t150 w)
              (lN rX
                (kn t92 t94 t103 AY w)
                (kn t92 t94 t103 AC w)))))))
theorem oN (kn : K4) (R : K1) (hn : ∀ g w, kn (g 17) (g 18) (g 19) (g 21) w → Q .normal g w) (hr : HR fO R Q) (h : iY kn R (g 0) (g 1) (g 2) (g 3) w) : eE pg eI (fJ 21 eB) Q g w :=
  dR (l := []) (by kernel_rfl) h hn hr trivial
def jA (R : K1) (AC AY rX uF : Value) (w : World) : Prop :=
  iY (fun zP zC zH qR w => gR R zP zC zH qR w) R AC AY rX uF w
theorem oJ (R : K1) (hr : HR fO R Q) (h : jA R (g 0) (g 1) (g 2) (g 3) w) : eE pg eI eB Q g w :=
  iZ 21 _ g w (by kernel_rfl) (oN (fK (fun g w => eE pg eI (dI 21 eB) Q g w) Q) g w (fun zP zC zH qR w => gR R zP zC zH qR w) R (fun g w h => kU (K := fun g w => eE pg eI (dI 21 eB) Q g w) (oR Q g w R hr h)) hr h)
def pB (a0 a1 a2 a3 : Value) (w : World) (R : K1) : Prop :=
  jA R a0 a1 a2 a3 w
theorem pT {a0 a1 a2 a3 : Value} {w : World} {R : K1} (h : pB a0 a1 a2 a3 w R) : dG pg jP #[a0, a1, a2, a3] w R := by
  refine dM (ann := eI) (fn := Try.f6) (c := eB) (args := [a0, a1, a2, a3]) (rs := fO) (N := 167) TryM.mixed (by kernel_rfl) Try.func6 (by kernel_rfl) (by kernel_rfl) (by kernel_rfl) (of_decide_eq_true (by kernel_rfl)) (by kernel_rfl) ?_
  exact (oJ (lX pg fO R) (hH [a0, a1, a2, a3]) w R (fun _ _ h => h) h)
end Go.Proofs.Ytmhokapokchneaa
namespace Go.Proofs.Ytmhokapokchneaa
open Go Go.En
set_option linter.unusedVariables false
set_option maxRecDepth 4000
theorem bY {k k' : IntKind} {lo hi : Int} (a : Option Addr) (n c : Nat) (w : World) (h0 : 0 ≤ lo) (h1 : lo ≤ hi) (h2 : hi ≤ c) : (qK 23 (.slice a n c) (some (.int k lo)) (some (.int k' hi)) none).run pg w = .ok (.value (.slice (iE a c (lo.toNat) 1) (hi.toNat - lo.toNat) (c - lo.toNat))) w := uB Try.underlying23 uU _ n c h0 h1 h2
theorem dH {k : IntKind} {a : Int} (b o n c : Nat) (w : World) (h0 : 0 ≤ a) (h1 : a < n) : (mV 23 (.slice (some ⟨b, o, none⟩) n c) (.int k a)).run pg w = .ok (.value (.pointer (some ⟨b, o + a.toNat, none⟩))) w := tK rfl Try.underlying23 uU b o n c h0 h1
theorem dW (x : Addr) (w : World) : (dO 5 (.pointer (some x))).run pg w = zX (w.cell? x) w (Aa pg 5 x w) := wD Try.underlying5 rfl x w
theorem dN {ox oy : Operand} (c d : Bool) (w : World) : (dB .eql 4 ox oy (.bool c) (.bool d)).run pg w = .ok (.value (.bool (c == d))) w := AQ c d Try.underlying4
end Go.Proofs.Ytmhokapokchneaa
namespace Go.Proofs.Ytmhokapokchneaa
open Go Go.En
set_option linter.unusedVariables false
set_option maxRecDepth 4000
theorem dF {k : IntKind} (a : Int) (w : World) : (mU 5 3 (.int k a)).run pg w = .ok (.value (.int .i64 (IntKind.i64.wrap a))) w := AL Try.underlying5 Try.underlying3
end Go.Proofs.Ytmhokapokchneaa
namespace Go.Proofs.Ytmhokapokchneaa
open Go Go.En
set_option linter.unusedVariables false
set_option maxRecDepth 4000
theorem dC {ty : TypeId} (x : Option Addr) (n c : Nat) (w : World) : (jI .len #[53] ty [.slice x n c]).run pg w = .ok (.value (.int .i64 n)) w := tZ Try.underlying53 x n c
theorem wB {n : Nat} {ps : List (Nat × Value)} {cells : Array Value} {w : World} (h1 : ¬ n * 1 > 2 ^ 24) (h0 : ¬ n * 1 = 0) (hf : Go.Instr.fill (fun j => some (j * 1, 1)) ((Array.range (n * 1)).map ((Try.t4.zero.get!).cells[· % (Try.t4.zero.get!).cells.size]!)) ps = some cells) {K : Value → World → Prop} (hk : ∀ w', fT w' w.heap.size cells.toList → dJ w w' jU → w'.heap.size = w.heap.size + 1 → K (.slice (some ⟨w.heap.size, 0, none⟩) n n) w') : bP pg (dS 22 n ps) w K := qD (i := Try.t4) Try.underlying22 Am rfl h1 h0 hf hk
end Go.Proofs.Ytmhokapokchneaa
namespace Go.Proofs.Ytmhokapokchneaa
open Go Go.En Go.Pu
set_option maxRecDepth 4000
set_option linter.unusedSimpArgs false
set_option linter.unusedVariables false
theorem fN.xd {w : World} {p : Nat} {X D : Nat → Prop} {S : pK} (h : fN w p X D S) : ∀ b, X b → D b := by
  obtain ⟨_, _, _, _, _, _, _, _, _, _, _, _, h7, _⟩ := h; exact h7
theorem kO.after {w w' : World} {X X' : Nat → Prop} {v : Value} {b : List UInt8} (h : kO w X v b) (hX : ∀ b, X' b → X b ∨ w.heap.size ≤ b) (x : dJ w w' X) : kO w' X' v b := ⟨h.1.ext x h.2, (h.sub hX).2⟩
theorem kO.low {w : World} {X Y : Nat → Prop} {v : Value} {b : List UInt8} (h : kO w X v b) (hY : ∀ b, Y b → X b) : kO w Y v b := ⟨h.1, fun h' => h.2 (mL h' hY)⟩
abbrev nA : ByteArray := ⟨#[97]⟩
theorem AA {room : Int} {su c : fZ} {u : List sS} {o : sS} : nI ⟨room, su, c, u, -1, false⟩ o = (⟨room, su, qE o c, u ++ [o], -1, false⟩, 0) := rfl
theorem dJ.big {w w1 w2 : World} {M : Nat → Prop} (x : dJ w w1 jU) (y : dJ w1 w2 M) (h : ∀ b, M b → w.heap.size ≤ b) : dJ w w2 jU := x.trans y fun b hb hm => by have := h b hm; omega
theorem uG (os : List sS) (c : fZ) : ∀ i, tW os [] c i = c
  | 0 => rfl
  | i + 1 => by
    rw [tW]
    cases os[i]? with
    | none => exact uG os c i
    | some o => exact uG os c i
theorem xS (w : World) : dG pg jV #[] w (fun r w' => r = .bool true ∧ dJ w w' jU) := by
  refine rA ?_
  unfold rP kY
  refine (yY (room := 100) (by omega) (by omega)).mono ?_
  rintro r w1 ⟨p, X, rfl, h1, hX1, x1⟩
  have n0 : ((0 : Int) != 0) = false := rfl
  simp (disch := omega) only [bP, dE, aY, bB, cR, cD, cI, cE, dA, cM, dL, cJ, bK, cS, cO, cZ, cL, cK, cU, cY, cT, cV, cP, cX, bS, cC, cN, cW, fD, fI, fA, fC, fF, fB, fE, eZ, fG, bJ, Result.ok.injEq, Next.value.injEq, true_and, and_true, cB, cF, cQ, cH, cG, dK, Int.toNat_natCast, bV, bR, bT, bU, bM, bL, bN, bH, bG, bF, if_true, if_false, Bool.false_eq_true, Nat.zero_add, Option.isNone_some, Option.isNone_none, Bool.not_true, Bool.not_false, List.getElem?_cons_succ, List.getElem?_cons_zero, aS, aJ, aP, aW, aZ, aQ, bQ, aA, aM, aH, aI, aK, bA, bC, bO, aR, aO, aN, aG, aT, aC, bD, aV, aF, bE, aE, aL, aD, aX, aU, aB, bY, dH, dW, dN, dF, dC, n0]
  refine vF (cells := #[.int .u8 120, .int .u8 121]) (by decide) (by decide) (by kernel_rfl) fun w2 o2 x2 s2 => ?_
  refine tU o2 fun w3 o3 x3 s3 => ?_
  have x13 : dJ w1 w3 jU := x2.new x3 (by omega)
  have hb : Bs w3 (.slice (some ⟨w1.heap.size, 0, none⟩) 2 2) [120, 121] := fT.whole (l := [120, 121]) (c := 2) o3 (by simp)
  have hB0 : xJ (yX 100) := ⟨by decide, by decide, by decide, by decide⟩
  refine (sM (a := 0) (name := nA) (h1.new x13) hB0 hb (by simp) (by omega) (by omega)).mono ?_
  rintro r w4 ⟨rfl, hp4⟩
  have e1 : yI (yX 100) nA 0 [120, 121] = (⟨100, [], [(nA, [120, 121])], [⟨0, nA, ⟨#[]⟩, 0, [120, 121]⟩], -1, false⟩, 0) := by rfl
  rw [e1] at hp4 ⊢
  obtain ⟨X4, D4, h4, hX4, hD4, x4⟩ := hp4
  have hB4 : xJ ⟨100, [], [(nA, [120, 121])], [⟨0, nA, ⟨#[]⟩, 0, [120, 121]⟩], -1, false⟩ := ⟨by decide, by decide, by decide, by decide⟩
  have x03 := x1.seq x13
  have z3 := x03.size
  have z1 := x1.size
  have x04 : dJ w w4 jU := dJ.big x03 x4 hX1
  have big4 : ∀ b, X4 b → w.heap.size ≤ b := fun b h => by rcases hX4 b h with h | h; exact hX1 b h; omega
  simp (disch := omega) only [bP, dE, aY, bB, cR, cD, cI, cE, dA, cM, dL, cJ, bK, cS, cO, cZ, cL, cK, cU, cY, cT, cV, cP, cX, bS, cC, cN, cW, fD, fI, fA, fC, fF, fB, fE, eZ, fG, bJ, Result.ok.injEq, Next.value.injEq, true_and, and_true, cB, cF, cQ, cH, cG, dK, Int.toNat_natCast, bV, bR, bT, bU, bM, bL, bN, bH, bG, bF, if_true, if_false, Bool.false_eq_true, Nat.zero_add, Option.isNone_some, Option.isNone_none, Bool.not_true, Bool.not_false, List.getElem?_cons_succ, List.getElem?_cons_zero, aS, aJ, aP, aW, aZ, aQ, bQ, aA, aM, aH, aI, aK, bA, bC, bO, aR, aO, aN, aG, aT, aC, bD, aV, aF, bE, aE, aL, aD, aX, aU, aB, bY, dH, dW, dN, dF, dC]
  refine (tV (name := nA) h4 hB4 (fun b hb => by have hb : some [120, 121] = some b := hb; cases hb; decide)).mono ?_
  rintro r w5 ⟨hr, x5⟩
  rcases hr with ⟨h, _⟩ | ⟨_, h, _⟩ | ⟨_, b, v, hg, rfl, ho⟩
  · cases h
  · have h : some [120, 121] = (none : Option (List UInt8)) := h
    cases h
  have hg : some [120, 121] = some b := hg
  cases hg
  have dv : kO w5 D4 v [120, 121] := rF.dat ho fun b hb => fN.lt h4 b hb
  obtain ⟨va, vc, rfl⟩ := ho.len
  have h5 := h4.new x5
  have z4 := x04.size
  have z5 := x5.size
  simp (disch := omega) only [bP, dE, aY, bB, cR, cD, cI, cE, dA, cM, dL, cJ, bK, cS, cO, cZ, cL, cK, cU, cY, cT, cV, cP, cX, bS, cC, cN, cW, fD, fI, fA, fC, fF, fB, fE, eZ, fG, bJ, Result.ok.injEq, Next.value.injEq, true_and, and_true, cB, cF, cQ, cH, cG, dK, Int.toNat_natCast, bV, bR, bT, bU, bM, bL, bN, bH, bG, bF, if_true, if_false, Bool.false_eq_true, Nat.zero_add, Option.isNone_some, Option.isNone_none, Bool.not_true, Bool.not_false, List.getElem?_cons_succ, List.getElem?_cons_zero, aS, aJ, aP, aW, aZ, aQ, bQ, aA, aM, aH, aI, aK, bA, bC, bO, aR, aO, aN, aG, aT, aC, bD, aV, aF, bE, aE, aL, aD, aX, aU, aB, bY, dH, dW, dN, dF, dC]
  refine (xM h5).mono ?_
  rintro r w6 ⟨rfl, hw⟩
  rw [hw]; clear hw w6
  refine (wT (ks := []) h5 (Sl.nil _) (fun h => h) (by simp) (by simp) (fun i hi => by rw [uG]; decide) (fun o ho => by
    have ho := List.mem_singleton.1 ho
    rw [ho]; exact ⟨by decide, by decide⟩)).mono ?_
  rintro r w6 ⟨rfl, hp6⟩
  have e6 : A5 ⟨100, [], [(nA, [120, 121])], [⟨0, nA, ⟨#[]⟩, 0, [120, 121]⟩], -1, false⟩ [] = ⟨100, [], [], [], -1, false⟩ := by rfl
  rw [e6] at hp6
  obtain ⟨X6, D6, h6, hX6, hD6, x6⟩ := hp6
  have dv6 := kO.after (kO.low dv (fN.xd h4)) hX6 x6
  have x06 : dJ w w6 jU := dJ.big (x04.seq x5) x6 big4
  have big6 : ∀ b, X6 b → w.heap.size ≤ b := fun b h => by rcases hX6 b h with h | h; exact big4 b h; omega
  have hB6 : xJ ⟨100, [], [], [], -1, false⟩ := ⟨by decide, by decide, by decide, by decide⟩
  refine (tV (name := nA) h6 hB6 (fun b hb => by have hb : none = some b := hb; cases hb)).mono ?_
  rintro r w7 ⟨hr, x7⟩
  rcases hr with ⟨h, _⟩ | ⟨_, _, rfl⟩ | ⟨_, b, v, hg, rfl, ho⟩
  · cases h
  · have hcv := gM (dv6.1.ext x7 (jW _))
    have n1 : ((0 : Int) == 0) = true := rfl
    have n2 : (((([⟨0, nA, ⟨#[]⟩, 0, [120, 121]⟩] : List sS).length : Nat) : Int) == 1) = true := rfl
    have n2' : (((1 : Nat) : Int) == 1) = true := rfl
    have n3 : ((21 : Int) == 21) = true := rfl
    have n4 : ((⟨([120, 121] : List UInt8).toArray⟩ : ByteArray).toList == (⟨#[120, 121]⟩ : ByteArray).toList) = true := by simp
    have hl2 : ([⟨0, nA, ⟨#[]⟩, 0, [120, 121]⟩] : List sS).length = 1 := rfl
    simp (disch := omega) only [bP, dE, aY, bB, cR, cD, cI, cE, dA, cM, dL, cJ, bK, cS, cO, cZ, cL, cK, cU, cY, cT, cV, cP, cX, bS, cC, cN, cW, fD, fI, fA, fC, fF, fB, fE, eZ, fG, bJ, Result.ok.injEq, Next.value.injEq, true_and, and_true, cB, cF, cQ, cH, cG, dK, Int.toNat_natCast, bV, bR, bT, bU, bM, bL, bN, bH, bG, bF, if_true, if_false, Bool.false_eq_true, Nat.zero_add, Option.isNone_some, Option.isNone_none, Bool.not_true, Bool.not_false, List.getElem?_cons_succ, List.getElem?_cons_zero, aS, aJ, aP, aW, aZ, aQ, bQ, aA, aM, aH, aI, aK, bA, bC, bO, aR, aO, aN, aG, aT, aC, bD, aV, aF, bE, aE, aL, aD, aX, aU, aB, bY, dH, dW, dN, dF, dC, n1, hl2, n2', n3, hcv, rV, n4]
    refine (yS (h6.new x7) hB6).mono ?_
    rintro r w8 ⟨rfl, hp8⟩
    obtain ⟨X8, D8, h8, hX8, hD8, x8⟩ := hp8
    have e8 : ((AZ ⟨100, [], [], [], -1, false⟩).2 == 0) = true := by rfl
    simp (disch := omega) only [bP, dE, aY, bB, cR, cD, cI, cE, dA, cM, dL, cJ, bK, cS, cO, cZ, cL, cK, cU, cY, cT, cV, cP, cX, bS, cC, cN, cW, fD, fI, fA, fC, fF, fB, fE, eZ, fG, bJ, Result.ok.injEq, Next.value.injEq, true_and, and_true, cB, cF, cQ, cH, cG, dK, Int.toNat_natCast, bV, bR, bT, bU, bM, bL, bN, bH, bG, bF, if_true, if_false, Bool.false_eq_true, Nat.zero_add, Option.isNone_some, Option.isNone_none, Bool.not_true, Bool.not_false, List.getElem?_cons_succ, List.getElem?_cons_zero, aS, aJ, aP, aW, aZ, aQ, bQ, aA, aM, aH, aI, aK, bA, bC, bO, aR, aO, aN, aG, aT, aC, bD, aV, aF, bE, aE, aL, aD, aX, aU, aB, bY, dH, dW, dN, dF, dC, e8]
    exact dJ.big (x06.seq x7) x8 big6
  · have hg : none = some b := hg
    cases hg
end Go.Proofs.Ytmhokapokchneaa
namespace Go.Proofs.Ytmhokapokchneaa
open Go Go.En Go.Pu
set_option maxRecDepth 4000
set_option linter.unusedSimpArgs false
set_option linter.unusedVariables false
theorem AT {room : Int} {su c : fZ} {u : List sS} {l : Int} {d : Bool} (hl : -1 ≤ l ∧ l ≤ 9223372036854775807) (hs : dU c ≤ 1099511627776) (hu : u.length ≤ 1000000) (hr : 0 ≤ room ∧ room ≤ 16777216) : xJ ⟨room, su, c, u, l, d⟩ := ⟨hl, hs, hu, hr⟩
end Go.Proofs.Ytmhokapokchneaa
namespace Go.Proofs.Ytmhokapokchneaa
open Go Go.En Go.Pu
set_option maxRecDepth 4000
set_option linter.unusedSimpArgs false
set_option linter.unusedVariables false
abbrev nF : ByteArray := ⟨#[102]⟩
abbrev nG : ByteArray := ⟨#[103]⟩
theorem uV (l : List UInt8) : over [] 0 l = l := by
  unfold over
  simp
theorem wV {room left : Int} {su c : fZ} {u : List sS} {name : ByteArray} {a : Nat} {l old : List UInt8} (hm : qZ name = true) (ho : (lJ name c).getD [] = old) (ha : a ≤ old.length) (hs : ((dU c + ((a + l.length) - old.length) : Nat) : Int) ≤ room) :
    yI ⟨room, su, c, u, left, false⟩ name a l = nI ⟨room, su, c, u, left, false⟩ ⟨0, name, ⟨#[]⟩, a, l⟩ := by
  have hE : AU ⟨room, su, c, u, left, false⟩ name a l.length = 0 := by
    unfold AU tI
    simp only
    rw [ho, hm, if_neg (by decide), if_neg (by rintro (h | h); cases h; omega), if_neg (by omega)]
    have : (dU c : Int) + max ((a : Int) + (l.length : Int) - (old.length : Int)) 0 = ((dU c + ((a + l.length) - old.length) : Nat) : Int) := by omega
    rw [this, if_neg (by omega)]
  unfold yI
  rw [hE, if_pos rfl, Int.toNat_natCast]
structure AN (a b : List UInt8) (s : Nat) (keep : Bool) (S4 S5 : pK) (h i : Int) (c : List UInt8) : Prop where
  wr : yI ⟨1000, [(nF, a)], [(nF, a)], [], s, false⟩ nG (0 : Nat) b = (S4, h)
  rn : A7 S4 nG nF = (S5, i)
  cr : lJ nF (A5 S5 [keep, keep]).seen = some c
  h0 : s = 0 → h = 20 ∧ i = 20 ∧ c = a
  h1 : s = 1 → h = 0 ∧ i = 20 ∧ c = a
  h2 : s = 2 → h = 0 ∧ i = 0 ∧ c = if keep then b else a
  b4 : xJ S4
  b5 : S5.under.length ≤ 1000000
  sz : ∀ j, j ≤ S5.under.length → dU (tW S5.under [keep, keep] S5.sure j) ≤ 1000
  op : ∀ o ∈ S5.under, o.at' ≤ 1099511627776 ∧ o.bytes.length ≤ 1099511627776
  rm : S5.room = 1000
  cl : c.length ≤ 200
theorem Aj {a b : List UInt8} (ha : a.length ≤ 200) (hb : b.length ≤ 200) {s : Nat} (hs : s < 3) (keep : Bool) : ∃ S4 S5 h i c, AN a b s keep S4 S5 h i c := by
  have hm : qZ nG = true := by decide
  have fa : dU [(nF, a)] = a.length := by show a.length + 0 = _; omega
  have fab : dU [(nF, a), (nG, b)] = a.length + b.length := by show a.length + (b.length + 0) = _; omega
  have fb : dU [(nF, b)] = b.length := by show b.length + 0 = _; omega
  have W : ∀ left : Int, yI ⟨1000, [(nF, a)], [(nF, a)], [], left, false⟩ nG (0 : Nat) b = nI ⟨1000, [(nF, a)], [(nF, a)], [], left, false⟩ ⟨0, nG, ⟨#[]⟩, 0, b⟩ := fun left =>
    wV (old := []) hm rfl (by simp) (by rw [fa]; show ((a.length + (0 + b.length - 0) : Nat) : Int) ≤ 1000; omega)
  have D1 : qE ⟨0, nG, ⟨#[]⟩, 0, b⟩ [(nF, a)] = [(nF, a), (nG, b)] := by
    have : qE ⟨0, nG, ⟨#[]⟩, 0, b⟩ [(nF, a)] = [(nF, a), (nG, over [] 0 b)] := rfl
    rw [this, uV]
  have D2 : qE ⟨1, nG, nF, 0, []⟩ [(nF, a), (nG, b)] = [(nF, b)] := rfl
  rcases (show s = 0 ∨ s = 1 ∨ s = 2 by omega) with rfl | rfl | rfl
  · refine ⟨⟨1000, [(nF, a)], [(nF, a)], [], 0, true⟩, ⟨1000, [(nF, a)], [(nF, a)], [], 0, true⟩, 20, 20, a, W 0, rfl, rfl, fun _ => ⟨rfl, rfl, rfl⟩, fun h => by omega, fun h => by omega, AT (by omega) (by omega) (by simp) (by omega), by show 0 ≤ _; omega, fun j hj => ?_, fun o ho => (by cases ho), rfl, ha⟩
    have hj : j ≤ 0 := hj
    obtain rfl : j = 0 := by omega
    show dU [(nF, a)] ≤ _
    omega
  · refine ⟨⟨1000, [(nF, a)], [(nF, a), (nG, b)], [⟨0, nG, ⟨#[]⟩, 0, b⟩], 0, false⟩, ⟨1000, [(nF, a)], [(nF, a), (nG, b)], [⟨0, nG, ⟨#[]⟩, 0, b⟩], 0, true⟩, 0, 20, a, ?_, rfl, ?_, fun h => by omega, fun _ => ⟨rfl, rfl, rfl⟩, fun h => by omega, AT (by omega) (by omega) (by simp) (by omega), by show 1 ≤ _; omega, fun j hj => ?_, fun o ho => ?_, rfl, ha⟩
    · rw [W]
      show ((⟨1000, [(nF, a)], qE ⟨0, nG, ⟨#[]⟩, 0, b⟩ [(nF, a)], [⟨0, nG, ⟨#[]⟩, 0, b⟩], 0, false⟩ : pK), (0 : Int)) = _
      rw [D1]
    · cases keep with
      | false => rfl
      | true => rfl
    · have hj : j ≤ 1 := hj
      rcases (show j = 0 ∨ j = 1 by omega) with rfl | rfl
      · show dU [(nF, a)] ≤ _; omega
      · cases keep with
        | false => show dU [(nF, a)] ≤ _; omega
        | true =>
          show dU (qE ⟨0, nG, ⟨#[]⟩, 0, b⟩ [(nF, a)]) ≤ _
          rw [D1]; omega
    · rw [List.mem_singleton.1 ho]; exact ⟨by show 0 ≤ _; omega, by show b.length ≤ _; omega⟩
  · refine ⟨⟨1000, [(nF, a)], [(nF, a), (nG, b)], [⟨0, nG, ⟨#[]⟩, 0, b⟩], 1, false⟩, ⟨1000, [(nF, a)], [(nF, b)], [⟨0, nG, ⟨#[]⟩, 0, b⟩, ⟨1, nG, nF, 0, []⟩], 0, false⟩, 0, 0, if keep then b else a, ?_, ?_, ?_, fun h => by omega, fun h => by omega, fun _ => ⟨rfl, rfl, rfl⟩, AT (by omega) (by omega) (by simp) (by omega), by show 2 ≤ _; omega, fun j hj => ?_, fun o ho => ?_, rfl, by split <;> omega⟩
    · rw [W]
      show ((⟨1000, [(nF, a)], qE ⟨0, nG, ⟨#[]⟩, 0, b⟩ [(nF, a)], [⟨0, nG, ⟨#[]⟩, 0, b⟩], 1, false⟩ : pK), (0 : Int)) = _
      rw [D1]
    · rfl
    · cases keep with
      | false => rfl
      | true =>
        show lJ nF (qE ⟨1, nG, nF, 0, []⟩ (qE ⟨0, nG, ⟨#[]⟩, 0, b⟩ [(nF, a)])) = _
        rw [D1, D2] <;> rfl
    · have hj : j ≤ 2 := hj
      rcases (show j = 0 ∨ j = 1 ∨ j = 2 by omega) with rfl | rfl | rfl
      · show dU [(nF, a)] ≤ _; omega
      · cases keep with
        | false => show dU [(nF, a)] ≤ _; omega
        | true =>
          show dU (qE ⟨0, nG, ⟨#[]⟩, 0, b⟩ [(nF, a)]) ≤ _
          rw [D1]; omega
      · cases keep with
        | false => show dU [(nF, a)] ≤ _; omega
        | true =>
          show dU (qE ⟨1, nG, nF, 0, []⟩ (qE ⟨0, nG, ⟨#[]⟩, 0, b⟩ [(nF, a)])) ≤ _
          rw [D1, D2]; omega
    · rcases List.mem_cons.1 ho with rfl | ho
      · exact ⟨by show 0 ≤ _; omega, by show b.length ≤ _; omega⟩
      · rw [List.mem_singleton.1 ho]; exact ⟨by show 0 ≤ _; omega, by show 0 ≤ _; omega⟩
end Go.Proofs.Ytmhokapokchneaa
namespace Go.Proofs.Ytmhokapokchneaa
open Go Go.En Go.Pu
set_option maxRecDepth 4000
set_option linter.unusedSimpArgs false
set_option linter.unusedVariables false
theorem vP {av bv : Value} {a b : List UInt8} {keep : Bool} {st : Nat} {w : World} (ha : Bs w av a) (hal : a.length ≤ 9223372036854775807) (hb : Bs w bv b) (hbl : b.length ≤ 9223372036854775807) (hst : st < 256) :
    dG pg jP #[av, bv, .bool keep, .int .u8 st] w (fun r w' => r = .bool true ∧ dJ w w' jU) := by
  refine pT ?_
  obtain ⟨RR, hRR⟩ : ∃ RR : Value → World → Prop, RR = fun r w' => r = .bool true ∧ dJ w w' jU := ⟨_, rfl⟩
  rw [← hRR]
  have hR : ∀ w', dJ w w' jU → RR (.bool true) w' := fun w' x => by rw [hRR]; exact ⟨rfl, x⟩
  unfold pB jA iY
  obtain ⟨aa, ac, rfl, _⟩ := ha.len
  obtain ⟨ba, bc, rfl, _⟩ := hb.len
  rw [List.length_map] at ha hb
  rw [List.length_map, List.length_map]
  refine (xS w).mono ?_
  rintro r w1 ⟨rfl, x1⟩
  have z1 := x1.size
  by_cases ha2 : 200 < a.length
  · have d1 : decide ((200 : Int) < (a.length : Int)) = true := by simp; omega
    simp (disch := omega) only [bP, dE, aY, bB, cR, cD, cI, cE, dA, cM, dL, cJ, bK, cS, cO, cZ, cL, cK, cU, cY, cT, cV, cP, cX, bS, cC, cN, cW, fD, fI, fA, fC, fF, fB, fE, eZ, fG, bJ, Result.ok.injEq, Next.value.injEq, true_and, and_true, cB, cF, cQ, cH, cG, dK, Int.toNat_natCast, bV, bR, bT, bU, bM, bL, bN, bH, bG, bF, if_true, if_false, Bool.false_eq_true, Nat.zero_add, Option.isNone_some, Option.isNone_none, Bool.not_true, Bool.not_false, List.getElem?_cons_succ, List.getElem?_cons_zero, aS, aJ, aP, aW, aZ, aQ, bQ, aA, aM, aH, aI, aK, bA, bC, bO, aR, aO, aN, aG, aT, aC, bD, aV, aF, bE, aE, aL, aD, aX, aU, aB, bY, dH, dW, dN, dF, dC, d1]
    exact hR _ x1
  have d1 : decide ((200 : Int) < (a.length : Int)) = false := by simp; omega
  by_cases hb2 : 200 < b.length
  · have d2 : decide ((200 : Int) < (b.length : Int)) = true := by simp; omega
    simp (disch := omega) only [bP, dE, aY, bB, cR, cD, cI, cE, dA, cM, dL, cJ, bK, cS, cO, cZ, cL, cK, cU, cY, cT, cV, cP, cX, bS, cC, cN, cW, fD, fI, fA, fC, fF, fB, fE, eZ, fG, bJ, Result.ok.injEq, Next.value.injEq, true_and, and_true, cB, cF, cQ, cH, cG, dK, Int.toNat_natCast, bV, bR, bT, bU, bM, bL, bN, bH, bG, bF, if_true, if_false, Bool.false_eq_true, Nat.zero_add, Option.isNone_some, Option.isNone_none, Bool.not_true, Bool.not_false, List.getElem?_cons_succ, List.getElem?_cons_zero, aS, aJ, aP, aW, aZ, aQ, bQ, aA, aM, aH, aI, aK, bA, bC, bO, aR, aO, aN, aG, aT, aC, bD, aV, aF, bE, aE, aL, aD, aX, aU, aB, bY, dH, dW, dN, dF, dC, d1, d2]
    exact hR _ x1
  have d2 : decide ((200 : Int) < (b.length : Int)) = false := by simp; omega
  have n1 : ((1 : Int) != 1) = false := rfl
  have n0 : ((0 : Int) != 0) = false := rfl
  have n0' : decide ((0 : Int) < ((0 : Nat) : Int)) = false := rfl
  simp (disch := omega) only [bP, dE, aY, bB, cR, cD, cI, cE, dA, cM, dL, cJ, bK, cS, cO, cZ, cL, cK, cU, cY, cT, cV, cP, cX, bS, cC, cN, cW, fD, fI, fA, fC, fF, fB, fE, eZ, fG, bJ, Result.ok.injEq, Next.value.injEq, true_and, and_true, cB, cF, cQ, cH, cG, dK, Int.toNat_natCast, bV, bR, bT, bU, bM, bL, bN, bH, bG, bF, if_true, if_false, Bool.false_eq_true, Nat.zero_add, Option.isNone_some, Option.isNone_none, Bool.not_true, Bool.not_false, List.getElem?_cons_succ, List.getElem?_cons_zero, aS, aJ, aP, aW, aZ, aQ, bQ, aA, aM, aH, aI, aK, bA, bC, bO, aR, aO, aN, aG, aT, aC, bD, aV, aF, bE, aE, aL, aD, aX, aU, aB, bY, dH, dW, dN, dF, dC, d1, d2]
  refine (zB 1 w1).mono ?_
  rintro r wx ⟨rfl, hw⟩
  rw [hw]; clear hw wx
  refine (xV _ w1).mono ?_
  rintro r wx ⟨rfl, hw⟩
  rw [hw]; clear hw wx
  refine (yZ _ w1).mono ?_
  rintro r wx ⟨rfl, hw⟩
  rw [hw]; clear hw wx
  simp (disch := omega) only [bP, dE, aY, bB, cR, cD, cI, cE, dA, cM, dL, cJ, bK, cS, cO, cZ, cL, cK, cU, cY, cT, cV, cP, cX, bS, cC, cN, cW, fD, fI, fA, fC, fF, fB, fE, eZ, fG, bJ, Result.ok.injEq, Next.value.injEq, true_and, and_true, cB, cF, cQ, cH, cG, dK, Int.toNat_natCast, bV, bR, bT, bU, bM, bL, bN, bH, bG, bF, if_true, if_false, Bool.false_eq_true, Nat.zero_add, Option.isNone_some, Option.isNone_none, Bool.not_true, Bool.not_false, List.getElem?_cons_succ, List.getElem?_cons_zero, aS, aJ, aP, aW, aZ, aQ, bQ, aA, aM, aH, aI, aK, bA, bC, bO, aR, aO, aN, aG, aT, aC, bD, aV, aF, bE, aE, aL, aD, aX, aU, aB, bY, dH, dW, dN, dF, dC, n1]
  refine (xL _ _ _ w1).mono ?_
  rintro r wx ⟨rfl, hw⟩
  rw [hw]; clear hw wx
  simp (disch := omega) only [bP, dE, aY, bB, cR, cD, cI, cE, dA, cM, dL, cJ, bK, cS, cO, cZ, cL, cK, cU, cY, cT, cV, cP, cX, bS, cC, cN, cW, fD, fI, fA, fC, fF, fB, fE, eZ, fG, bJ, Result.ok.injEq, Next.value.injEq, true_and, and_true, cB, cF, cQ, cH, cG, dK, Int.toNat_natCast, bV, bR, bT, bU, bM, bL, bN, bH, bG, bF, if_true, if_false, Bool.false_eq_true, Nat.zero_add, Option.isNone_some, Option.isNone_none, Bool.not_true, Bool.not_false, List.getElem?_cons_succ, List.getElem?_cons_zero, aS, aJ, aP, aW, aZ, aQ, bQ, aA, aM, aH, aI, aK, bA, bC, bO, aR, aO, aN, aG, aT, aC, bD, aV, aF, bE, aE, aL, aD, aX, aU, aB, bY, dH, dW, dN, dF, dC, n1]
  refine (wI _ _ w1).mono ?_
  rintro r wx ⟨rfl, hw⟩
  rw [hw]; clear hw wx
  simp (disch := omega) only [bP, dE, aY, bB, cR, cD, cI, cE, dA, cM, dL, cJ, bK, cS, cO, cZ, cL, cK, cU, cY, cT, cV, cP, cX, bS, cC, cN, cW, fD, fI, fA, fC, fF, fB, fE, eZ, fG, bJ, Result.ok.injEq, Next.value.injEq, true_and, and_true, cB, cF, cQ, cH, cG, dK, Int.toNat_natCast, bV, bR, bT, bU, bM, bL, bN, bH, bG, bF, if_true, if_false, Bool.false_eq_true, Nat.zero_add, Option.isNone_some, Option.isNone_none, Bool.not_true, Bool.not_false, List.getElem?_cons_succ, List.getElem?_cons_zero, aS, aJ, aP, aW, aZ, aQ, bQ, aA, aM, aH, aI, aK, bA, bC, bO, aR, aO, aN, aG, aT, aC, bD, aV, aF, bE, aE, aL, aD, aX, aU, aB, bY, dH, dW, dN, dF, dC, n1]
  refine (wG _ w1).mono ?_
  rintro r wx ⟨rfl, hw⟩
  rw [hw]; clear hw wx
  simp (disch := omega) only [bP, dE, aY, bB, cR, cD, cI, cE, dA, cM, dL, cJ, bK, cS, cO, cZ, cL, cK, cU, cY, cT, cV, cP, cX, bS, cC, cN, cW, fD, fI, fA, fC, fF, fB, fE, eZ, fG, bJ, Result.ok.injEq, Next.value.injEq, true_and, and_true, cB, cF, cQ, cH, cG, dK, Int.toNat_natCast, bV, bR, bT, bU, bM, bL, bN, bH, bG, bF, if_true, if_false, Bool.false_eq_true, Nat.zero_add, Option.isNone_some, Option.isNone_none, Bool.not_true, Bool.not_false, List.getElem?_cons_succ, List.getElem?_cons_zero, aS, aJ, aP, aW, aZ, aQ, bQ, aA, aM, aH, aI, aK, bA, bC, bO, aR, aO, aN, aG, aT, aC, bD, aV, aF, bE, aE, aL, aD, aX, aU, aB, bY, dH, dW, dN, dF, dC, n1]
  refine (zM w1).mono ?_
  rintro r wx ⟨rfl, hw⟩
  rw [hw]; clear hw wx
  simp (disch := omega) only [bP, dE, aY, bB, cR, cD, cI, cE, dA, cM, dL, cJ, bK, cS, cO, cZ, cL, cK, cU, cY, cT, cV, cP, cX, bS, cC, cN, cW, fD, fI, fA, fC, fF, fB, fE, eZ, fG, bJ, Result.ok.injEq, Next.value.injEq, true_and, and_true, cB, cF, cQ, cH, cG, dK, Int.toNat_natCast, bV, bR, bT, bU, bM, bL, bN, bH, bG, bF, if_true, if_false, Bool.false_eq_true, Nat.zero_add, Option.isNone_some, Option.isNone_none, Bool.not_true, Bool.not_false, List.getElem?_cons_succ, List.getElem?_cons_zero, aS, aJ, aP, aW, aZ, aQ, bQ, aA, aM, aH, aI, aK, bA, bC, bO, aR, aO, aN, aG, aT, aC, bD, aV, aF, bE, aE, aL, aD, aX, aU, aB, bY, dH, dW, dN, dF, dC, n1]
  refine (vA w1).mono ?_
  rintro r wx ⟨rfl, hw⟩
  rw [hw]; clear hw wx
  simp (disch := omega) only [bP, dE, aY, bB, cR, cD, cI, cE, dA, cM, dL, cJ, bK, cS, cO, cZ, cL, cK, cU, cY, cT, cV, cP, cX, bS, cC, cN, cW, fD, fI, fA, fC, fF, fB, fE, eZ, fG, bJ, Result.ok.injEq, Next.value.injEq, true_and, and_true, cB, cF, cQ, cH, cG, dK, Int.toNat_natCast, bV, bR, bT, bU, bM, bL, bN, bH, bG, bF, if_true, if_false, Bool.false_eq_true, Nat.zero_add, Option.isNone_some, Option.isNone_none, Bool.not_true, Bool.not_false, List.getElem?_cons_succ, List.getElem?_cons_zero, aS, aJ, aP, aW, aZ, aQ, bQ, aA, aM, aH, aI, aK, bA, bC, bO, aR, aO, aN, aG, aT, aC, bD, aV, aF, bE, aE, aL, aD, aX, aU, aB, bY, dH, dW, dN, dF, dC, n0]
  refine (xG w1).mono ?_
  rintro r wx ⟨rfl, hw⟩
  rw [hw]; clear hw wx
  simp (disch := omega) only [bP, dE, aY, bB, cR, cD, cI, cE, dA, cM, dL, cJ, bK, cS, cO, cZ, cL, cK, cU, cY, cT, cV, cP, cX, bS, cC, cN, cW, fD, fI, fA, fC, fF, fB, fE, eZ, fG, bJ, Result.ok.injEq, Next.value.injEq, true_and, and_true, cB, cF, cQ, cH, cG, dK, Int.toNat_natCast, bV, bR, bT, bU, bM, bL, bN, bH, bG, bF, if_true, if_false, Bool.false_eq_true, Nat.zero_add, Option.isNone_some, Option.isNone_none, Bool.not_true, Bool.not_false, List.getElem?_cons_succ, List.getElem?_cons_zero, aS, aJ, aP, aW, aZ, aQ, bQ, aA, aM, aH, aI, aK, bA, bC, bO, aR, aO, aN, aG, aT, aC, bD, aV, aF, bE, aE, aL, aD, aX, aU, aB, bY, dH, dW, dN, dF, dC, n0']
  refine (yY (room := 1000) (by omega) (by omega)).mono ?_
  rintro r w2 ⟨p, X, rfl, h2, hX2, x2⟩
  have x02 := x1.seq x2
  have z2 := x2.size
  have big2 : ∀ b, X b → w.heap.size ≤ b := fun b h => by have := hX2 b h; omega
  have hm : qZ nF = true := by decide
  have W1 : yI (yX 1000) nF 0 a = (⟨1000, [], [(nF, a)], [⟨0, nF, ⟨#[]⟩, 0, a⟩], -1, false⟩, 0) := by
    have := wV (room := 1000) (left := -1) (su := []) (c := []) (u := []) (name := nF) (a := 0) (l := a) (old := []) hm rfl (by simp) (by show ((0 + (0 + a.length - 0) : Nat) : Int) ≤ 1000; omega)
    refine this.trans ?_
    rw [AA]
    have : qE ⟨0, nF, ⟨#[]⟩, 0, a⟩ [] = [(nF, over [] 0 a)] := rfl
    rw [this, uV] <;> rfl
  have fa : dU [(nF, a)] = a.length := by show a.length + 0 = _; omega
  have B0 : xJ (yX 1000) := AT (by omega) (by show 0 ≤ _; omega) (by simp) (by omega)
  have B1 : xJ ⟨1000, [], [(nF, a)], [⟨0, nF, ⟨#[]⟩, 0, a⟩], -1, false⟩ := AT (by omega) (by omega) (by simp) (by omega)
  simp (disch := omega) only [bP, dE, aY, bB, cR, cD, cI, cE, dA, cM, dL, cJ, bK, cS, cO, cZ, cL, cK, cU, cY, cT, cV, cP, cX, bS, cC, cN, cW, fD, fI, fA, fC, fF, fB, fE, eZ, fG, bJ, Result.ok.injEq, Next.value.injEq, true_and, and_true, cB, cF, cQ, cH, cG, dK, Int.toNat_natCast, bV, bR, bT, bU, bM, bL, bN, bH, bG, bF, if_true, if_false, Bool.false_eq_true, Nat.zero_add, Option.isNone_some, Option.isNone_none, Bool.not_true, Bool.not_false, List.getElem?_cons_succ, List.getElem?_cons_zero, aS, aJ, aP, aW, aZ, aQ, bQ, aA, aM, aH, aI, aK, bA, bC, bO, aR, aO, aN, aG, aT, aC, bD, aV, aF, bE, aE, aL, aD, aX, aU, aB, bY, dH, dW, dN, dF, dC]
  refine (sM (a := 0) (l := a) (name := nF) h2 B0 (ha.ext x02 (jW _)) (by omega) (by omega) (by omega)).mono ?_
  rintro r w3 ⟨rfl, hp3⟩
  rw [W1] at hp3 ⊢
  obtain ⟨X3, D3, h3, hX3, hD3, x3⟩ := hp3
  have x03 : dJ w w3 jU := dJ.big x02 x3 big2
  have big3 : ∀ b, X3 b → w.heap.size ≤ b := fun b h => by rcases hX3 b h with h | h; exact big2 b h; have := x02.size; omega
  refine (yS h3 B1).mono ?_
  rintro r w4 ⟨rfl, hp4⟩
  have W2 : AZ ⟨1000, [], [(nF, a)], [⟨0, nF, ⟨#[]⟩, 0, a⟩], -1, false⟩ = (⟨1000, [(nF, a)], [(nF, a)], [], -1, false⟩, 0) := rfl
  rw [W2] at hp4 ⊢
  obtain ⟨X4, D4, h4, hX4, hD4, x4⟩ := hp4
  have x04 : dJ w w4 jU := dJ.big x03 x4 big3
  have big4 : ∀ b, X4 b → w.heap.size ≤ b := fun b h => by rcases hX4 b h with h | h; exact big3 b h; have := x03.size; omega
  have e1 : (st : Int).tmod 3 = ((st % 3 : Nat) : Int) := by rw [Int.tmod_eq_emod_of_nonneg (by omega)]; omega
  have hs3 : st % 3 < 3 := Nat.mod_lt _ (by omega)
  obtain ⟨s, hs⟩ : ∃ s, st % 3 = s := ⟨_, rfl⟩
  rw [hs] at e1 hs3
  simp (disch := omega) only [bP, dE, aY, bB, cR, cD, cI, cE, dA, cM, dL, cJ, bK, cS, cO, cZ, cL, cK, cU, cY, cT, cV, cP, cX, bS, cC, cN, cW, fD, fI, fA, fC, fF, fB, fE, eZ, fG, bJ, Result.ok.injEq, Next.value.injEq, true_and, and_true, cB, cF, cQ, cH, cG, dK, Int.toNat_natCast, bV, bR, bT, bU, bM, bL, bN, bH, bG, bF, if_true, if_false, Bool.false_eq_true, Nat.zero_add, Option.isNone_some, Option.isNone_none, Bool.not_true, Bool.not_false, List.getElem?_cons_succ, List.getElem?_cons_zero, aS, aJ, aP, aW, aZ, aQ, bQ, aA, aM, aH, aI, aK, bA, bC, bO, aR, aO, aN, aG, aT, aC, bD, aV, aF, bE, aE, aL, aD, aX, aU, aB, bY, dH, dW, dN, dF, dC, e1]
  refine (AI (a := (s : Nat)) h4).mono ?_
  rintro r w5 ⟨rfl, hp5⟩
  have emx : max (s : Int) (-1) = (s : Int) := by omega
  rw [emx] at hp5
  obtain ⟨X5, D5, h5, hX5, hD5, x5⟩ := hp5
  have x05 : dJ w w5 jU := dJ.big x04 x5 big4
  have big5 : ∀ b, X5 b → w.heap.size ≤ b := fun b h => by rcases hX5 b h with h | h; exact big4 b h; have := x04.size; omega
  obtain ⟨S6, S7, eh, ei, c, hS⟩ := Aj (a := a) (b := b) (by omega) (by omega) hs3 keep
  have B5 : xJ ⟨1000, [(nF, a)], [(nF, a)], [], s, false⟩ := AT (by omega) (by omega) (by simp) (by omega)
  refine (sM (a := ((0 : Nat) : Int)) (l := b) (name := nG) h5 B5 (hb.ext x05 (jW _)) (by omega) (by omega) (by omega)).mono ?_
  rintro r w6 ⟨rfl, hp6⟩
  rw [hS.wr] at hp6 ⊢
  obtain ⟨X6, D6, h6, hX6, hD6, x6⟩ := hp6
  have h6 : fN w6 p X6 D6 S6 := h6
  have x06 : dJ w w6 jU := dJ.big x05 x6 big5
  have big6 : ∀ b, X6 b → w.heap.size ≤ b := fun b h => by rcases hX6 b h with h | h; exact big5 b h; have := x05.size; omega
  refine (yC (old := nG) (name := nF) h6 hS.b4).mono ?_
  rintro r w7 ⟨rfl, hp7⟩
  rw [hS.rn] at hp7 ⊢
  obtain ⟨X7, D7, h7, hX7, hD7, x7⟩ := hp7
  have h7 : fN w7 p X7 D7 S7 := h7
  have x07 : dJ w w7 jU := dJ.big x06 x7 big6
  have big7 : ∀ b, X7 b → w.heap.size ≤ b := fun b h => by rcases hX7 b h with h | h; exact big6 b h; have := x06.size; omega
  refine wB (cells := #[.bool keep, .bool keep]) (by decide) (by decide) (by kernel_rfl) fun w8 o8 x8 s8 => ?_
  have x08 := x07.seq x8
  have hk8 : Sl w8 (.slice (some ⟨w7.heap.size, 0, none⟩) 2 2) ([keep, keep].map Value.bool) := ⟨_, _, _, rfl, rfl, Nat.le_refl _, fun _ => ⟨_, _, rfl, fun i hi => by rw [o8.cell, Nat.zero_add] <;> rfl⟩⟩
  refine (wT (ks := [keep, keep]) (h7.new x8) hk8 (fun h => by
    have h : X7 w7.heap.size := h
    have := fN.lt h7 _ (fN.xd h7 _ h)
    omega) (by simp) hS.b5 (fun j hj => by have := hS.sz j hj; omega) hS.op).mono ?_
  rintro r w9 ⟨rfl, hp9⟩
  obtain ⟨X9, D9, h9, hX9, hD9, x9⟩ := hp9
  have x09 : dJ w w9 jU := dJ.big x08 x9 big7
  have B9 : xJ (A5 S7 [keep, keep]) := by
    have q1 := hS.sz _ (Nat.le_refl _)
    have q2 := hS.rm
    exact AT (su := tW S7.under [keep, keep] S7.sure S7.under.length) (c := tW S7.under [keep, keep] S7.sure S7.under.length) (u := []) (d := false) (room := S7.room) (l := -1) (by omega) (by omega) (by simp) (by omega)
  refine (tV (name := nF) h9 B9 (fun b hb => by rw [hS.cr] at hb; cases hb; have := hS.cl; omega)).mono ?_
  rintro r wa ⟨hr, xa⟩
  rcases hr with ⟨h, _⟩ | ⟨_, hg, _⟩ | ⟨_, b', v, hg, rfl, ho⟩
  · cases h
  · rw [hS.cr] at hg; cases hg
  rw [hS.cr] at hg
  cases hg
  obtain ⟨va, vc, rfl⟩ := ho.len
  have x0a := x09.seq xa
  have hcv := gM (show Bs wa (.slice va c.length vc) c from ho.sl)
  have hav := gM (ha.ext x0a (jW _))
  have hbv := gM (hb.ext x0a (jW _))
  have q0 : ((0 : Int) == 0) = true := rfl
  have q20 : ((20 : Int) == 20) = true := rfl
  have same : ∀ l : List UInt8, ((⟨l.toArray⟩ : ByteArray).toList == (⟨l.toArray⟩ : ByteArray).toList) = true := fun l => by simp
  rcases (show s = 0 ∨ s = 1 ∨ s = 2 by omega) with rfl | rfl | rfl
  · obtain ⟨rfl, rfl, rfl⟩ := hS.h0 rfl
    have m0 : (((0 : Nat) : Int) == 0) = true := rfl
    simp (disch := omega) only [bP, dE, aY, bB, cR, cD, cI, cE, dA, cM, dL, cJ, bK, cS, cO, cZ, cL, cK, cU, cY, cT, cV, cP, cX, bS, cC, cN, cW, fD, fI, fA, fC, fF, fB, fE, eZ, fG, bJ, Result.ok.injEq, Next.value.injEq, true_and, and_true, cB, cF, cQ, cH, cG, dK, Int.toNat_natCast, bV, bR, bT, bU, bM, bL, bN, bH, bG, bF, if_true, if_false, Bool.false_eq_true, Nat.zero_add, Option.isNone_some, Option.isNone_none, Bool.not_true, Bool.not_false, List.getElem?_cons_succ, List.getElem?_cons_zero, aS, aJ, aP, aW, aZ, aQ, bQ, aA, aM, aH, aI, aK, bA, bC, bO, aR, aO, aN, aG, aT, aC, bD, aV, aF, bE, aE, aL, aD, aX, aU, aB, bY, dH, dW, dN, dF, dC, n0, e1, m0, q20, hcv, hav, rV, same]
    exact hR _ x0a
  · obtain ⟨rfl, rfl, rfl⟩ := hS.h1 rfl
    have m0 : (((1 : Nat) : Int) == 0) = false := rfl
    have m1 : (((1 : Nat) : Int) == 1) = true := rfl
    simp (disch := omega) only [bP, dE, aY, bB, cR, cD, cI, cE, dA, cM, dL, cJ, bK, cS, cO, cZ, cL, cK, cU, cY, cT, cV, cP, cX, bS, cC, cN, cW, fD, fI, fA, fC, fF, fB, fE, eZ, fG, bJ, Result.ok.injEq, Next.value.injEq, true_and, and_true, cB, cF, cQ, cH, cG, dK, Int.toNat_natCast, bV, bR, bT, bU, bM, bL, bN, bH, bG, bF, if_true, if_false, Bool.false_eq_true, Nat.zero_add, Option.isNone_some, Option.isNone_none, Bool.not_true, Bool.not_false, List.getElem?_cons_succ, List.getElem?_cons_zero, aS, aJ, aP, aW, aZ, aQ, bQ, aA, aM, aH, aI, aK, bA, bC, bO, aR, aO, aN, aG, aT, aC, bD, aV, aF, bE, aE, aL, aD, aX, aU, aB, bY, dH, dW, dN, dF, dC, n0, e1, m0, m1, q0, q20, hcv, hav, rV, same]
    exact hR _ x0a
  · obtain ⟨rfl, rfl, hc⟩ := hS.h2 rfl
    have m0 : (((2 : Nat) : Int) == 0) = false := rfl
    have m1 : (((2 : Nat) : Int) == 1) = false := rfl
    unfold gR
    cases keep with
    | true =>
      have hc : c = b := hc
      subst hc
      simp (disch := omega) only [bP, dE, aY, bB, cR, cD, cI, cE, dA, cM, dL, cJ, bK, cS, cO, cZ, cL, cK, cU, cY, cT, cV, cP, cX, bS, cC, cN, cW, fD, fI, fA, fC, fF, fB, fE, eZ, fG, bJ, Result.ok.injEq, Next.value.injEq, true_and, and_true, cB, cF, cQ, cH, cG, dK, Int.toNat_natCast, bV, bR, bT, bU, bM, bL, bN, bH, bG, bF, if_true, if_false, Bool.false_eq_true, Nat.zero_add, Option.isNone_some, Option.isNone_none, Bool.not_true, Bool.not_false, List.getElem?_cons_succ, List.getElem?_cons_zero, aS, aJ, aP, aW, aZ, aQ, bQ, aA, aM, aH, aI, aK, bA, bC, bO, aR, aO, aN, aG, aT, aC, bD, aV, aF, bE, aE, aL, aD, aX, aU, aB, bY, dH, dW, dN, dF, dC, n0, e1, m0, m1, q0, q20, hcv, hbv, rV, same]
      exact hR _ x0a
    | false =>
      have hc : c = a := hc
      subst hc
      simp (disch := omega) only [bP, dE, aY, bB, cR, cD, cI, cE, dA, cM, dL, cJ, bK, cS, cO, cZ, cL, cK, cU, cY, cT, cV, cP, cX, bS, cC, cN, cW, fD, fI, fA, fC, fF, fB, fE, eZ, fG, bJ, Result.ok.injEq, Next.value.injEq, true_and, and_true, cB, cF, cQ, cH, cG, dK, Int.toNat_natCast, bV, bR, bT, bU, bM, bL, bN, bH, bG, bF, if_true, if_false, Bool.false_eq_true, Nat.zero_add, Option.isNone_some, Option.isNone_none, Bool.not_true, Bool.not_false, List.getElem?_cons_succ, List.getElem?_cons_zero, aS, aJ, aP, aW, aZ, aQ, bQ, aA, aM, aH, aI, aK, bA, bC, bO, aR, aO, aN, aG, aT, aC, bD, aV, aF, bE, aE, aL, aD, aX, aU, aB, bY, dH, dW, dN, dF, dC, n0, e1, m0, m1, q0, q20, hcv, hav, rV, same]
      exact hR _ x0a
end Go.Proofs.Ytmhokapokchneaa
namespace Go.En
open Go Go.ChangeShapes Go.WideShapes Go.ChangeAt Go.RowKit
theorem sW {H : Type} {enc : TypeId × Value → H} {P : Program} (hl : laidOutB P = true) {W W' : World} (hb : Below W.heap.size W W') : ∀ (ts : List TypeId) (vs : List Value) (ds : List (DataW H)) (ps : List MemPlace),
    (ts.all fun t => P.readableRec t && decide (t < P.types.size)) = true → DataW.TrodAll enc P W 0 (fun _ => true) true ts vs ds ps → (∀ x ∈ ps, x.block < W.heap.size) →
    DataW.TrodAll enc P W' 0 (fun b => decide (b < W.heap.size)) true ts vs ds ps := by
  intro ts
  induction ts with
  | nil =>
    intro vs ds ps _ h _
    cases vs <;> cases ds <;> simp [DataW.TrodAll] at h ⊢
    exact h
  | cons t ts ih =>
    intro vs ds ps hr h hlt
    cases vs with
    | nil => simp [DataW.TrodAll] at h
    | cons v vs =>
      cases ds with
      | nil => simp [DataW.TrodAll] at h
      | cons d ds =>
        obtain ⟨p, q, h1, h2, rfl⟩ := h
        rw [List.all_cons, Bool.and_eq_true, Bool.and_eq_true, decide_eq_true_eq] at hr
        exact ⟨p, q, Below.trod hl hr.1.1 hr.1.2 h1 hb (fun x hx => hlt x (List.mem_append_left _ hx)), ih _ _ _ hr.2 h2 (fun x hx => hlt x (List.mem_append_right _ hx)), rfl⟩
theorem yJ {H : Type} {enc : TypeId × Value → H} {P : Program} {f : Func} {s : ChangeSpec} {apart fresh handsOn : Bool} {tb : TypeId} {W W' : World} {args : Array Value} {ds gs : List (DataW H)} {before : List MemPlace}
    (hl : laidOutB P = true) (hr : (f.params.toList.all fun t => P.readableRec t && decide (t < P.types.size)) = true) (hres : f.resultTypes = #[tb]) (hbool : P.underlying tb = some .bool)
    (hW : DataW.Whole enc P f.params.toList s.vars apart W args.toList ds gs before) (hvars : s.vars = []) (h1 : (s.fn H (ds ++ gs)).results = [.lit (.bool true)]) (h2 : (s.fn H (ds ++ gs)).args = ds) (h3 : (s.fn H (ds ++ gs)).vars = [])
    (hx : dJ W W' jU) : s.post enc P f apart fresh handsOn false W args (.bool true) W' := by
  have hb := hx.below
  have hlt : ∀ x ∈ before, x.block < W.heap.size := fun x hx => hW.lt x hx
  have hW' := hW
  obtain ⟨p, q, hA, hV, rfl, _, _⟩ := hW
  rw [hvars] at hV
  obtain ⟨_, rfl⟩ := trodVars_none hV
  rw [List.append_nil] at hW' hlt
  refine ⟨ds, gs, p, [], p, [], hW', ?_, ?_, ?_, hb.frame _, fun h => by cases h⟩
  · rw [h1, hres]
    exact trodAll_cons_mk (shut_bool hbool _) trodAll_mk0
  · rw [h2]; exact sW hl hb _ _ _ _ hr hA hlt
  · rw [h3, hvars] <;> rfl
theorem wO {H : Type} {enc : TypeId × Value → H} {P : Program} {W : World} {base b0 : Nat} {r : Reach} {sp : Nat → Bool} {hd : Bool} {t e : TypeId} {k : IntKind} {v : Value} {d : DataW H} {ps : List MemPlace} (ht : P.underlying t = some (.slice e)) (he : P.underlying e = some (.int k)) (hc : P.cellsOf e = 1)
    (hval : Value.okWide P W r b0 t v) (h : DataW.Trod enc P W base sp hd t v d ps) :
    ∃ zs : List Int, Sl W v (zs.map (Value.int k)) ∧ zs.length ≤ 9223372036854775807 ∧ ∀ z ∈ zs, (Lit.int k z).wf = true := by
  obtain ⟨a0, len, cap, rfl⟩ := okWide_slice ht hval
  obtain ⟨fuel, hf⟩ := h
  rcases open_ints ht he hc hf with ⟨hcs, -⟩ | ⟨a, len', cap', zs, hcs, _, hl, hm, hz, -, hcell, hwz⟩
  · have : Value.slice a0 len cap = .slice none 0 0 := by simpa [Value.cells] using hcs
    cases this
    exact ⟨[], ⟨none, 0, 0, rfl, rfl, Nat.le_refl _, fun h => absurd h (by simp)⟩, by simp, by simp⟩
  · have : Value.slice a0 len cap = .slice (some a) len' cap' := by simpa [Value.cells] using hcs
    cases this
    unfold maxLen at hm
    have hle : len ≤ zs.length := by rw [hz]; split <;> omega
    refine ⟨zs.take len, ⟨some a, len, cap, rfl, by rw [List.length_map, List.length_take]; omega, hl, fun h0 => ?_⟩, by rw [List.length_take]; omega, fun z hz => hwz z (List.mem_of_mem_take hz)⟩
    obtain ⟨b, off, spot⟩ := a
    have hs : spot = none := by
      have h0 := hcell 0 (by omega)
      unfold World.cell? at h0
      split at h0
      · cases spot
        · rfl
        · simp [Addr.add] at h0
      · cases h0
    subst hs
    refine ⟨b, off, rfl, fun i hi => ?_⟩
    rw [← mM, hcell i (by omega), List.getElem?_map, List.getElem?_take_of_lt hi, List.getD_eq_getElem?_getD, List.getElem?_eq_getElem (by omega)]
    rfl
theorem uQ (zs : List Int) (h : ∀ z ∈ zs, (Lit.int .u8 z).wf = true) : ∃ l : List UInt8, zs.map (Value.int .u8) = l.map pW ∧ l.length = zs.length := by
  refine ⟨zs.map fun z => UInt8.ofNat z.toNat, ?_, by simp⟩
  rw [List.map_map]
  refine List.map_congr_left fun z hz => ?_
  have := h z hz
  have hx : 0 ≤ z ∧ z ≤ 255 := by simpa [Lit.wf, IntKind.min, IntKind.max, IntKind.signed, IntKind.bits] using this
  show _ = pW (UInt8.ofNat z.toNat)
  unfold pW
  rw [UInt8.toNat_ofNat']
  congr 1
  omega
end Go.En
