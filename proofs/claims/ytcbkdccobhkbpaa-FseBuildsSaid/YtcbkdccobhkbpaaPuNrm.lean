/- Plain laws: how often symbols are, in parts of a power of two. -/
import Derived.Test.YtcbkdccobhkbpaaEnKit
namespace Go.Pu
set_option linter.unusedVariables false

def partsI (p : Int) : Int := if p < 0 then 1 else p
def fits : Int → List Int → Bool
  | left, [] => left == 0
  | left, p :: r => if p < -1 ∨ left < partsI p then false else fits (left - partsI p) r
def sumP (ps : List Int) : Int := (ps.map partsI).sum
def headB (log : Int) (ps : List Int) : Bool := decide (5 ≤ log ∧ log ≤ 15 ∧ 1 ≤ ps.length ∧ ps.length ≤ 256 ∧ ps.getLast? ≠ some 0)
def mayB (log : Int) (ps : List Int) : Bool := headB log ps && fits (2 ^ log.toNat) ps

theorem sumP_cons (p : Int) (ps : List Int) : sumP (p :: ps) = partsI p + sumP ps := by simp [sumP]
theorem sumP_append (a b : List Int) : sumP (a ++ b) = sumP a + sumP b := by simp [sumP]
theorem partsI_nonneg {p : Int} (h : -1 ≤ p) : 0 ≤ partsI p := by unfold partsI; split <;> omega
theorem sumP_nonneg {ps : List Int} (h : ∀ p ∈ ps, -1 ≤ p) : 0 ≤ sumP ps := by
  induction ps with
  | nil => simp [sumP]
  | cons p r ih =>
    rw [sumP_cons]
    have := partsI_nonneg (h p (by simp))
    have := ih fun q hq => h q (List.mem_cons_of_mem _ hq)
    omega
theorem fits_iff : ∀ {ps : List Int} {left : Int}, fits left ps = true ↔ (∀ p ∈ ps, -1 ≤ p) ∧ sumP ps = left
  | [], left => by simp [fits, sumP]; constructor <;> intro h <;> omega
  | p :: r, left => by
    rw [fits, sumP_cons]
    by_cases h : p < -1 ∨ left < partsI p
    · rw [if_pos h]
      constructor
      · intro h; cases h
      · rintro ⟨h1, h2⟩
        have hp := h1 p (by simp)
        have := sumP_nonneg (ps := r) fun q hq => h1 q (List.mem_cons_of_mem _ hq)
        omega
    · rw [if_neg h, fits_iff]
      constructor
      · rintro ⟨h1, h2⟩
        exact ⟨fun q hq => by rcases List.mem_cons.1 hq with rfl | hq; · omega
                              · exact h1 q hq, by omega⟩
      · rintro ⟨h1, h2⟩
        exact ⟨fun q hq => h1 q (List.mem_cons_of_mem _ hq), by omega⟩

/-- Counts that may be. -/
structure May (log : Nat) (ps : List Int) : Prop where
  log5 : 5 ≤ log
  log15 : log ≤ 15
  len1 : 1 ≤ ps.length
  len256 : ps.length ≤ 256
  last : ps.getLast? ≠ some 0
  low : ∀ p ∈ ps, -1 ≤ p
  sum : sumP ps = 2 ^ log

theorem may_of {log : Int} {ps : List Int} (h : mayB log ps = true) : ∃ l : Nat, log = l ∧ May l ps := by
  unfold mayB headB at h
  simp only [Bool.and_eq_true, decide_eq_true_eq] at h
  obtain ⟨⟨h1, h2, h3, h4, h5⟩, h6⟩ := h
  obtain ⟨l, rfl⟩ : ∃ l : Nat, log = l := ⟨log.toNat, by omega⟩
  rw [fits_iff, Int.toNat_natCast] at h6
  exact ⟨l, rfl, by omega, by omega, h3, h4, h5, h6.1, h6.2⟩
theorem May.b {log : Nat} {ps : List Int} (h : May log ps) : mayB log ps = true := by
  unfold mayB headB
  simp only [Bool.and_eq_true, decide_eq_true_eq]
  have h1 := h.log5
  have h2 := h.log15
  refine ⟨⟨by omega, by omega, h.len1, h.len256, h.last⟩, ?_⟩
  rw [fits_iff, Int.toNat_natCast]
  exact ⟨h.low, h.sum⟩
theorem pow_le15 {log : Nat} (h : log ≤ 15) : (2 : Int) ^ log ≤ 32768 := by
  have : 2 ^ log ≤ 2 ^ 15 := Nat.pow_le_pow_right (by omega) h
  have e : ((2 ^ log : Nat) : Int) = (2 : Int) ^ log := by simp
  omega
theorem pow_pos' (log : Nat) : (1 : Int) ≤ 2 ^ log := by
  have : 1 ≤ 2 ^ log := Nat.one_le_two_pow
  have e : ((2 ^ log : Nat) : Int) = (2 : Int) ^ log := by simp
  omega
theorem part_le {ps : List Int} (h : ∀ p ∈ ps, -1 ≤ p) {p : Int} (hp : p ∈ ps) : partsI p ≤ sumP ps := by
  induction ps with
  | nil => cases hp
  | cons q r ih =>
    rw [sumP_cons]
    have h0 := partsI_nonneg (h q (by simp))
    have h1 := sumP_nonneg (ps := r) fun q hq => h q (List.mem_cons_of_mem _ hq)
    rcases List.mem_cons.1 hp with rfl | hp
    · omega
    · have := ih (fun q hq => h q (List.mem_cons_of_mem _ hq)) hp
      omega
end Go.Pu
