/- []T{} with nothing in it; where a slice lies. -/
import Derived.Test.YtoepfjgekpdddaaEnKit
namespace Go.En
open Go
set_option linter.unusedVariables false
section
variable {P : Program} {w : World} {t e : TypeId}

theorem stp_bslice0 {i : TypeInfo} (hu : P.underlying t = some (.slice e)) (hi : P.info? e = some i)
    {K : Value → World → Prop} (hk : ∀ w', Own w' w.heap.size [] → Ext w w' nob → w'.heap.size = w.heap.size + 1 → K (.slice (some ⟨w.heap.size, 0, none⟩) 0 0) w') :
    Stp P (sBuildSlice t 0 []) w K := by
  have : (sBuildSlice t 0 []).run P w = .ok (.value (.slice (some ⟨w.heap.size, 0, none⟩) 0 0)) (w.alloc (.cells ([] : List Value).toArray e)) := by
    unfold sBuildSlice; rw [runV]
    have h1 : ¬ (0 > 2 ^ 24) := by omega
    have e : ∀ f : Nat → Value, Array.map f (Array.range 0) = #[] := fun f => by simp
    simp only [Instr.buildSlice, underlying, pure_bind, Sem.run_bind, run_program, Result.andThen_ok, hu, Sem.run_pure, sizeOf_run hi, Nat.zero_mul, h1, if_false, if_true, newRow, run_newObj, Instr.fill, e]
    rfl
  unfold Stp
  rw [this]
  exact hk _ (Own.alloc _ _ _) (Ext.alloc _ _ _) (by simp)

/-- a slice of a block of its own -/
def At (v : Value) (b : Nat) : Prop := ∀ M : Nat → Prop, ¬ M b → ¬ inB v M
theorem At.nil (c b : Nat) (a : Option Addr) : At (.slice a 0 c) b := fun M h => by unfold inB; split <;> simp_all
theorem At.at (b o n c : Nat) : At (.slice (some ⟨b, o, none⟩) n c) b := fun M h => by
  unfold inB; split
  · rename_i x m _ e
    obtain ⟨rfl, _⟩ : (⟨b, o, none⟩ : Addr) = x ∧ _ := by simpa using e
    exact h
  · simp
theorem OSl.at' {w : World} {base sz n : Nat} {v : Value} {l : List Value} (h : OSl w base sz v n l) (hb : base < w.heap.size) : ∃ b, base ≤ b ∧ b < w.heap.size ∧ At v b := by
  rcases h.2 with ⟨rfl, rfl⟩ | ⟨b, c, rest, rfl, h2, h3, h4, h5⟩
  · exact ⟨base, Nat.le_refl _, hb, At.nil _ _ _⟩
  · exact ⟨b, h2, h3.lt, At.at _ _ _ _⟩
end
end Go.En
