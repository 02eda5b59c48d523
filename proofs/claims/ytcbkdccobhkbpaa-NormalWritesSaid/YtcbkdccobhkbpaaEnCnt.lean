/- The engine: a struct of an integer and a slice of integers that came in. -/
import Derived.Test.YtcbkdccobhkbpaaEnRws
import Derived.ChangeSame
namespace Go.En
open Go Go.ChangeShapes Go.WideShapes Go.ChangeAt Go.RowKit

theorem open_ints_sl {H : Type} {enc : TypeId × Value → H} {P : Program} {W : World} {base : Nat} {sp : Nat → Bool} {hd : Bool} {t e : TypeId} {k : IntKind} {fuel : Nat} {cs : List Value} {x : DataW H × List MemPlace} (ht : P.underlying t = some (.slice e)) (he : P.underlying e = some (.int k)) (hc : P.cellsOf e = 1)
    (hf : DataW.trod enc P W base sp hd fuel t cs = some x) :
    ∃ (v : Value) (zs : List Int), cs = [v] ∧ Sl W v (zs.map (Value.int k)) ∧ zs.length ≤ 9223372036854775807 ∧ ∀ z ∈ zs, (Lit.int k z).wf = true := by
  rcases open_ints ht he hc hf with ⟨hcs, -⟩ | ⟨a, len, cap, zs, hcs, _, hl, hm, hz, -, hcell, hwz⟩
  · exact ⟨_, [], hcs, ⟨none, 0, 0, rfl, rfl, Nat.le_refl _, fun h => absurd h (by simp)⟩, by simp, by simp⟩
  · unfold maxLen at hm
    have hle : len ≤ zs.length := by rw [hz]; split <;> omega
    refine ⟨_, zs.take len, hcs, ⟨some a, len, cap, rfl, by rw [List.length_map, List.length_take]; omega, hl, fun h0 => ?_⟩, by rw [List.length_take]; omega, fun z hz => hwz z (List.mem_of_mem_take hz)⟩
    obtain ⟨b, off, spot⟩ := a
    have hs : spot = none := by
      have h0 := hcell 0 (by omega)
      unfold World.cell? at h0
      split at h0
      · cases spot
        · rfl
        · simp [Addr.add] at h0
      · cases h0
    subst hs
    refine ⟨b, off, rfl, fun i hi => ?_⟩
    rw [← add_at, hcell i (by omega), List.getElem?_map, List.getElem?_take_of_lt hi, List.getD_eq_getElem?_getD, List.getElem?_eq_getElem (by omega)]
    rfl

theorem open_cnt {H : Type} {enc : TypeId × Value → H} {P : Program} {W : World} {base b0 : Nat} {r : Reach} {sp : Nat → Bool} {hd : Bool} {t e : TypeId} {f0 f1 : Field} {k k0 : IntKind} {v : Value} {d : DataW H} {ps : List MemPlace}
    (ht : P.underlying t = some (.struct #[f0, f1])) (h0 : P.underlying f0.type = some (.int k0)) (o0 : f0.offset = 0) (c0 : P.cellsOf f0.type = 1) (h1 : P.underlying f1.type = some (.slice e)) (o1 : f1.offset = 1) (c1 : P.cellsOf f1.type = 1) (ct : P.cellsOf t = 2) (he : P.underlying e = some (.int k)) (hc : P.cellsOf e = 1)
    (hval : Value.okWide P W r b0 t v) (h : DataW.Trod enc P W base sp hd t v d ps) :
    ∃ (a : Int) (sv : Value) (zs : List Int), v = .agg #[.int k0 a, sv] ∧ (Lit.int k0 a).wf = true ∧ Sl W sv (zs.map (Value.int k)) ∧ zs.length ≤ 9223372036854775807 ∧ ∀ z ∈ zs, (Lit.int k z).wf = true := by
  obtain ⟨cs, rfl, hsz⟩ := okWide_struct ht hval
  obtain ⟨fuel, hf⟩ := h
  obtain ⟨y0, y1, n, _, hl, hf0, hf1⟩ := trod_struct2 ht hf
  rw [o0, c0] at hf0
  rw [o1, c1] at hf1
  obtain ⟨a, ha, _, hw⟩ := DataW.trod_int h0 hf0
  obtain ⟨sv, zs, hs, hsl, hlen, hwz⟩ := open_ints_sl h1 he hc hf1
  refine ⟨a, sv, zs, ?_, hw, hsl, hlen, hwz⟩
  have hcl : (Value.cells (.agg cs)).toList = cs.toList := rfl
  rw [hcl] at ha hs
  rw [ct] at hsz
  obtain ⟨l⟩ := cs
  match l, hsz with
  | [x, y], _ =>
    simp at ha hs
    rw [ha, hs]
end Go.En
