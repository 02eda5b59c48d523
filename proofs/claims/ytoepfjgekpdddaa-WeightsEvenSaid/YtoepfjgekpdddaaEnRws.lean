/- The engine: a slice of slices of bytes that came in. -/
import Derived.Test.YtoepfjgekpdddaaEnRow
import Derived.Deep.Matrix
namespace Go.En
open Go Go.ChangeShapes Go.WideShapes Go.ChangeAt Go.RowKit Go.Deep

theorem cells_at {W : World} {a : Addr} {n : Nat} {g : Nat → Value} (h0 : 0 < n) (h : ∀ i, i < n → W.cell? (a.add i) = some (g i)) : ∃ b off, a = ⟨b, off, none⟩ ∧ ∀ i, i < n → W.cell? ⟨b, off + i, none⟩ = some (g i) := by
  obtain ⟨b, off, spot⟩ := a
  have hs : spot = none := by
    have h0 := h 0 h0
    unfold World.cell? at h0
    split at h0
    · cases spot
      · rfl
      · simp [Addr.add] at h0
    · cases h0
  subst hs
  exact ⟨b, off, rfl, fun i hi => by rw [← add_at, h i hi]⟩

theorem open_rws {H : Type} {enc : TypeId × Value → H} {P : Program} {W : World} {base b0 : Nat} {r : Reach} {hd : Bool} {t e q : TypeId} {v : Value} {d : DataW H} {ps : List MemPlace} (ht : P.underlying t = some (.slice e)) (he : P.underlying e = some (.slice q)) (hq : P.underlying q = some (.int .u8)) (ce : P.cellsOf e = 1) (cq : P.cellsOf q = 1)
    (hval : Value.okWide P W r b0 t v) (h : DataW.Trod enc P W base (fun _ => true) hd t v d ps) :
    ∃ (vs : List Value) (ls : List (List UInt8)), Sl W v vs ∧ vs.length = ls.length ∧ (∀ i (h : i < ls.length) (h' : i < vs.length), Bs W vs[i] ls[i]) ∧ ls.length ≤ 9223372036854775807 ∧ ∀ l ∈ ls, l.length ≤ 9223372036854775807 := by
  obtain ⟨a0, len, cap, rfl⟩ := okWide_slice ht hval
  obtain ⟨fuel, hf⟩ := h
  rcases open_int_rows ht he hq ce cq hf with ⟨hcs, -⟩ | ⟨a, len', cap', A, L, C, Z, hcs, _, hl, hm, -, hr⟩
  · have : Value.slice a0 len cap = .slice none 0 0 := by simpa [Value.cells] using hcs
    cases this
    exact ⟨[], [], ⟨none, 0, 0, rfl, rfl, Nat.le_refl _, fun h => absurd h (by simp)⟩, rfl, fun i h => absurd h (by simp), by simp, by simp⟩
  · have : Value.slice a0 len cap = .slice (some a) len' cap' := by simpa [Value.cells] using hcs
    cases this
    unfold maxLen at hm hr
    refine ⟨(List.range len).map fun r => .slice (A r) (L r) (C r), (List.range len).map fun r => ((Z r).take (L r)).map fun z => UInt8.ofNat z.toNat, ?_, by simp, ?_, by simp; omega, ?_⟩
    · refine ⟨some a, len, cap, rfl, by simp, hl, fun h0 => ?_⟩
      obtain ⟨b, off, e, hc⟩ := cells_at (g := fun r => .slice (A r) (L r) (C r)) h0 (fun i hi => (hr i (by omega)).1)
      exact ⟨b, off, by rw [e], fun i hi => by rw [hc i hi]; simp [hi]⟩
    · intro i h h'
      have hi : i < len := by simpa using h
      obtain ⟨-, h2, h3, h4, h5, h6, h7⟩ := hr i (by omega)
      simp only [List.getElem_map, List.getElem_range]
      refine ⟨A i, L i, C i, rfl, by simp; omega, h2, fun h0 => ?_⟩
      obtain ⟨a', ha⟩ : ∃ a', A i = some a' := by
        cases hA : A i with
        | none => have := h6 hA; omega
        | some a' => exact ⟨a', rfl⟩
      obtain ⟨b, off, e, hc⟩ := cells_at (g := fun c => .int .u8 ((Z i).getD c 0)) h0 (fun c hc => (h7 a' ha).2 c (by omega))
      refine ⟨b, off, by rw [ha, e], fun c hcl => ?_⟩
      rw [hc c hcl]
      have hz : c < (Z i).length := by omega
      have hw := h5 _ (List.getElem_mem hz)
      have hx : 0 ≤ (Z i)[c] ∧ (Z i)[c] ≤ 255 := by simpa [Lit.wf, IntKind.min, IntKind.max, IntKind.signed, IntKind.bits] using hw
      rw [List.getD_eq_getElem?_getD, List.getElem?_eq_getElem hz]
      simp only [List.map_map, List.getElem?_map, List.getElem?_take_of_lt hcl, List.getElem?_eq_getElem hz, Option.map_some, Option.getD_some, Function.comp]
      unfold b2v
      rw [UInt8.toNat_ofNat']
      congr 2
      omega
    · intro l hl
      obtain ⟨r, hr', rfl⟩ := List.mem_map.1 hl
      have hi : r < len := by simpa using hr'
      obtain ⟨-, h2, h3, h4, -⟩ := hr r (by omega)
      simp; omega
end Go.En
