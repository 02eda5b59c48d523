/- The engine: slices written out; a slice of bytes turned to its own type. -/
import Derived.Test.YtoepfjgekpdddaaEnApp
namespace Go.En
open Go
section
variable {P : Program} {w : World} {t e : TypeId}

/-- []T{..} -/
theorem stp_bslice {i : TypeInfo} {z : Value} {n : Nat} {ps : List (Nat × Value)} {cells : Array Value} (hu : P.underlying t = some (.slice e)) (hi : P.info? e = some i) (hz : i.zero = some z)
    (h1 : ¬ n * i.size > 2 ^ 24) (h0 : ¬ n * i.size = 0) (hf : Instr.fill (fun j => some (j * i.size, i.size)) ((Array.range (n * i.size)).map (z.cells[· % z.cells.size]!)) ps = some cells)
    {K : Value → World → Prop} (hk : ∀ w', Own w' w.heap.size cells.toList → Ext w w' nob → w'.heap.size = w.heap.size + 1 → K (.slice (some ⟨w.heap.size, 0, none⟩) n n) w') :
    Stp P (sBuildSlice t n ps) w K := by
  have hz' : (zeroValue e).run P w = .ok z w := by simp [zeroValue, typeInfo, hi, hz]
  have : (sBuildSlice t n ps).run P w = .ok (.value (.slice (some ⟨w.heap.size, 0, none⟩) n n)) (w.alloc (.cells cells.toList.toArray e)) := by
    unfold sBuildSlice; rw [runV]
    simp only [Instr.buildSlice, underlying, pure_bind, Sem.run_bind, run_program, Result.andThen_ok, hu, Sem.run_pure, sizeOf_run hi, h1, h0, if_false, hz', hf, newRow, run_newObj]
    rfl
  unfold Stp
  rw [this]
  exact hk _ (Own.alloc _ _ _) (Ext.alloc _ _ _) (by simp)

theorem Own.mark {b : Nat} {cs : List Value} (h : Own w b cs) : Own (w.freeze ⟨b, cs.length, none⟩ 1) b cs := by
  have hb := h.lt
  obtain ⟨T, lo, hi, h, k⟩ := h
  by_cases hlh : (lo == hi) = true
  · refine ⟨T, cs.length, cs.length + 1, ?_, .inl (Nat.le_refl _)⟩
    show (w.heap.modify b _)[b]? = _
    rw [Array.getElem?_modify, if_pos rfl, h]
    have hlh : lo = hi := by simpa using hlh
    simp [hlh]
  · refine ⟨T, min lo cs.length, max hi (cs.length + 1), ?_, .inl ?_⟩
    · show (w.heap.modify b _)[b]? = _
      rw [Array.getElem?_modify, if_pos rfl, h]
      have hlh : ¬ lo = hi := by simpa using hlh
      simp [hlh]
    · rcases k with k | k
      · omega
      · exfalso; apply hlh; rw [k]; simp

theorem Ext.mark (w : World) (a : Addr) : Ext w (w.freeze a 1) (fun y => y = a.block) :=
  ⟨rfl, rfl, rfl, by show _ ≤ (w.heap.modify _ _).size; simp, fun b hb hn => by
    show (w.heap.modify a.block _)[b]? = _
    rw [Array.getElem?_modify]
    rw [if_neg (fun h => hn h.symm)]⟩

/-- []byte of a []byte just written -/
theorem stp_csl (hu : P.underlying t = some (.slice e)) (he : P.underlying e = some (.int .u8)) {b off n c : Nat} {cs : List Value} (ho : Own w b cs)
    {K : Value → World → Prop} (hk : ∀ w', Own w' b cs → Ext w w' (fun y => y = b) → w'.heap.size = w.heap.size → K (.slice (some ⟨b, off, none⟩) n c) w') :
    Stp P (sCvt t t (.slice (some ⟨b, off, none⟩) n c)) w K := by
  obtain ⟨T, hs⟩ : ∃ T, w.shape? b = some (T, cs.length) := by
    obtain ⟨T, lo, hi, h, _⟩ := ho
    exact ⟨T, by unfold World.shape?; rw [h]; simp⟩
  have : (sCvt t t (.slice (some ⟨b, off, none⟩) n c)).run P w = .ok (.value (.slice (some ⟨b, off, none⟩) n c)) (w.freeze ⟨b, cs.length, none⟩ 1) := by
    unfold sCvt; rw [runV]
    simp [convert, underlying, hu, he, markStringish, shape, freeze, Sem.run, hs]
  unfold Stp
  rw [this]
  exact hk _ ho.mark (Ext.mark w _) (by show (w.heap.modify _ _).size = _; simp)
end
end Go.En
