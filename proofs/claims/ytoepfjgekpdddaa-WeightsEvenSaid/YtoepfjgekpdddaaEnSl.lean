/- The engine: copy, append, make; slices of slices; elements of arrays by value. -/
import Derived.Test.YtoepfjgekpdddaaEnStr
namespace Go.En
open Go

theorem bs_one (l : List UInt8) : ∀ x ∈ l.map b2v, one x = true := by
  intro x hx
  obtain ⟨c, _, rfl⟩ := List.mem_map.1 hx
  rfl
theorem shiftA_ne {b o m l sz : Nat} (h : l ≠ m) : shiftA ⟨b, o, none⟩ m l sz = ⟨b, o + l * sz, none⟩ := by
  unfold shiftA; rw [if_neg (fun e => h e.symm), add_at]
theorem shiftA_ne1 {b o m l : Nat} (h : l ≠ m) : shiftA ⟨b, o, none⟩ m l 1 = ⟨b, o + l, none⟩ := by rw [shiftA_ne h, Nat.mul_one]
theorem Sl.drop {w : World} {b o n c : Nat} {l : List Value} (h : Sl w (.slice (some ⟨b, o, none⟩) n c) l) {k : Nat} (hk : k ≤ n) :
    Sl w (.slice (shift? (some ⟨b, o, none⟩) c k 1) (n - k) (c - k)) (l.drop k) := by
  obtain ⟨x, m, c', e, hm, hc, hh⟩ := h
  cases e
  refine ⟨_, _, _, rfl, by rw [List.length_drop]; omega, by omega, fun h0 => ?_⟩
  obtain ⟨b', o', e, h2⟩ := hh (by omega)
  cases e
  have hne : ¬ c = k := by omega
  refine ⟨b, o + k, by unfold shift?; rw [if_neg hne, Option.map_some, add_at, Nat.mul_one], fun i hi => ?_⟩
  rw [Nat.add_assoc, h2 (k + i) (by omega), List.getElem?_drop]
theorem Sl.take {w : World} {b o n c : Nat} {l : List Value} (h : Sl w (.slice (some ⟨b, o, none⟩) n c) l) {k : Nat} (hk : k ≤ n) :
    Sl w (.slice (shift? (some ⟨b, o, none⟩) c 0 1) (k - 0) (c - 0)) (l.take k) := by
  obtain ⟨x, m, c', e, hm, hc, hh⟩ := h
  cases e
  refine ⟨_, _, _, rfl, by rw [List.length_take]; omega, by omega, fun h0 => ?_⟩
  obtain ⟨b', o', e, h2⟩ := hh (by omega)
  cases e
  have hne : ¬ c = 0 := by omega
  refine ⟨b, o, by unfold shift?; rw [if_neg hne, Option.map_some, add_at]; rfl, fun i hi => ?_⟩
  rw [h2 i (by omega), List.getElem?_take_of_lt (by omega)]
theorem inB_shift {b o n c k : Nat} {M : Nat → Prop} (h : ¬ inB (.slice (some ⟨b, o, none⟩) n c) M) (hn : 0 < n) (m : Nat) : ¬ inB (.slice (shift? (some ⟨b, o, none⟩) c k 1) m (c - k)) M := by
  have hb : ¬ M b := by
    obtain ⟨n', rfl⟩ : ∃ n', n = n' + 1 := ⟨n - 1, by omega⟩
    exact h
  unfold inB shift?
  split
  · rename_i x q _ e
    simp only [Value.slice.injEq] at e
    obtain ⟨e, _, _⟩ := e
    split at e
    · cases e; exact hb
    · rw [Option.map_some, add_at] at e; cases e; exact hb
  · simp
theorem Own.bs {w : World} {b off c : Nat} {cs : List Value} {l : List UInt8} (h : Own w b cs) (hc : l.length ≤ c) (hl : ∀ i (hi : i < l.length), cs[off + i]? = some (b2v l[i])) : Bs w (.slice (some ⟨b, off, none⟩) l.length c) l :=
  ⟨_, _, _, rfl, by simp, hc, fun _ => ⟨b, off, rfl, fun i hi => by rw [h.cell, hl i hi]; simp [hi]⟩⟩

section
variable {P : Program} {w : World} {t e : TypeId} {k : IntKind} {a : Int}

theorem r_idxA {len : Nat} {d : TypeDesc} {i : TypeInfo} (hu : P.underlying t = some (.array len e)) (hd : P.underlying e = some d) (ha : agg? d = false) (hi : P.info? e = some i) (h1 : i.size = 1)
    (cs : Array Value) (h0 : 0 ≤ a) (hl : a < (len : Int)) {v : Value} (hv : cs[a.toNat]? = some v) : (sIdx t (.agg cs) (.int k a)).run P w = .ok (.value v) w := by
  unfold sIdx
  rw [runV]
  simp only [Instr.index, asIntOf, pure_bind, underlying, hu, Sem.run_bind, run_program, Result.andThen_ok, Sem.run_pure, h0, hl, and_self, if_true, sizeOf_run hi, h1, Nat.mul_one, part, isAgg_run hd, ha, Bool.false_eq_true, if_false, hv]

def farI (P : Program) (t : TypeId) (cs : Array Value) (k : IntKind) (a : Int) (w : World) : Result Next := (sIdx t (.agg cs) (.int k a)).run P w
theorem r_idxC {len : Nat} {d : TypeDesc} {i : TypeInfo} (hu : P.underlying t = some (.array len e)) (hd : P.underlying e = some d) (ha : agg? d = false) (hi : P.info? e = some i) (h1 : i.size = 1)
    (cs : Array Value) (h0 : 0 ≤ a) (hl : a < (len : Int)) : (sIdx t (.agg cs) (.int k a)).run P w = ldC cs[a.toNat]? w (farI P t cs k a w) := by
  cases hv : cs[a.toNat]? with
  | none => rfl
  | some v => exact r_idxA hu hd ha hi h1 cs h0 hl hv

/-- the cells of a slice -/
theorem loadCells_sl {b off : Nat} {l : List Value} (h : ∀ i, i < l.length → w.cell? ⟨b, off + i, none⟩ = l[i]?) (n : Nat) (hn : n ≤ l.length) :
    (loadCells ⟨b, off, none⟩ n).run P w = .ok (l.take n).toArray w := by
  have key : ∀ (m i : Nat) (acc : Array Value), i + m ≤ l.length → (loadCellsFrom ⟨b, off, none⟩ i m acc).run P w = .ok (acc ++ ((l.drop i).take m).toArray) w := by
    intro m
    induction m with
    | zero => intro i acc _; simp [loadCellsFrom]
    | succ m ih =>
      intro i acc hm
      have hc := h i (by omega)
      rw [List.getElem?_eq_getElem (by omega)] at hc
      simp only [loadCellsFrom, Sem.run_bind, run_load, add_at, hc, Result.andThen_ok]
      rw [ih (i + 1) _ (by omega), List.drop_eq_getElem_cons (by omega : i < l.length), List.take_succ_cons]
      simp
  unfold loadCells
  rw [key n 0 #[] (by omega)]
  simp

theorem firstCells_sl {sz n : Nat} {v : Value} {l : List Value} (h1 : sz = 1) (h : Sl w v l) (hn : n ≤ l.length) : (Builtin.firstCells sz n v).run P w = .ok (l.take n).toArray w := by
  subst h1
  obtain ⟨x, m, c, rfl, hm, hc, hh⟩ := h
  cases x with
  | none =>
    have : l = [] := by
      cases l with
      | nil => rfl
      | cons y l => obtain ⟨b, off, e, _⟩ := hh (by rw [hm]; simp); cases e
    subst this
    simp [Builtin.firstCells]
  | some x =>
    simp only [Builtin.firstCells, Nat.mul_one]
    by_cases h0 : 0 < m
    · obtain ⟨b, off, e, h2⟩ := hh h0
      have e := Option.some.inj e; subst e
      exact loadCells_sl (fun i hi => h2 i (by omega)) n hn
    · have h00 : n = 0 := by omega
      subst h00
      simp [loadCells, loadCellsFrom]

theorem sl_len {v : Value} {l : List Value} (h : Sl w v l) : (Builtin.lenOf v).run P w = .ok l.length w := by
  obtain ⟨x, m, c, rfl, hm, hc, hh⟩ := h
  simp [Builtin.lenOf, hm]

theorem stp_copy {ty t2 : TypeId} {i : TypeInfo} (hu : P.underlying t = some (.slice e)) (hi : P.info? e = some i) (h1 : i.size = 1) {b off dl c : Nat} {cs : List Value} (ho : Own w b cs) (hl : off + dl ≤ cs.length)
    {v : Value} {l : List Value} (h : Sl w v l) (hv : ∀ x ∈ l, one x = true) {K : Value → World → Prop}
    (hk : ∀ w', Own w' b (setAll cs off (l.take (min l.length dl))) → Ext w w' (fun x => x = b) → w'.heap.size = w.heap.size → K (.int .i64 (min l.length dl : Nat)) w') :
    Stp P (sBi .copy #[t, t2] ty [.slice (some ⟨b, off, none⟩) dl c, v]) w K := by
  have hlen : (l.take (min l.length dl)).length = min l.length dl := by rw [List.length_take]; omega
  obtain ⟨w', s1, s2, s3, s4, _⟩ := storeCells_run (P := P) (M := fun x => x = b) rfl (l.take (min l.length dl)) w off 0 cs ho (by rw [hlen]; omega) (fun x hx => hv x (List.mem_of_mem_take hx))
  have : (sBi .copy #[t, t2] ty [.slice (some ⟨b, off, none⟩) dl c, v]).run P w = .ok (.value (.int .i64 (min l.length dl : Nat))) w' := by
    unfold sBi builtin
    simp only [Builtin.copy_, List.getElem?_toArray, List.getElem?_cons_zero, List.getElem?_cons_succ]
    simp only [underlying, Sem.run_bind, run_program, Result.andThen_ok, hu, Sem.run_pure, sl_len h, sizeOf_run hi, h1]
    have := firstCells_sl (P := P) (n := min l.length dl) rfl h (Nat.min_le_left _ _)
    rw [show (Nat.min l.length dl) = min l.length dl from rfl, this]
    simp only [Result.andThen_ok, s1, goInt]
  unfold Stp
  rw [this]
  exact hk w' (by simpa using s2) s3 s4

/-- make([]T, n), the elements one cell wide -/
theorem stp_make {i : TypeInfo} {z : Value} (hu : P.underlying t = some (.slice e)) (hi : P.info? e = some i) (h1 : i.size = 1) (hz : i.zero = some z) (hz1 : one z = true) {n : Int} (h0 : 0 ≤ n) (hn : i.bytes * n ≤ 2 ^ 48) (hn2 : n ≤ 9223372036854775807)
    {K : Value → World → Prop}
    (hk : ∀ w', Own w' w.heap.size (List.replicate n.toNat z) → Ext w w' nob → w'.heap.size = w.heap.size + 1 → K (.slice (some ⟨w.heap.size, 0, none⟩) n.toNat n.toNat) w') :
    Stp P (sMkSlice t (.int k n) (.int k n)) w K := by
  have hw : IntKind.i64.wrap n = n := w_i64 (by omega) hn2
  have hcells : z.cells = #[z] := one_cells hz1
  have harr : (Array.range n.toNat).map (fun j => (#[z] : Array Value)[j % (#[z] : Array Value).size]!) = (List.replicate n.toNat z).toArray := by
    apply Array.ext
    · simp
    · intro j h1 h2; simp [Nat.mod_one]
  have hz' : (zeroValue e).run P w = .ok z w := by simp [zeroValue, typeInfo, hi, hz]
  have : (sMkSlice t (.int k n) (.int k n)).run P w = .ok (.value (.slice (some ⟨w.heap.size, 0, none⟩) n.toNat n.toNat)) (w.alloc (.cells (List.replicate n.toNat z).toArray e)) := by
    unfold sMkSlice
    rw [runV]
    have t1 : (decide (n < 0) || decide ((i.bytes : Int) * n > 2 ^ 48) || decide (n < 0) || decide (n > n)) = false := by
      simp only [Bool.or_eq_false_iff, decide_eq_false_iff_not]; omega
    by_cases hn0 : n.toNat = 0
    · simp only [Instr.makeSlice, underlying, typeInfo, asInt, asIntOf, pure_bind, Sem.run_bind, run_program, Result.andThen_ok, hu, hi, Sem.run_pure, hw, t1, Bool.false_eq_true, if_false, run_askRoom, sizeOf_run hi, h1, Nat.mul_one, hn0, if_true, newRow, run_newObj]
      have : (Array.range 0).map (fun x => (#[] : Array Value)[x % (#[] : Array Value).size]!) = (List.replicate 0 z).toArray := by simp
      rw [this]
      rfl
    · simp only [Instr.makeSlice, underlying, typeInfo, asInt, asIntOf, pure_bind, Sem.run_bind, run_program, Result.andThen_ok, hu, hi, Sem.run_pure, hw, t1, Bool.false_eq_true, if_false, run_askRoom, sizeOf_run hi, h1, Nat.mul_one, hn0, hz', hcells, newRow, run_newObj, harr]
      rfl
  unfold Stp
  rw [this]
  exact hk _ (Own.alloc _ _ _) (Ext.alloc _ _ _) (by simp)
end
end Go.En
