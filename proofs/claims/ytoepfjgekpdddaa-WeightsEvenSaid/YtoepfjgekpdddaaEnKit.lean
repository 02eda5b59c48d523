/- The engine: small laws of slices and blocks. -/
import Derived.Test.YtoepfjgekpdddaaEnMap
namespace Go.En
open Go

theorem OSl.len {w : World} {b sz n : Nat} {v : Value} {l : List Value} (h : OSl w b sz v n l) : ∃ a c, v = .slice a n c := by
  rcases h.2 with ⟨rfl, rfl⟩ | ⟨x, c, r, rfl, _⟩
  · exact ⟨_, _, rfl⟩
  · exact ⟨_, _, rfl⟩
theorem OSl.lower {w : World} {a b sz n : Nat} {v : Value} {l : List Value} (h : OSl w b sz v n l) (hab : a ≤ b) : OSl w a sz v n l := by
  refine ⟨h.1, ?_⟩
  rcases h.2 with h | ⟨x, c, r, h1, h2, h3⟩
  · exact .inl h
  · exact .inr ⟨x, c, r, h1, by omega, h3⟩
theorem Sl.nil (w : World) : Sl w (.slice none 0 0) [] := ⟨none, 0, 0, rfl, rfl, Nat.le_refl _, fun h => absurd h (by simp)⟩
theorem Own.whole {w : World} {b c : Nat} {l : List UInt8} (h : Own w b (l.map b2v)) (hc : l.length ≤ c) : Bs w (.slice (some ⟨b, 0, none⟩) l.length c) l :=
  h.bs hc fun i hi => by rw [Nat.zero_add]; simp [hi]
theorem rep_set (a b : Value) (i m : Nat) : (List.replicate i a ++ List.replicate (m + 1) b).set i a = List.replicate (i + 1) a ++ List.replicate m b := by
  rw [List.set_append_right _ _ (by simp), List.length_replicate, Nat.sub_self, List.replicate_succ (n := m), List.set_cons_zero, List.replicate_succ' (n := i), List.append_assoc]
  rfl
theorem Sl.take' {w : World} {a : Option Addr} {n c : Nat} {l : List Value} (h : Sl w (.slice a n c) l) {k : Nat} (hk : k ≤ n) : Sl w (.slice (shift? a c 0 1) (k - 0) (c - 0)) (l.take k) := by
  have h' := h
  obtain ⟨a', n', c', e, hn, hc, hh⟩ := h'
  cases e
  by_cases h0 : k = 0
  · subst h0
    exact ⟨_, _, _, rfl, by simp, by omega, fun h => by simp at h⟩
  · obtain ⟨b, off, rfl, _⟩ := hh (by omega)
    exact h.take hk
theorem Sl.drop' {w : World} {a : Option Addr} {n c : Nat} {l : List Value} (h : Sl w (.slice a n c) l) {k : Nat} (hk : k ≤ n) : Sl w (.slice (shift? a c k 1) (n - k) (c - k)) (l.drop k) := by
  have h' := h
  obtain ⟨a', n', c', e, hn, hc, hh⟩ := h'
  cases e
  by_cases h0 : n = 0
  · exact ⟨_, _, _, rfl, by rw [List.length_drop]; omega, by omega, fun h => by omega⟩
  · obtain ⟨b, off, rfl, _⟩ := hh (by omega)
    exact h.drop hk
/-- the middle of a slice -/
theorem Sl.mid {w : World} {a : Option Addr} {n c : Nat} {l : List Value} (h : Sl w (.slice a n c) l) {i j : Nat} (hij : i ≤ j) (hj : j ≤ n) : Sl w (.slice (shift? a c i 1) (j - i) (c - i)) ((l.drop i).take (j - i)) := by
  have h' := h
  obtain ⟨a', n', c', e, hn, hc, hh⟩ := h'
  cases e
  by_cases h0 : j - i = 0
  · rw [h0]
    exact ⟨_, _, _, rfl, by simp, by omega, fun h => by omega⟩
  · obtain ⟨b, off, rfl, _⟩ := hh (by omega)
    have hd := h.drop (k := i) (by omega)
    obtain ⟨a', n', c', e, hn', hc', hh'⟩ := hd
    obtain ⟨b', off', e', h2⟩ := hh' (by have := (Value.slice.inj e).2.1; omega)
    injection e with e1 e2 e3
    subst e3
    refine ⟨_, _, _, rfl, by rw [List.length_take, List.length_drop]; omega, by omega, fun _ => ⟨b', off', by rw [e1]; exact e', fun x hx => ?_⟩⟩
    rw [h2 x (by omega), List.getElem?_take_of_lt hx]
/-- a slice, opened -/
theorem Sl.openV {w : World} {v : Value} {l : List Value} (h : Sl w v l) (h0 : 0 < l.length) : ∃ b off c, v = .slice (some ⟨b, off, none⟩) l.length c ∧ l.length ≤ c ∧ ∀ i, (h : i < l.length) → w.cell? ⟨b, off + i, none⟩ = some l[i] := by
  obtain ⟨a, n, c, rfl, hn, hc, h⟩ := h
  subst hn
  obtain ⟨b, off, rfl, hh⟩ := h h0
  exact ⟨b, off, c, rfl, hc, fun i hi => by rw [hh i hi]; simp [hi]⟩
/-- a slice of integers, opened -/
theorem Sl.openI {w : World} {v : Value} {k : IntKind} {l : List Int} (h : Sl w v (l.map (Value.int k))) (h0 : 0 < l.length) : ∃ b off c, v = .slice (some ⟨b, off, none⟩) l.length c ∧ l.length ≤ c ∧ ∀ i, (h : i < l.length) → w.cell? ⟨b, off + i, none⟩ = some (.int k l[i]) := by
  obtain ⟨b, off, c, e, hc, hh⟩ := h.openV (by simpa using h0)
  simp only [List.length_map] at e hc hh
  exact ⟨b, off, c, e, hc, fun i hi => by rw [hh i hi]; simp⟩
theorem Sl.lenI {w : World} {v : Value} {k : IntKind} {l : List Int} (h : Sl w v (l.map (Value.int k))) : ∃ a c, v = .slice a l.length c ∧ l.length ≤ c := by
  obtain ⟨a, c, e, hc⟩ := h.len
  simp only [List.length_map] at e hc
  exact ⟨a, c, e, hc⟩

/-- copies of a list, one behind the other -/
def reps' (n : Nat) (l : List Value) : List Value := (List.replicate n l).flatten
theorem reps'_length (n : Nat) (l : List Value) : (reps' n l).length = n * l.length := by
  unfold reps'; rw [List.length_flatten]; simp
theorem reps'_get : ∀ (n : Nat) (l : List Value) (j : Nat) (_ : j < n * l.length) (h0 : 0 < l.length), (reps' n l)[j]? = some (l[j % l.length]'(Nat.mod_lt _ h0)) := by
  intro n
  induction n with
  | zero => intro l j h; simp at h
  | succ n ih =>
    intro l j h h0
    unfold reps'
    rw [List.replicate_succ, List.flatten_cons]
    by_cases hj : j < l.length
    · rw [List.getElem?_append_left hj, List.getElem?_eq_getElem hj]
      simp only [Nat.mod_eq_of_lt hj]
    · rw [List.getElem?_append_right (by omega)]
      have := ih l (j - l.length) (by rw [Nat.succ_mul] at h; omega) h0
      unfold reps' at this
      rw [this]
      simp only [← Nat.mod_eq_sub_mod (show j ≥ l.length by omega)]

/-- make([]T, n), the elements many cells wide -/
theorem stp_makeN {P : Program} {w : World} {t e : TypeId} {k : IntKind} {i : TypeInfo} {z : Value} {sz : Nat} (hu : P.underlying t = some (.slice e)) (hi : P.info? e = some i) (h1 : i.size = sz) (hsz : 0 < sz) (hz : i.zero = some z) (hz1 : z.cells.size = sz) {n : Int} (h0 : 0 ≤ n) (hn : i.bytes * n ≤ 2 ^ 48) (hn2 : n ≤ 9223372036854775807)
    {K : Value → World → Prop}
    (hk : ∀ w', Own w' w.heap.size (reps' n.toNat z.cells.toList) → Ext w w' nob → w'.heap.size = w.heap.size + 1 → K (.slice (some ⟨w.heap.size, 0, none⟩) n.toNat n.toNat) w') :
    Stp P (sMkSlice t (.int k n) (.int k n)) w K := by
  have hw : IntKind.i64.wrap n = n := w_i64 (by omega) hn2
  have hl : z.cells.toList.length = sz := by simpa using hz1
  have harr : (Array.range (n.toNat * sz)).map (fun j => z.cells[j % z.cells.size]!) = (reps' n.toNat z.cells.toList).toArray := by
    apply Array.ext
    · simp [reps'_length, hz1]
    · intro j h1 h2
      have hj : j < n.toNat * sz := by simpa using h1
      have := reps'_get n.toNat z.cells.toList j (by rw [hl]; exact hj) (by rw [hl]; exact hsz)
      have hm : j % z.cells.size < z.cells.size := Nat.mod_lt _ (by omega)
      simp only [Array.getElem_map, Array.getElem_range, List.getElem_toArray]
      rw [getElem!_pos z.cells _ hm]
      rw [List.getElem?_eq_getElem (by rw [reps'_length, hl]; exact hj)] at this
      have := Option.some.inj this
      rw [this]
      simp
  have hz' : (zeroValue e).run P w = .ok z w := by simp [zeroValue, typeInfo, hi, hz]
  have : (sMkSlice t (.int k n) (.int k n)).run P w = .ok (.value (.slice (some ⟨w.heap.size, 0, none⟩) n.toNat n.toNat)) (w.alloc (.cells (reps' n.toNat z.cells.toList).toArray e)) := by
    unfold sMkSlice
    rw [runV]
    have t1 : (decide (n < 0) || decide ((i.bytes : Int) * n > 2 ^ 48) || decide (n < 0) || decide (n > n)) = false := by
      simp only [Bool.or_eq_false_iff, decide_eq_false_iff_not]; omega
    by_cases hn0 : n.toNat * sz = 0
    · simp only [Instr.makeSlice, underlying, typeInfo, asInt, asIntOf, pure_bind, Sem.run_bind, run_program, Result.andThen_ok, hu, hi, Sem.run_pure, hw, t1, Bool.false_eq_true, if_false, run_askRoom, sizeOf_run hi, h1, hn0, if_true, newRow, run_newObj]
      have hn : n.toNat = 0 := by rcases Nat.mul_eq_zero.1 hn0 with h | h <;> omega
      have : (Array.range 0).map (fun x => (#[] : Array Value)[x % (#[] : Array Value).size]!) = (reps' n.toNat z.cells.toList).toArray := by rw [hn]; simp [reps']
      rw [this]
      rfl
    · simp only [Instr.makeSlice, underlying, typeInfo, asInt, asIntOf, pure_bind, Sem.run_bind, run_program, Result.andThen_ok, hu, hi, Sem.run_pure, hw, t1, Bool.false_eq_true, if_false, run_askRoom, sizeOf_run hi, h1, hn0, hz', newRow, run_newObj, harr]
      rfl
  unfold Stp
  rw [this]
  exact hk _ (Own.alloc _ _ _) (Ext.alloc _ _ _) (by simp)

/-- rows of three cells -/
abbrev T3 := Int × Int × Int
def fe (k : IntKind) : List T3 → List Value
  | [] => []
  | e :: r => .int k e.1 :: .int .i64 e.2.1 :: .int .i64 e.2.2 :: fe k r
theorem fe_length (k : IntKind) : ∀ L : List T3, (fe k L).length = L.length * 3
  | [] => rfl
  | e :: r => by simp [fe, fe_length k r]; omega
theorem fe_append (k : IntKind) : ∀ L M : List T3, fe k (L ++ M) = fe k L ++ fe k M
  | [], _ => rfl
  | e :: r, M => by simp [fe, fe_append k r M]
theorem fe_get (k : IntKind) : ∀ (L : List T3) (i : Nat) (h : i < L.length), (fe k L)[i * 3]? = some (.int k L[i].1) ∧ (fe k L)[i * 3 + 1]? = some (.int .i64 L[i].2.1) ∧ (fe k L)[i * 3 + 2]? = some (.int .i64 L[i].2.2)
  | [], i, h => by simp at h
  | e :: r, 0, _ => ⟨rfl, rfl, rfl⟩
  | e :: r, i + 1, h => by
    have := fe_get k r i (by simpa using h)
    rw [Nat.add_mul]
    exact this
theorem fe_set (k : IntKind) : ∀ (L : List T3) (i : Nat) (h : i < L.length) (x : Int), (fe k L).set (i * 3) (.int k x) = fe k (L.set i (x, L[i].2)) ∧ (fe k L).set (i * 3 + 1) (.int .i64 x) = fe k (L.set i (L[i].1, x, L[i].2.2)) ∧ (fe k L).set (i * 3 + 2) (.int .i64 x) = fe k (L.set i (L[i].1, L[i].2.1, x))
  | [], i, h, _ => by simp at h
  | e :: r, 0, _, x => ⟨rfl, rfl, rfl⟩
  | e :: r, i + 1, h, x => by
    have := fe_set k r i (by simpa using h) x
    rw [Nat.add_mul]
    obtain ⟨h1, h2, h3⟩ := this
    refine ⟨?_, ?_, ?_⟩
    · show (_ :: _ :: _ :: (fe k r).set (i * 3) _) = _; rw [h1]; rfl
    · show (_ :: _ :: _ :: (fe k r).set (i * 3 + 1) _) = _; rw [h2]; rfl
    · show (_ :: _ :: _ :: (fe k r).set (i * 3 + 2) _) = _; rw [h3]; rfl
theorem fe_reps (k : IntKind) (x : Int) : ∀ n : Nat, reps' n [.int k x, .int .i64 0, .int .i64 0] = fe k (List.replicate n (x, 0, 0))
  | 0 => rfl
  | n + 1 => by
    have := fe_reps k x n
    unfold reps' at this ⊢
    rw [List.replicate_succ, List.flatten_cons, this, List.replicate_succ]; rfl
end Go.En
