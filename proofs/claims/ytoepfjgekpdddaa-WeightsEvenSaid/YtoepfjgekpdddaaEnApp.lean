/- The engine: append to a slice that the call owns. -/
import Derived.Test.YtoepfjgekpdddaaEnSl
namespace Go.En
open Go

/-- v is a slice of n elements of sz cells each; its cells are l. -/
def Cl (w : World) (sz : Nat) (v : Value) (n : Nat) (l : List Value) : Prop :=
  ∃ a c, v = .slice a n c ∧ l.length = n * sz ∧ (0 < n → ∃ b off, a = some ⟨b, off, none⟩ ∧ ∀ i, i < l.length → w.cell? ⟨b, off + i, none⟩ = l[i]?)

/-- v is nil, or a slice that lies at the head of a block from base on, that is known whole. -/
def OSl (w : World) (base sz : Nat) (v : Value) (n : Nat) (l : List Value) : Prop :=
  l.length = n * sz ∧ ((v = .slice none 0 0 ∧ n = 0) ∨
    ∃ b c rest, v = .slice (some ⟨b, 0, none⟩) n c ∧ base ≤ b ∧ Own w b (l ++ rest) ∧ (l ++ rest).length = c * sz ∧ n ≤ c)

/-- as OSl; the block is one of S -/
def OSS (w : World) (S : Nat → Prop) (sz : Nat) (v : Value) (n : Nat) (l : List Value) : Prop :=
  l.length = n * sz ∧ ((v = .slice none 0 0 ∧ n = 0) ∨
    ∃ b c rest, v = .slice (some ⟨b, 0, none⟩) n c ∧ S b ∧ Own w b (l ++ rest) ∧ (l ++ rest).length = c * sz ∧ n ≤ c)

theorem Sl.cl {w : World} {v : Value} {l : List Value} (h : Sl w v l) : Cl w 1 v l.length l := by
  obtain ⟨a, n, c, rfl, rfl, hc, h⟩ := h
  exact ⟨a, c, rfl, by omega, fun h0 => h h0⟩
theorem Own.cl {w : World} {b sz n c off : Nat} {cs l : List Value} (h : Own w b cs) (hl : l.length = n * sz) (hcs : ∀ i, i < l.length → cs[off + i]? = l[i]?) : Cl w sz (.slice (some ⟨b, off, none⟩) n c) n l :=
  ⟨_, _, rfl, hl, fun _ => ⟨b, off, rfl, fun i hi => by rw [h.cell, hcs i hi]⟩⟩
theorem OSl.nil (w : World) (base sz : Nat) : OSl w base sz (.slice none 0 0) 0 [] := ⟨by simp, .inl ⟨rfl, rfl⟩⟩
theorem OSl.ext {w w' : World} {base sz n : Nat} {v : Value} {l : List Value} {M : Nat → Prop} (h : OSl w base sz v n l) (hx : Ext w w' M) (hM : ∀ b, base ≤ b → ¬ M b) : OSl w' base sz v n l := by
  refine ⟨h.1, ?_⟩
  rcases h.2 with h2 | ⟨b, c, rest, h1, h2, h3, h4, h5⟩
  · exact .inl h2
  · exact .inr ⟨b, c, rest, h1, h2, h3.ext hx (hM b h2), h4, h5⟩
theorem OSl.cl {w : World} {base sz n : Nat} {v : Value} {l : List Value} (h : OSl w base sz v n l) : Cl w sz v n l := by
  rcases h.2 with ⟨rfl, rfl⟩ | ⟨b, c, rest, rfl, h2, h3, h4, h5⟩
  · exact ⟨_, _, rfl, h.1, fun h => by omega⟩
  · refine ⟨_, _, rfl, h.1, fun _ => ⟨b, 0, rfl, fun i hi => ?_⟩⟩
    rw [h3.cell, Nat.zero_add, List.getElem?_append_left hi]
theorem OSl.sl {w : World} {base n : Nat} {v : Value} {l : List Value} (h : OSl w base 1 v n l) : Sl w v l := by
  have hl := h.1
  rcases h.2 with ⟨rfl, rfl⟩ | ⟨b, c, rest, rfl, h2, h3, h4, h5⟩
  · exact ⟨_, _, _, rfl, by omega, by omega, fun h => by omega⟩
  · refine ⟨_, _, _, rfl, by omega, h5, fun _ => ⟨b, 0, rfl, fun i hi => ?_⟩⟩
    rw [h3.cell, Nat.zero_add, List.getElem?_append_left (by omega)]

section
variable {P : Program} {w : World} {t e : TypeId}

theorem loadCells_cl {b off : Nat} {l : List Value} (h : ∀ i, i < l.length → w.cell? ⟨b, off + i, none⟩ = l[i]?) : (loadCells ⟨b, off, none⟩ l.length).run P w = .ok l.toArray w := by
  have := loadCells_sl (P := P) h l.length (Nat.le_refl _)
  rwa [List.take_length] at this

theorem firstCells_cl {sz n : Nat} {v : Value} {l : List Value} (h : Cl w sz v n l) : (Builtin.firstCells sz n v).run P w = .ok l.toArray w := by
  obtain ⟨x, c, rfl, hl, hh⟩ := h
  cases x with
  | none =>
    have : n = 0 := by
      rcases Nat.eq_zero_or_pos n with h | h
      · exact h
      · obtain ⟨b, off, e, _⟩ := hh h; cases e
    subst this
    have : l = [] := List.length_eq_zero_iff.1 (by omega)
    subst this
    simp [Builtin.firstCells]
  | some x =>
    simp only [Builtin.firstCells]
    rw [← hl]
    by_cases h0 : 0 < n
    · obtain ⟨b, off, e, h2⟩ := hh h0
      have e := Option.some.inj e; subst e
      exact loadCells_cl h2
    · have : n = 0 := by omega
      subst this
      have : l = [] := List.length_eq_zero_iff.1 (by omega)
      subst this
      simp [loadCells, loadCellsFrom]

theorem zeroCells_length (zs : Array Value) (n : Nat) : (Builtin.zeroCells zs n).size = n * zs.size := by simp [Builtin.zeroCells]

theorem setAll_append (vs : List Value) : ∀ (as rest : List Value), vs.length ≤ rest.length → setAll (as ++ rest) as.length vs = as ++ vs ++ rest.drop vs.length := by
  induction vs with
  | nil => intro as rest _; simp [setAll]
  | cons v vs ih =>
    intro as rest h
    cases rest with
    | nil => simp at h
    | cons r rest =>
      have := ih (as ++ [v]) rest (by simpa using h)
      simp only [setAll, List.length_append, List.length_cons, List.length_nil, List.append_assoc, List.cons_append, List.nil_append] at this ⊢
      rw [List.drop_succ_cons, ← this, List.set_append_right _ _ (Nat.le_refl _), Nat.sub_self, List.set_cons_zero, Nat.zero_add]

/-- append(v, x...) -/
theorem stp_appendS {S : Nat → Prop} {sz n m : Nat} {i : TypeInfo} {z : Value} {ty t2 e2 : TypeId} (hu : P.underlying t = some (.slice e)) (hu2 : P.underlying t2 = some (.slice e2)) (hi : P.info? e = some i) (hsz : i.size = sz) (hz : i.zero = some z) (hzs : z.cells.size = sz)
    {v x : Value} {l news : List Value} (h : OSS w S sz v n l) (hx : Cl w sz x m news) (hone : ∀ y ∈ news, one y = true) (hb : ∀ b, w.heap.size ≤ b → S b)
    (hn : n + m ≤ 9223372036854775807) (hbytes : (n + m) * i.bytes ≤ 140737488355328) (_hpos : i.bytes ≠ 0)
    {K : Value → World → Prop} (hk : ∀ v' w', OSS w' S sz v' (n + m) (l ++ news) → Ext w w' S → K v' w') : Stp P (sBi .append #[t, t2] ty [v, x]) w K := by
  have hlx : (Builtin.lenOf x).run P w = .ok m w := by
    obtain ⟨a, c, rfl, _⟩ := hx; simp [Builtin.lenOf]
  have hnl := hx.choose_spec.choose_spec.2.1
  have hfx := firstCells_cl (P := P) hx
  have hmax : IntKind.i64.max = 9223372036854775807 := by decide
  have hnot : ¬ (((n + m : Nat) : Int) > IntKind.i64.max ∧ (False ∨ i.bytes = 0)) := by rw [hmax]; omega
  have hz' : ∀ w, (zeroValue e).run P w = .ok z w := fun w => by simp [zeroValue, typeInfo, hi, hz]
  have hlen := h.1
  -- what both ways share
  rcases h.2 with ⟨rfl, rfl⟩ | ⟨b, c, rest, rfl, h2, h3, h4, h5⟩
  · -- nil
    have hl0 : l = [] := List.length_eq_zero_iff.1 (by omega)
    subst hl0
    by_cases hm : m = 0
    · subst hm
      have hn0 : news = [] := List.length_eq_zero_iff.1 (by omega)
      subst hn0
      have : (sBi .append #[t, t2] ty [.slice none 0 0, x]).run P w = .ok (.value (.slice none 0 0)) w := by
        unfold sBi builtin
        simp only [Builtin.append_, List.getElem?_toArray, List.getElem?_cons_zero, List.getElem?_cons_succ]
        simp only [underlying, Sem.run_bind, run_program, Result.andThen_ok, hu, hu2, Sem.run_pure, sizeOf_run hi, hsz, Bool.false_eq_true, if_false, hlx, Nat.le_refl, Nat.add_zero, if_true, Bool.not_false, hfx]
      unfold Stp
      rw [this]
      exact hk _ _ ⟨by simp, .inl ⟨rfl, by omega⟩⟩ (Ext.refl _ _)
    · have hfit := growslice_fits (need := 0 + m) (old := 0) (bytes := i.bytes) (by omega) (by omega)
      have hfit' : ¬ (Builtin.nextslicecap (0 + m) 0 * i.bytes > 2 ^ 48) := by omega
      have hle : ¬ (0 + m ≤ 0) := by omega
      have hq : (Question.appendCap (0 + m) 0 e).forced = false := rfl
      obtain ⟨r, hr⟩ : ∃ r, (Question.appendCap (0 + m) 0 e).cut (w.tape w.drawn (.appendCap (0 + m) 0 e)) = m + r :=
        ⟨(w.tape w.drawn (.appendCap (0 + m) 0 e)) % (2 ^ 63 - (0 + m)), by simp only [Question.cut]; omega⟩
      have : (sBi .append #[t, t2] ty [.slice none 0 0, x]).run P w = .ok (.value (.slice (some ⟨w.heap.size, 0, none⟩) (0 + m) (m + r))) ((dr w).alloc (.cells (news ++ (Builtin.zeroCells z.cells (m + r - (0 + m))).toList).toArray e)) := by
        have hfx' := firstCells_cl (P := P) (w := dr w) hx
        unfold sBi builtin
        simp only [Builtin.append_, List.getElem?_toArray, List.getElem?_cons_zero, List.getElem?_cons_succ]
        simp only [underlying, typeInfo, Sem.run_bind, run_program, Result.andThen_ok, hu, hu2, hi, Sem.run_pure, sizeOf_run hi, hsz, Bool.false_eq_true, if_false, hlx, hle, Bool.not_false, if_true, hnot, hfit', run_choose, hq, hr, run_askRoom]
        change ((Sem.run P _ (dr w)).andThen _).andThen _ = _
        simp only [Sem.run_bind, hfx', run_firstCells_none, Result.andThen_ok, hz', Sem.run_pure, newRow, run_newObj]
        have e1 : (#[] ++ news.toArray ++ Builtin.zeroCells z.cells (m + r - (0 + m)) : Array Value) = (news ++ (Builtin.zeroCells z.cells (m + r - (0 + m))).toList).toArray := by
          apply Array.ext'; simp
        rw [e1]
        rfl
      unfold Stp
      rw [this]
      refine hk _ _ ⟨by simp only [List.nil_append]; rw [hnl, Nat.zero_add], .inr ⟨w.heap.size, m + r, (Builtin.zeroCells z.cells (m + r - (0 + m))).toList, by rw [Nat.zero_add], hb _ (Nat.le_refl _), Own.alloc (dr w) _ _, ?_, by omega⟩⟩ ((Ext.dr w _).seq (Ext.alloc _ _ _))
      simp only [List.nil_append, List.length_append, Array.length_toList, zeroCells_length, hzs, hnl]
      rw [show m + r - (0 + m) = r from by omega, Nat.add_mul]
  · by_cases hc : n + m ≤ c
    · -- it fits
      have hroom : news.length ≤ rest.length := by
        rw [List.length_append, hlen] at h4
        have : (n + m) * sz ≤ c * sz := Nat.mul_le_mul_right _ hc
        rw [Nat.add_mul] at this; omega
      obtain ⟨w', s1, s2, s3, s4, _⟩ := storeCells_run (P := P) (M := S) h2 news w (n * sz) 0 (l ++ rest) h3 (by rw [List.length_append, hlen]; omega) hone
      have : (sBi .append #[t, t2] ty [.slice (some ⟨b, 0, none⟩) n c, x]).run P w = .ok (.value (.slice (some ⟨b, 0, none⟩) (n + m) c)) w' := by
        unfold sBi builtin
        simp only [Builtin.append_, List.getElem?_toArray, List.getElem?_cons_zero, List.getElem?_cons_succ]
        simp only [underlying, Sem.run_bind, run_program, Result.andThen_ok, hu, hu2, Sem.run_pure, sizeOf_run hi, hsz, Bool.false_eq_true, if_false, hlx, hc, if_true, Bool.not_false, hfx, add_at, Nat.zero_add, s1]
      unfold Stp
      rw [this]
      rw [Nat.add_zero, ← hlen, setAll_append _ _ _ hroom] at s2
      refine hk _ _ ⟨by rw [List.length_append, hlen, hnl, Nat.add_mul], .inr ⟨b, c, rest.drop news.length, rfl, h2, s2, ?_, hc⟩⟩ s3
      rw [← h4]; simp; omega
    · -- it grows
      have hfit := growslice_fits (need := n + m) (old := c) (bytes := i.bytes) (by omega) hbytes
      have hfit' : ¬ (Builtin.nextslicecap (n + m) c * i.bytes > 2 ^ 48) := by omega
      have hq : (Question.appendCap (n + m) c e).forced = false := rfl
      obtain ⟨r, hr⟩ : ∃ r, (Question.appendCap (n + m) c e).cut (w.tape w.drawn (.appendCap (n + m) c e)) = n + m + r :=
        ⟨(w.tape w.drawn (.appendCap (n + m) c e)) % (2 ^ 63 - (n + m)), by simp only [Question.cut]⟩
      have hold : Cl (dr w) sz (.slice (some ⟨b, 0, none⟩) n c) n l := ⟨_, _, rfl, hlen, fun _ => ⟨b, 0, rfl, fun i hi => by
        show w.cell? _ = _
        rw [h3.cell, Nat.zero_add, List.getElem?_append_left hi]⟩⟩
      have : (sBi .append #[t, t2] ty [.slice (some ⟨b, 0, none⟩) n c, x]).run P w = .ok (.value (.slice (some ⟨w.heap.size, 0, none⟩) (n + m) (n + m + r))) ((dr w).alloc (.cells (l ++ news ++ (Builtin.zeroCells z.cells (n + m + r - (n + m))).toList).toArray e)) := by
        have hfx' := firstCells_cl (P := P) (w := dr w) hx
        have hfo := firstCells_cl (P := P) hold
        unfold sBi builtin
        simp only [Builtin.append_, List.getElem?_toArray, List.getElem?_cons_zero, List.getElem?_cons_succ]
        simp only [underlying, typeInfo, Sem.run_bind, run_program, Result.andThen_ok, hu, hu2, hi, Sem.run_pure, sizeOf_run hi, hsz, Bool.false_eq_true, if_false, hlx, hc, Bool.not_false, if_true, hnot, hfit', run_choose, hq, hr, run_askRoom]
        change ((Sem.run P _ (dr w)).andThen _).andThen _ = _
        simp only [Sem.run_bind, hfx', hfo, Result.andThen_ok, hz', Sem.run_pure, newRow, run_newObj]
        have e1 : (l.toArray ++ news.toArray ++ Builtin.zeroCells z.cells (n + m + r - (n + m)) : Array Value) = (l ++ news ++ (Builtin.zeroCells z.cells (n + m + r - (n + m))).toList).toArray := by
          apply Array.ext'; simp
        rw [e1]
        rfl
      unfold Stp
      rw [this]
      refine hk _ _ ⟨by rw [List.length_append, hlen, hnl, Nat.add_mul], .inr ⟨w.heap.size, n + m + r, _, rfl, hb _ (Nat.le_refl _), Own.alloc (dr w) _ _, ?_, by omega⟩⟩ ((Ext.dr w _).seq (Ext.alloc _ _ _))
      simp only [List.length_append, Array.length_toList, zeroCells_length, hzs, hnl, hlen]
      rw [show n + m + r - (n + m) = r from by omega, Nat.add_mul, Nat.add_mul]
theorem stp_append {base sz n m : Nat} {i : TypeInfo} {z : Value} {ty t2 e2 : TypeId} (hu : P.underlying t = some (.slice e)) (hu2 : P.underlying t2 = some (.slice e2)) (hi : P.info? e = some i) (hsz : i.size = sz) (hz : i.zero = some z) (hzs : z.cells.size = sz)
    {v x : Value} {l news : List Value} (h : OSl w base sz v n l) (hx : Cl w sz x m news) (hone : ∀ y ∈ news, one y = true) (hb : base ≤ w.heap.size)
    (hn : n + m ≤ 9223372036854775807) (hbytes : (n + m) * i.bytes ≤ 140737488355328) (_hpos : i.bytes ≠ 0)
    {K : Value → World → Prop} (hk : ∀ v' w', OSl w' base sz v' (n + m) (l ++ news) → Ext w w' (fun y => base ≤ y) → K v' w') : Stp P (sBi .append #[t, t2] ty [v, x]) w K :=
  stp_appendS (S := fun y => base ≤ y) hu hu2 hi hsz hz hzs h hx hone (fun _ h => Nat.le_trans hb h) hn hbytes _hpos hk

end
end Go.En
