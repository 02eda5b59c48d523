/- Parts of the proof of TablesGiven: merged and given short names by a program of ours. -/
import Derived.Laws.Strings
import Derived.Laws.StructEq
import Derived.KernelRfl
import Derived.Test.YtoepfjgekpdddaaDoorZGA
namespace Go.En
open Go
def Cl (w : World) (sz : Nat) (v : Value) (n : Nat) (l : List Value) : Prop :=
  ∃ a c, v = .slice a n c ∧ l.length = n * sz ∧ (0 < n → ∃ b off, a = some ⟨b, off, none⟩ ∧ ∀ i, i < l.length → w.cell? ⟨b, off + i, none⟩ = l[i]?)
def yL (w : World) (base sz : Nat) (v : Value) (n : Nat) (l : List Value) : Prop :=
  l.length = n * sz ∧ ((v = .slice none 0 0 ∧ n = 0) ∨
    ∃ b c rest, v = .slice (some ⟨b, 0, none⟩) n c ∧ base ≤ b ∧ iE w b (l ++ rest) ∧ (l ++ rest).length = c * sz ∧ n ≤ c)
def IW (w : World) (S : Nat → Prop) (sz : Nat) (v : Value) (n : Nat) (l : List Value) : Prop :=
  l.length = n * sz ∧ ((v = .slice none 0 0 ∧ n = 0) ∨
    ∃ b c rest, v = .slice (some ⟨b, 0, none⟩) n c ∧ S b ∧ iE w b (l ++ rest) ∧ (l ++ rest).length = c * sz ∧ n ≤ c)
theorem Sl.cl {w : World} {v : Value} {l : List Value} (h : Sl w v l) : Cl w 1 v l.length l := by
  obtain ⟨a, n, c, rfl, rfl, hc, h⟩ := h
  exact ⟨a, c, rfl, by omega, fun h0 => h h0⟩
theorem iE.cl {w : World} {b sz n c off : Nat} {cs l : List Value} (h : iE w b cs) (hl : l.length = n * sz) (hcs : ∀ i, i < l.length → cs[off + i]? = l[i]?) : Cl w sz (.slice (some ⟨b, off, none⟩) n c) n l :=
  ⟨_, _, rfl, hl, fun _ => ⟨b, off, rfl, fun i hi => by rw [h.cell, hcs i hi]⟩⟩
theorem yL.nil (w : World) (base sz : Nat) : yL w base sz (.slice none 0 0) 0 [] := ⟨by simp, .inl ⟨rfl, rfl⟩⟩
theorem yL.ext {w w' : World} {base sz n : Nat} {v : Value} {l : List Value} {M : Nat → Prop} (h : yL w base sz v n l) (hx : gA w w' M) (hM : ∀ b, base ≤ b → ¬ M b) : yL w' base sz v n l := by
  refine ⟨h.1, ?_⟩
  rcases h.2 with h2 | ⟨b, c, rest, h1, h2, h3, h4, h5⟩
  · exact .inl h2
  · exact .inr ⟨b, c, rest, h1, h2, h3.ext hx (hM b h2), h4, h5⟩
theorem yL.cl {w : World} {base sz n : Nat} {v : Value} {l : List Value} (h : yL w base sz v n l) : Cl w sz v n l := by
  rcases h.2 with ⟨rfl, rfl⟩ | ⟨b, c, rest, rfl, h2, h3, h4, h5⟩
  · exact ⟨_, _, rfl, h.1, fun h => by omega⟩
  · refine ⟨_, _, rfl, h.1, fun _ => ⟨b, 0, rfl, fun i hi => ?_⟩⟩
    rw [h3.cell, Nat.zero_add, List.getElem?_append_left hi]
theorem yL.sl {w : World} {base n : Nat} {v : Value} {l : List Value} (h : yL w base 1 v n l) : Sl w v l := by
  have hl := h.1
  rcases h.2 with ⟨rfl, rfl⟩ | ⟨b, c, rest, rfl, h2, h3, h4, h5⟩
  · exact ⟨_, _, _, rfl, by omega, by omega, fun h => by omega⟩
  · refine ⟨_, _, _, rfl, by omega, h5, fun _ => ⟨b, 0, rfl, fun i hi => ?_⟩⟩
    rw [h3.cell, Nat.zero_add, List.getElem?_append_left (by omega)]
section
variable {P : Program} {w : World} {t e : TypeId}
theorem AO {b off : Nat} {l : List Value} (h : ∀ i, i < l.length → w.cell? ⟨b, off + i, none⟩ = l[i]?) : (loadCells ⟨b, off, none⟩ l.length).run P w = .ok l.toArray w := by
  have := Eh (P := P) h l.length (Nat.le_refl _)
  rwa [List.take_length] at this
theorem mI {sz n : Nat} {v : Value} {l : List Value} (h : Cl w sz v n l) : (Builtin.firstCells sz n v).run P w = .ok l.toArray w := by
  obtain ⟨x, c, rfl, hl, hh⟩ := h
  cases x with
  | none =>
    have : n = 0 := by
      rcases Nat.eq_zero_or_pos n with h | h
      · exact h
      · obtain ⟨b, off, e, _⟩ := hh h; cases e
    subst this
    have : l = [] := List.length_eq_zero_iff.1 (by omega)
    subst this
    simp [Builtin.firstCells]
  | some x =>
    simp only [Builtin.firstCells]
    rw [← hl]
    by_cases h0 : 0 < n
    · obtain ⟨b, off, e, h2⟩ := hh h0
      have e := Option.some.inj e; subst e
      exact AO h2
    · have : n = 0 := by omega
      subst this
      have : l = [] := List.length_eq_zero_iff.1 (by omega)
      subst this
      simp [loadCells, loadCellsFrom]
theorem jC (zs : Array Value) (n : Nat) : (Builtin.zeroCells zs n).size = n * zs.size := by simp [Builtin.zeroCells]
theorem tP (vs : List Value) : ∀ (I8 rest : List Value), vs.length ≤ rest.length → gC (I8 ++ rest) I8.length vs = I8 ++ vs ++ rest.drop vs.length := by
  induction vs with
  | nil => intro I8 rest _; simp [gC]
  | cons v vs ih =>
    intro I8 rest h
    cases rest with
    | nil => simp at h
    | cons r rest =>
      have := ih (I8 ++ [v]) rest (by simpa using h)
      simp only [gC, List.length_append, List.length_cons, List.length_nil, List.append_assoc, List.cons_append, List.nil_append] at this ⊢
      rw [List.drop_succ_cons, ← this, List.set_append_right _ _ (Nat.le_refl _), Nat.sub_self, List.set_cons_zero, Nat.zero_add]
theorem EB {S : Nat → Prop} {sz n m : Nat} {i : TypeInfo} {z : Value} {ty t2 e2 : TypeId} (hu : P.underlying t = some (.slice e)) (hu2 : P.underlying t2 = some (.slice e2)) (hi : P.info? e = some i) (hsz : i.size = sz) (hz : i.zero = some z) (hzs : z.cells.size = sz)
    {v x : Value} {l news : List Value} (h : IW w S sz v n l) (hx : Cl w sz x m news) (hone : ∀ y ∈ news, one y = true) (hb : ∀ b, w.heap.size ≤ b → S b)
    (hn : n + m ≤ 9223372036854775807) (hbytes : (n + m) * i.bytes ≤ 140737488355328) (_hpos : i.bytes ≠ 0)
    {K : Value → World → Prop} (hk : ∀ v' w', IW w' S sz v' (n + m) (l ++ news) → gA w w' S → K v' w') : cJ P (mM .append #[t, t2] ty [v, x]) w K := by
  have hlx : (Builtin.lenOf x).run P w = .ok m w := by
    obtain ⟨a, c, rfl, _⟩ := hx; simp [Builtin.lenOf]
  have hnl := hx.choose_spec.choose_spec.2.1
  have hfx := mI (P := P) hx
  have hmax : IntKind.i64.max = 9223372036854775807 := by decide
  have hnot : ¬ (((n + m : Nat) : Int) > IntKind.i64.max ∧ (False ∨ i.bytes = 0)) := by rw [hmax]; omega
  have hz' : ∀ w, (zeroValue e).run P w = .ok z w := fun w => by simp [zeroValue, typeInfo, hi, hz]
  have hlen := h.1
  rcases h.2 with ⟨rfl, rfl⟩ | ⟨b, c, rest, rfl, h2, h3, h4, h5⟩
  ·
    have hl0 : l = [] := List.length_eq_zero_iff.1 (by omega)
    subst hl0
    by_cases hm : m = 0
    · subst hm
      have hn0 : news = [] := List.length_eq_zero_iff.1 (by omega)
      subst hn0
      have : (mM .append #[t, t2] ty [.slice none 0 0, x]).run P w = .ok (.value (.slice none 0 0)) w := by
        unfold mM builtin
        simp only [Builtin.append_, List.getElem?_toArray, List.getElem?_cons_zero, List.getElem?_cons_succ]
        simp only [underlying, Sem.run_bind, run_program, Result.andThen_ok, hu, hu2, Sem.run_pure, gO hi, hsz, Bool.false_eq_true, if_false, hlx, Nat.le_refl, Nat.add_zero, if_true, Bool.not_false, hfx]
      unfold cJ
      rw [this]
      exact hk _ _ ⟨by simp, .inl ⟨rfl, by omega⟩⟩ (gA.refl _ _)
    · have hfit := growslice_fits (need := 0 + m) (old := 0) (bytes := i.bytes) (by omega) (by omega)
      have hfit' : ¬ (Builtin.nextslicecap (0 + m) 0 * i.bytes > 2 ^ 48) := by omega
      have hle : ¬ (0 + m ≤ 0) := by omega
      have hq : (Question.appendCap (0 + m) 0 e).forced = false := rfl
      obtain ⟨r, hr⟩ : ∃ r, (Question.appendCap (0 + m) 0 e).cut (w.tape w.drawn (.appendCap (0 + m) 0 e)) = m + r :=
        ⟨(w.tape w.drawn (.appendCap (0 + m) 0 e)) % (2 ^ 63 - (0 + m)), by simp only [Question.cut]; omega⟩
      have : (mM .append #[t, t2] ty [.slice none 0 0, x]).run P w = .ok (.value (.slice (some ⟨w.heap.size, 0, none⟩) (0 + m) (m + r))) ((dr w).alloc (.cells (news ++ (Builtin.zeroCells z.cells (m + r - (0 + m))).toList).toArray e)) := by
        have hfx' := mI (P := P) (w := dr w) hx
        unfold mM builtin
        simp only [Builtin.append_, List.getElem?_toArray, List.getElem?_cons_zero, List.getElem?_cons_succ]
        simp only [underlying, typeInfo, Sem.run_bind, run_program, Result.andThen_ok, hu, hu2, hi, Sem.run_pure, gO hi, hsz, Bool.false_eq_true, if_false, hlx, hle, Bool.not_false, if_true, hnot, hfit', run_choose, hq, hr, run_askRoom]
        change ((Sem.run P _ (dr w)).andThen _).andThen _ = _
        simp only [Sem.run_bind, hfx', run_firstCells_none, Result.andThen_ok, hz', Sem.run_pure, newRow, run_newObj]
        have e1 : (#[] ++ news.toArray ++ Builtin.zeroCells z.cells (m + r - (0 + m)) : Array Value) = (news ++ (Builtin.zeroCells z.cells (m + r - (0 + m))).toList).toArray := by
          apply Array.ext'; simp
        rw [e1]
        rfl
      unfold cJ
      rw [this]
      refine hk _ _ ⟨by simp only [List.nil_append]; rw [hnl, Nat.zero_add], .inr ⟨w.heap.size, m + r, (Builtin.zeroCells z.cells (m + r - (0 + m))).toList, by rw [Nat.zero_add], hb _ (Nat.le_refl _), iE.alloc (dr w) _ _, ?_, by omega⟩⟩ ((gA.dr w _).seq (gA.alloc _ _ _))
      simp only [List.nil_append, List.length_append, Array.length_toList, jC, hzs, hnl]
      rw [show m + r - (0 + m) = r from by omega, Nat.add_mul]
  · by_cases hc : n + m ≤ c
    ·
      have hroom : news.length ≤ rest.length := by
        rw [List.length_append, hlen] at h4
        have : (n + m) * sz ≤ c * sz := Nat.mul_le_mul_right _ hc
        rw [Nat.add_mul] at this; omega
      obtain ⟨w', s1, s2, s3, s4, _⟩ := rK (P := P) (M := S) h2 news w (n * sz) 0 (l ++ rest) h3 (by rw [List.length_append, hlen]; omega) hone
      have : (mM .append #[t, t2] ty [.slice (some ⟨b, 0, none⟩) n c, x]).run P w = .ok (.value (.slice (some ⟨b, 0, none⟩) (n + m) c)) w' := by
        unfold mM builtin
        simp only [Builtin.append_, List.getElem?_toArray, List.getElem?_cons_zero, List.getElem?_cons_succ]
        simp only [underlying, Sem.run_bind, run_program, Result.andThen_ok, hu, hu2, Sem.run_pure, gO hi, hsz, Bool.false_eq_true, if_false, hlx, hc, if_true, Bool.not_false, hfx, tV, Nat.zero_add, s1]
      unfold cJ
      rw [this]
      rw [Nat.add_zero, ← hlen, tP _ _ _ hroom] at s2
      refine hk _ _ ⟨by rw [List.length_append, hlen, hnl, Nat.add_mul], .inr ⟨b, c, rest.drop news.length, rfl, h2, s2, ?_, hc⟩⟩ s3
      rw [← h4]; simp; omega
    ·
      have hfit := growslice_fits (need := n + m) (old := c) (bytes := i.bytes) (by omega) hbytes
      have hfit' : ¬ (Builtin.nextslicecap (n + m) c * i.bytes > 2 ^ 48) := by omega
      have hq : (Question.appendCap (n + m) c e).forced = false := rfl
      obtain ⟨r, hr⟩ : ∃ r, (Question.appendCap (n + m) c e).cut (w.tape w.drawn (.appendCap (n + m) c e)) = n + m + r :=
        ⟨(w.tape w.drawn (.appendCap (n + m) c e)) % (2 ^ 63 - (n + m)), by simp only [Question.cut]⟩
      have hold : Cl (dr w) sz (.slice (some ⟨b, 0, none⟩) n c) n l := ⟨_, _, rfl, hlen, fun _ => ⟨b, 0, rfl, fun i hi => by
        show w.cell? _ = _
        rw [h3.cell, Nat.zero_add, List.getElem?_append_left hi]⟩⟩
      have : (mM .append #[t, t2] ty [.slice (some ⟨b, 0, none⟩) n c, x]).run P w = .ok (.value (.slice (some ⟨w.heap.size, 0, none⟩) (n + m) (n + m + r))) ((dr w).alloc (.cells (l ++ news ++ (Builtin.zeroCells z.cells (n + m + r - (n + m))).toList).toArray e)) := by
        have hfx' := mI (P := P) (w := dr w) hx
        have hfo := mI (P := P) hold
        unfold mM builtin
        simp only [Builtin.append_, List.getElem?_toArray, List.getElem?_cons_zero, List.getElem?_cons_succ]
        simp only [underlying, typeInfo, Sem.run_bind, run_program, Result.andThen_ok, hu, hu2, hi, Sem.run_pure, gO hi, hsz, Bool.false_eq_true, if_false, hlx, hc, Bool.not_false, if_true, hnot, hfit', run_choose, hq, hr, run_askRoom]
        change ((Sem.run P _ (dr w)).andThen _).andThen _ = _
        simp only [Sem.run_bind, hfx', hfo, Result.andThen_ok, hz', Sem.run_pure, newRow, run_newObj]
        have e1 : (l.toArray ++ news.toArray ++ Builtin.zeroCells z.cells (n + m + r - (n + m)) : Array Value) = (l ++ news ++ (Builtin.zeroCells z.cells (n + m + r - (n + m))).toList).toArray := by
          apply Array.ext'; simp
        rw [e1]
        rfl
      unfold cJ
      rw [this]
      refine hk _ _ ⟨by rw [List.length_append, hlen, hnl, Nat.add_mul], .inr ⟨w.heap.size, n + m + r, _, rfl, hb _ (Nat.le_refl _), iE.alloc (dr w) _ _, ?_, by omega⟩⟩ ((gA.dr w _).seq (gA.alloc _ _ _))
      simp only [List.length_append, Array.length_toList, jC, hzs, hnl, hlen]
      rw [show n + m + r - (n + m) = r from by omega, Nat.add_mul, Nat.add_mul]
theorem CZ {base sz n m : Nat} {i : TypeInfo} {z : Value} {ty t2 e2 : TypeId} (hu : P.underlying t = some (.slice e)) (hu2 : P.underlying t2 = some (.slice e2)) (hi : P.info? e = some i) (hsz : i.size = sz) (hz : i.zero = some z) (hzs : z.cells.size = sz)
    {v x : Value} {l news : List Value} (h : yL w base sz v n l) (hx : Cl w sz x m news) (hone : ∀ y ∈ news, one y = true) (hb : base ≤ w.heap.size)
    (hn : n + m ≤ 9223372036854775807) (hbytes : (n + m) * i.bytes ≤ 140737488355328) (_hpos : i.bytes ≠ 0)
    {K : Value → World → Prop} (hk : ∀ v' w', yL w' base sz v' (n + m) (l ++ news) → gA w w' (fun y => base ≤ y) → K v' w') : cJ P (mM .append #[t, t2] ty [v, x]) w K :=
  EB (S := fun y => base ≤ y) hu hu2 hi hsz hz hzs h hx hone (fun _ h => Nat.le_trans hb h) hn hbytes _hpos hk
end
end Go.En
namespace Go.En
open Go
section
variable {P : Program} {w : World} {t e : TypeId}
theorem zG {i : TypeInfo} {z : Value} {n : Nat} {ps : List (Nat × Value)} {cells : Array Value} (hu : P.underlying t = some (.slice e)) (hi : P.info? e = some i) (hz : i.zero = some z)
    (h1 : ¬ n * i.size > 2 ^ 24) (h0 : ¬ n * i.size = 0) (hf : Instr.fill (fun j => some (j * i.size, i.size)) ((Array.range (n * i.size)).map (z.cells[· % z.cells.size]!)) ps = some cells)
    {K : Value → World → Prop} (hk : ∀ w', iE w' w.heap.size cells.toList → gA w w' jQ → w'.heap.size = w.heap.size + 1 → K (.slice (some ⟨w.heap.size, 0, none⟩) n n) w') :
    cJ P (hZ t n ps) w K := by
  have hz' : (zeroValue e).run P w = .ok z w := by simp [zeroValue, typeInfo, hi, hz]
  have : (hZ t n ps).run P w = .ok (.value (.slice (some ⟨w.heap.size, 0, none⟩) n n)) (w.alloc (.cells cells.toList.toArray e)) := by
    unfold hZ; rw [kN]
    simp only [Instr.buildSlice, underlying, pure_bind, Sem.run_bind, run_program, Result.andThen_ok, hu, Sem.run_pure, gO hi, h1, h0, if_false, hz', hf, newRow, run_newObj]
    rfl
  unfold cJ
  rw [this]
  exact hk _ (iE.alloc _ _ _) (gA.alloc _ _ _) (by simp)
end
end Go.En
namespace Go.En
open Go
section
variable {P : Program} {w : World} {t e : TypeId}
def Iz (es : Array MapEntry) (clock : Nat) : Prop := (es.toList.map (·.born)).Pairwise (· < ·) ∧ ∀ e ∈ es.toList, e.born < clock
def Mp {κ : Type} (w : World) (m : Nat) (enc : κ → Value) (l : List (κ × Value)) : Prop :=
  ∃ es clock, w.heap[m]? = some (.map es clock) ∧ es.toList.map (fun e => (e.key, e.val)) = l.map (fun p => (enc p.1, p.2)) ∧ Iz es clock ∧ (l.map (·.1)).Nodup
theorem Mp.lt {κ : Type} {m : Nat} {enc : κ → Value} {l : List (κ × Value)} (h : Mp w m enc l) : m < w.heap.size := by
  obtain ⟨es, c, h, _⟩ := h
  rcases Nat.lt_or_ge m w.heap.size with h' | h'
  · exact h'
  · rw [Array.getElem?_eq_none h'] at h; cases h
theorem Mp.ext {κ : Type} {w w' : World} {m : Nat} {enc : κ → Value} {l : List (κ × Value)} {M : Nat → Prop} (h : Mp w m enc l) (hx : gA w w' M) (hM : ¬ M m) : Mp w' m enc l := by
  have := h.lt
  obtain ⟨es, c, h, k⟩ := h
  exact ⟨es, c, by rw [hx.keep m this hM]; exact h, k⟩
theorem Mp.dr {κ : Type} {w : World} {m : Nat} {enc : κ → Value} {l : List (κ × Value)} (h : Mp w m enc l) : Mp (dr w) m enc l := h
variable {κ : Type} [DecidableEq κ] {enc : κ → Value}
theorem Au {d : TypeDesc} {i : TypeInfo} (hu : P.underlying t = some d) (hd : F9 d = true) (hi : P.info? t = some i) {b off : Nat} {l : List Value} (hl : i.size = l.length) (h : ∀ j, j < l.length → w.cell? ⟨b, off + j, none⟩ = l[j]?) :
    (eF t (.pointer (some ⟨b, off, none⟩))).run P w = .ok (.value (.agg l.toArray)) w := by
  unfold eF
  rw [kN]
  simp only [Instr.loadAt, Instr.sureAddr, loadVar, pure_bind, Sem.run_bind, yA hu, hd, Result.andThen_ok, if_true, gO hi, hl, AO h, Sem.run_pure]
end
theorem jG {w : World} {b : Nat} {cs : List Value} (h : iE w b cs) : iE (dr w) b cs := h.ext (gA.dr w jQ) (fun h => h)
theorem Sl.dr {w : World} {v : Value} {l : List Value} (h : Sl w v l) : Sl (dr w) v l := h
theorem Sl.open {w : World} {v : Value} {l : List UInt8} (h : Bs w v l) (h0 : 0 < l.length) : ∃ b off c, v = .slice (some ⟨b, off, none⟩) l.length c ∧ l.length ≤ c ∧ ∀ i, (h : i < l.length) → w.cell? ⟨b, off + i, none⟩ = some (Hm l[i]) := by
  obtain ⟨a, n, c, rfl, hn, hc, h⟩ := h
  simp only [List.length_map] at hn
  subst hn
  obtain ⟨b, off, rfl, hh⟩ := h h0
  exact ⟨b, off, c, rfl, hc, fun i hi => by rw [hh i hi]; simp [hi]⟩
theorem Sl.len {w : World} {v : Value} {l : List Value} (h : Sl w v l) : ∃ a c, v = .slice a l.length c ∧ l.length ≤ c := by
  obtain ⟨a, n, c, rfl, rfl, hc, _⟩ := h
  exact ⟨a, c, rfl, hc⟩
theorem iM (v : Value) : ¬ Hh v jQ := by unfold Hh jQ; split <;> simp
end Go.En
namespace Go.En
open Go
theorem yL.len {w : World} {b sz n : Nat} {v : Value} {l : List Value} (h : yL w b sz v n l) : ∃ a c, v = .slice a n c := by
  rcases h.2 with ⟨rfl, rfl⟩ | ⟨x, c, r, rfl, _⟩
  · exact ⟨_, _, rfl⟩
  · exact ⟨_, _, rfl⟩
theorem Sl.nil (w : World) : Sl w (.slice none 0 0) [] := ⟨none, 0, 0, rfl, rfl, Nat.le_refl _, fun h => absurd h (by simp)⟩
theorem iE.whole {w : World} {b c : Nat} {l : List UInt8} (h : iE w b (l.map Hm)) (hc : l.length ≤ c) : Bs w (.slice (some ⟨b, 0, none⟩) l.length c) l :=
  h.bs hc fun i hi => by rw [Nat.zero_add]; simp [hi]
theorem Sl.openV {w : World} {v : Value} {l : List Value} (h : Sl w v l) (h0 : 0 < l.length) : ∃ b off c, v = .slice (some ⟨b, off, none⟩) l.length c ∧ l.length ≤ c ∧ ∀ i, (h : i < l.length) → w.cell? ⟨b, off + i, none⟩ = some l[i] := by
  obtain ⟨a, n, c, rfl, hn, hc, h⟩ := h
  subst hn
  obtain ⟨b, off, rfl, hh⟩ := h h0
  exact ⟨b, off, c, rfl, hc, fun i hi => by rw [hh i hi]; simp [hi]⟩
theorem Sl.openI {w : World} {v : Value} {k : IntKind} {l : List Int} (h : Sl w v (l.map (Value.int k))) (h0 : 0 < l.length) : ∃ b off c, v = .slice (some ⟨b, off, none⟩) l.length c ∧ l.length ≤ c ∧ ∀ i, (h : i < l.length) → w.cell? ⟨b, off + i, none⟩ = some (.int k l[i]) := by
  obtain ⟨b, off, c, e, hc, hh⟩ := h.openV (by simpa using h0)
  simp only [List.length_map] at e hc hh
  exact ⟨b, off, c, e, hc, fun i hi => by rw [hh i hi]; simp⟩
theorem Sl.lenI {w : World} {v : Value} {k : IntKind} {l : List Int} (h : Sl w v (l.map (Value.int k))) : ∃ a c, v = .slice a l.length c ∧ l.length ≤ c := by
  obtain ⟨a, c, e, hc⟩ := h.len
  simp only [List.length_map] at e hc
  exact ⟨a, c, e, hc⟩
def vH (n : Nat) (l : List Value) : List Value := (List.replicate n l).flatten
theorem Ad (n : Nat) (l : List Value) : (vH n l).length = n * l.length := by
  unfold vH; rw [List.length_flatten]; simp
theorem F4 : ∀ (n : Nat) (l : List Value) (j : Nat) (_ : j < n * l.length) (h0 : 0 < l.length), (vH n l)[j]? = some (l[j % l.length]'(Nat.mod_lt _ h0)) := by
  intro n
  induction n with
  | zero => intro l j h; simp at h
  | succ n ih =>
    intro l j h h0
    unfold vH
    rw [List.replicate_succ, List.flatten_cons]
    by_cases hj : j < l.length
    · rw [List.getElem?_append_left hj, List.getElem?_eq_getElem hj]
      simp only [Nat.mod_eq_of_lt hj]
    · rw [List.getElem?_append_right (by omega)]
      have := ih l (j - l.length) (by rw [Nat.succ_mul] at h; omega) h0
      unfold vH at this
      rw [this]
      simp only [← Nat.mod_eq_sub_mod (show j ≥ l.length by omega)]
theorem Gn {P : Program} {w : World} {t e : TypeId} {k : IntKind} {i : TypeInfo} {z : Value} {sz : Nat} (hu : P.underlying t = some (.slice e)) (hi : P.info? e = some i) (h1 : i.size = sz) (hsz : 0 < sz) (hz : i.zero = some z) (hz1 : z.cells.size = sz) {n : Int} (h0 : 0 ≤ n) (hn : i.bytes * n ≤ 2 ^ 48) (hn2 : n ≤ 9223372036854775807)
    {K : Value → World → Prop}
    (hk : ∀ w', iE w' w.heap.size (vH n.toNat z.cells.toList) → gA w w' jQ → w'.heap.size = w.heap.size + 1 → K (.slice (some ⟨w.heap.size, 0, none⟩) n.toNat n.toNat) w') :
    cJ P (mN t (.int k n) (.int k n)) w K := by
  have hw : IntKind.i64.wrap n = n := eM (by omega) hn2
  have hl : z.cells.toList.length = sz := by simpa using hz1
  have harr : (Array.range (n.toNat * sz)).map (fun j => z.cells[j % z.cells.size]!) = (vH n.toNat z.cells.toList).toArray := by
    apply Array.ext
    · simp [Ad, hz1]
    · intro j h1 h2
      have hj : j < n.toNat * sz := by simpa using h1
      have := F4 n.toNat z.cells.toList j (by rw [hl]; exact hj) (by rw [hl]; exact hsz)
      have hm : j % z.cells.size < z.cells.size := Nat.mod_lt _ (by omega)
      simp only [Array.getElem_map, Array.getElem_range, List.getElem_toArray]
      rw [getElem!_pos z.cells _ hm]
      rw [List.getElem?_eq_getElem (by rw [Ad, hl]; exact hj)] at this
      have := Option.some.inj this
      rw [this]
      simp
  have hz' : (zeroValue e).run P w = .ok z w := by simp [zeroValue, typeInfo, hi, hz]
  have : (mN t (.int k n) (.int k n)).run P w = .ok (.value (.slice (some ⟨w.heap.size, 0, none⟩) n.toNat n.toNat)) (w.alloc (.cells (vH n.toNat z.cells.toList).toArray e)) := by
    unfold mN
    rw [kN]
    have t1 : (decide (n < 0) || decide ((i.bytes : Int) * n > 2 ^ 48) || decide (n < 0) || decide (n > n)) = false := by
      simp only [Bool.or_eq_false_iff, decide_eq_false_iff_not]; omega
    by_cases hn0 : n.toNat * sz = 0
    · simp only [Instr.makeSlice, underlying, typeInfo, asInt, asIntOf, pure_bind, Sem.run_bind, run_program, Result.andThen_ok, hu, hi, Sem.run_pure, hw, t1, Bool.false_eq_true, if_false, run_askRoom, gO hi, h1, hn0, if_true, newRow, run_newObj]
      have hn : n.toNat = 0 := by rcases Nat.mul_eq_zero.1 hn0 with h | h <;> omega
      have : (Array.range 0).map (fun x => (#[] : Array Value)[x % (#[] : Array Value).size]!) = (vH n.toNat z.cells.toList).toArray := by rw [hn]; simp [vH]
      rw [this]
      rfl
    · simp only [Instr.makeSlice, underlying, typeInfo, asInt, asIntOf, pure_bind, Sem.run_bind, run_program, Result.andThen_ok, hu, hi, Sem.run_pure, hw, t1, Bool.false_eq_true, if_false, run_askRoom, gO hi, h1, hn0, hz', newRow, run_newObj, harr]
      rfl
  unfold cJ
  rw [this]
  exact hk _ (iE.alloc _ _ _) (gA.alloc _ _ _) (by simp)
abbrev T3 := Int × Int × Int
def fe (k : IntKind) : List T3 → List Value
  | [] => []
  | e :: r => .int k e.1 :: .int .i64 e.2.1 :: .int .i64 e.2.2 :: fe k r
theorem mE (k : IntKind) : ∀ L : List T3, (fe k L).length = L.length * 3
  | [] => rfl
  | e :: r => by simp [fe, mE k r]; omega
theorem C4 (k : IntKind) : ∀ (L : List T3) (i : Nat) (h : i < L.length), (fe k L)[i * 3]? = some (.int k L[i].1) ∧ (fe k L)[i * 3 + 1]? = some (.int .i64 L[i].2.1) ∧ (fe k L)[i * 3 + 2]? = some (.int .i64 L[i].2.2)
  | [], i, h => by simp at h
  | e :: r, 0, _ => ⟨rfl, rfl, rfl⟩
  | e :: r, i + 1, h => by
    have := C4 k r i (by simpa using h)
    rw [Nat.add_mul]
    exact this
theorem Ea (k : IntKind) : ∀ (L : List T3) (i : Nat) (h : i < L.length) (x : Int), (fe k L).set (i * 3) (.int k x) = fe k (L.set i (x, L[i].2)) ∧ (fe k L).set (i * 3 + 1) (.int .i64 x) = fe k (L.set i (L[i].1, x, L[i].2.2)) ∧ (fe k L).set (i * 3 + 2) (.int .i64 x) = fe k (L.set i (L[i].1, L[i].2.1, x))
  | [], i, h, _ => by simp at h
  | e :: r, 0, _, x => ⟨rfl, rfl, rfl⟩
  | e :: r, i + 1, h, x => by
    have := Ea k r i (by simpa using h) x
    rw [Nat.add_mul]
    obtain ⟨h1, h2, h3⟩ := this
    refine ⟨?_, ?_, ?_⟩
    · show (_ :: _ :: _ :: (fe k r).set (i * 3) _) = _; rw [h1] <;> rfl
    · show (_ :: _ :: _ :: (fe k r).set (i * 3 + 1) _) = _; rw [h2] <;> rfl
    · show (_ :: _ :: _ :: (fe k r).set (i * 3 + 2) _) = _; rw [h3] <;> rfl
theorem Fx (k : IntKind) (x : Int) : ∀ n : Nat, vH n [.int k x, .int .i64 0, .int .i64 0] = fe k (List.replicate n (x, 0, 0))
  | 0 => rfl
  | n + 1 => by
    have := Fx k x n
    unfold vH at this ⊢
    rw [List.replicate_succ, List.flatten_cons, this, List.replicate_succ] <;> rfl
end Go.En
namespace Go.Proofs.YtoepfjgekpdddaaDoor
open Go Go.En
set_option linter.unusedVariables false
set_option maxRecDepth 4000
theorem Gq : (pg).info? 5 = some Tryd.t5 := by kernel_rfl
theorem Eu {n : Nat} {ps : List (Nat × Value)} {cells : Array Value} {w : World} (h1 : ¬ n * 1 > 2 ^ 24) (h0 : ¬ n * 1 = 0) (hf : Go.Instr.fill (fun j => some (j * 1, 1)) ((Array.range (n * 1)).map ((Tryd.t5.zero.get!).cells[· % (Tryd.t5.zero.get!).cells.size]!)) ps = some cells) {K : Value → World → Prop} (hk : ∀ w', iE w' w.heap.size cells.toList → gA w w' jQ → w'.heap.size = w.heap.size + 1 → K (.slice (some ⟨w.heap.size, 0, none⟩) n n) w') : cJ pg (hZ 22 n ps) w K := zG (i := Tryd.t5) Tryd.underlying22 Gq rfl h1 h0 hf hk
theorem cR  (w : World) : (gJ 26 []).run pg w = .ok (.value (.agg #[(.int .i64 0), (.slice none 0 0)])) w := by kernel_rfl
theorem FB : (pg).info? 26 = some Tryd.t26 := by kernel_rfl
theorem hX {w : World} {K : Value → World → Prop} (hk : ∀ w', iE w' w.heap.size [(.int .i64 0), (.slice none 0 0)] → gA w w' jQ → w'.heap.size = w.heap.size + 1 → K (.pointer (some ⟨w.heap.size, 0, none⟩)) w') : cJ pg (iF 26) w K := pG (i := Tryd.t26) FB rfl hk
theorem gK {b off : Nat} {cs : List Value} {w : World} {xs : Array Value} {K : Value → World → Prop} (ho : iE w b cs) (hs : xs.size = 2) (hv : ∀ x ∈ xs.toList, one x = true) (h : off + 2 ≤ cs.length) (hk : ∀ w', iE w' b (gC cs off xs.toList) → gA w w' (fun x => x = b) → w'.heap.size = w.heap.size → K undef w') : cJ pg (fC 26 (.pointer (some ⟨b, off, none⟩)) (.agg xs)) w K := mZ (v := .agg xs) FB ho hs hv h hk
theorem IK : (pg).info? 24 = some Tryd.t24 := by kernel_rfl
theorem aZ (b o : Nat) (w : World) : (eH 26 (.pointer (some ⟨b, o, none⟩)) 1).run pg w = .ok (.value (.pointer (some ⟨b, o + 1, none⟩))) w := iX (i := 1) Tryd.underlying26 rfl IK (by decide) _
theorem bU (x : Addr) (w : World) : (eF 24 (.pointer (some x))).run pg w = Gw (w.cell? x) w (Gv pg 24 x w) := D3 Tryd.underlying24 rfl x w
theorem bW {ty : TypeId} (x : Option Addr) (n c : Nat) (w : World) : (mM .len #[24] ty [.slice x n c]).run pg w = .ok (.value (.int .i64 n)) w := BS Tryd.underlying24 x n c
theorem FI : (pg).info? 32 = some Tryd.t32 := by kernel_rfl
theorem bV {k : IntKind} {a : Int} (b o n c : Nat) (w : World) (h0 : 0 ≤ a) (h1 : a < n) : (iC 24 (.slice (some ⟨b, o, none⟩) n c) (.int k a)).run pg w = .ok (.value (.pointer (some ⟨b, o + a.toNat * 3, none⟩))) w := DD rfl Tryd.underlying24 FI b o n c h0 h1
theorem bC (b o : Nat) (w : World) : (eH 32 (.pointer (some ⟨b, o, none⟩)) 0).run pg w = .ok (.value (.pointer (some ⟨b, o, none⟩))) w := iX (i := 0) Tryd.underlying32 rfl Gq (by decide) _
theorem eA (x : Addr) (w : World) : (eF 5 (.pointer (some x))).run pg w = Gw (w.cell? x) w (Gv pg 5 x w) := D3 Tryd.underlying5 rfl x w
theorem kS {b off : Nat} {cs : List Value} {w : World} (ho : iE w b cs) (h : off + 2 ≤ cs.length) {K : Value → Prop} (hk : K (.agg ((cs.drop off).take 2).toArray)) : zN pg 26 (.pointer (some ⟨b, off, none⟩)) w K := FJ Tryd.underlying26 rfl FB ho h hk
theorem mK {b off : Nat} {cs : List Value} {w : World} (ho : iE w b cs) (h : off + 2 ≤ cs.length) : (eF 26 (.pointer (some ⟨b, off, none⟩))).run pg w = .ok (.value (.agg ((cs.drop off).take 2).toArray)) w := DS Tryd.underlying26 rfl FB ho h
theorem dE {ty : TypeId} (x : Option Addr) (n c : Nat) (w : World) : (mM .len #[22] ty [.slice x n c]).run pg w = .ok (.value (.int .i64 n)) w := BS Tryd.underlying22 x n c
theorem dH {k : IntKind} {a : Int} (b o n c : Nat) (w : World) (h0 : 0 ≤ a) (h1 : a < n) : (iC 22 (.slice (some ⟨b, o, none⟩) n c) (.int k a)).run pg w = .ok (.value (.pointer (some ⟨b, o + a.toNat, none⟩))) w := yK rfl Tryd.underlying22 Gq b o n c h0 h1
theorem cX {k : IntKind} (a : Int) (w : World) : (nB 5 3 (.int k a)).run pg w = .ok (.value (.int .i64 (IntKind.i64.wrap a))) w := tK Tryd.underlying5 Tryd.underlying3
theorem FP : (pg).info? 51 = some Tryd.t51 := by kernel_rfl
theorem kK {w : World} {K : Value → World → Prop} (hk : ∀ w', iE w' w.heap.size [(.int .i64 0), (.slice none 0 0)] → gA w w' jQ → w'.heap.size = w.heap.size + 1 → K (.pointer (some ⟨w.heap.size, 0, none⟩)) w') : cJ pg (iF 51) w K := pG (i := Tryd.t51) FP rfl hk
theorem iA {b off : Nat} {cs : List Value} {w : World} {xs : Array Value} {K : Value → World → Prop} (ho : iE w b cs) (hs : xs.size = 2) (hv : ∀ x ∈ xs.toList, one x = true) (h : off + 2 ≤ cs.length) (hk : ∀ w', iE w' b (gC cs off xs.toList) → gA w w' (fun x => x = b) → w'.heap.size = w.heap.size → K undef w') : cJ pg (fC 51 (.pointer (some ⟨b, off, none⟩)) (.agg xs)) w K := mZ (v := .agg xs) FP ho hs hv h hk
theorem iJ {b off : Nat} {cs : List Value} {w : World} (ho : iE w b cs) (h : off + 2 ≤ cs.length) : (eF 51 (.pointer (some ⟨b, off, none⟩))).run pg w = .ok (.value (.agg ((cs.drop off).take 2).toArray)) w := DS Tryd.underlying51 rfl FP ho h
theorem rA : (pg).info? 3 = some Tryd.t3 := by kernel_rfl
theorem aI (b o : Nat) (w : World) : (eH 51 (.pointer (some ⟨b, o, none⟩)) 0).run pg w = .ok (.value (.pointer (some ⟨b, o, none⟩))) w := iX (i := 0) Tryd.underlying51 rfl rA (by decide) _
theorem eE (x : Addr) (w : World) : (eF 3 (.pointer (some x))).run pg w = Gw (w.cell? x) w (Gv pg 3 x w) := D3 Tryd.underlying3 rfl x w
theorem bO (n0 : Int) (a1 : Option Addr) (l1 c1 : Nat) (w : World) : (gJ 26 [(0, (.int .i64 n0)), (1, (.slice a1 l1 c1))]).run pg w = .ok (.value (.agg #[(.int .i64 n0), (.slice a1 l1 c1)])) w := by kernel_rfl
theorem G7 : (pg).info? 30 = some Tryd.t30 := by kernel_rfl
theorem aE (b o : Nat) (w : World) : (eH 51 (.pointer (some ⟨b, o, none⟩)) 1).run pg w = .ok (.value (.pointer (some ⟨b, o + 1, none⟩))) w := iX (i := 1) Tryd.underlying51 rfl G7 (by decide) _
theorem dJ (x : Addr) (w : World) : (eF 30 (.pointer (some x))).run pg w = Gw (w.cell? x) w (Gv pg 30 x w) := D3 Tryd.underlying30 rfl x w
theorem dK {ty : TypeId} (x : Option Addr) (n c : Nat) (w : World) : (mM .len #[30] ty [.slice x n c]).run pg w = .ok (.value (.int .i64 n)) w := BS Tryd.underlying30 x n c
theorem FW {k : IntKind} {n : Int} {w : World} {K : Value → World → Prop} (h0 : 0 ≤ n) (hn : 8 * n ≤ 2 ^ 48) (hk : ∀ w', iE w' w.heap.size (List.replicate n.toNat (.int .i64 0)) → gA w w' jQ → w'.heap.size = w.heap.size + 1 → K (.slice (some ⟨w.heap.size, 0, none⟩) n.toNat n.toNat) w') : cJ pg (mN 30 (.int k n) (.int k n)) w K := GQ (i := Tryd.t3) Tryd.underlying30 rA rfl rfl rfl h0 hn (by omega) hk
theorem dL {k : IntKind} {a : Int} (b o n c : Nat) (w : World) (h0 : 0 ≤ a) (h1 : a < n) : (iC 30 (.slice (some ⟨b, o, none⟩) n c) (.int k a)).run pg w = .ok (.value (.pointer (some ⟨b, o + a.toNat, none⟩))) w := yK rfl Tryd.underlying30 rA b o n c h0 h1
theorem CM {b off : Nat} {cs : List Value} {w : World} {v : Value} {K : Value → World → Prop} (ho : iE w b cs) (hv : one v = true) (h : off < cs.length) (hk : ∀ w', iE w' b (cs.set off v) → gA w w' (fun x => x = b) → w'.heap.size = w.heap.size → K undef w') : cJ pg (fC 3 (.pointer (some ⟨b, off, none⟩)) v) w K := yV rA rfl ho hv h hk
theorem dD {k : IntKind} (a : Int) (w : World) : (nB 3 75 (.int k a)).run pg w = .ok (.value (.int .u64 (IntKind.u64.wrap a))) w := tK Tryd.underlying3 Tryd.underlying75
theorem bK (b o : Nat) (w : World) : (eH 32 (.pointer (some ⟨b, o, none⟩)) 1).run pg w = .ok (.value (.pointer (some ⟨b, o + 1, none⟩))) w := iX (i := 1) Tryd.underlying32 rfl rA (by decide) _
theorem bN (b o : Nat) (w : World) : (eH 32 (.pointer (some ⟨b, o, none⟩)) 2).run pg w = .ok (.value (.pointer (some ⟨b, o + 2, none⟩))) w := iX (i := 2) Tryd.underlying32 rfl rA (by decide) _
theorem iW {b off : Nat} {cs : List Value} {w : World} (ho : iE w b cs) (h : off + 2 ≤ cs.length) {K : Value → Prop} (hk : K (.agg ((cs.drop off).take 2).toArray)) : zN pg 51 (.pointer (some ⟨b, off, none⟩)) w K := FJ Tryd.underlying51 rfl FP ho h hk
theorem G2 : (pg).info? 76 = some Tryd.t76 := by kernel_rfl
theorem D8 {b off : Nat} {l : List Value} {w : World} (hl : l.length = 36) (h : ∀ j, j < l.length → w.cell? ⟨b, off + j, none⟩ = l[j]?) : (eF 76 (.pointer (some ⟨b, off, none⟩))).run pg w = .ok (.value (.agg l.toArray)) w := Au Tryd.underlying76 rfl G2 hl.symm h
theorem EJ {w : World} {K : Value → World → Prop} (hk : ∀ w', iE w' w.heap.size [(.int .i64 0), (.int .i64 0), (.int .i64 0), (.int .i64 0), (.int .i64 0), (.int .i64 0), (.int .i64 0), (.int .i64 0), (.int .i64 0), (.int .i64 0), (.int .i64 0), (.int .i64 0), (.int .i64 0), (.int .i64 0), (.int .i64 0), (.int .i64 0), (.int .i64 0), (.int .i64 0), (.int .i64 0), (.int .i64 0), (.int .i64 0), (.int .i64 0), (.int .i64 0), (.int .i64 0), (.int .i64 0), (.int .i64 0), (.int .i64 0), (.int .i64 0), (.int .i64 0), (.int .i64 0), (.int .i64 0), (.int .i64 0), (.int .i64 0), (.int .i64 0), (.int .i64 0), (.int .i64 0)] → gA w w' jQ → w'.heap.size = w.heap.size + 1 → K (.pointer (some ⟨w.heap.size, 0, none⟩)) w') : cJ pg (iF 76) w K := pG (i := Tryd.t76) G2 rfl hk
theorem Eg {b off : Nat} {cs : List Value} {w : World} {xs : Array Value} {K : Value → World → Prop} (ho : iE w b cs) (hs : xs.size = 36) (hv : ∀ x ∈ xs.toList, one x = true) (h : off + 36 ≤ cs.length) (hk : ∀ w', iE w' b (gC cs off xs.toList) → gA w w' (fun x => x = b) → w'.heap.size = w.heap.size → K undef w') : cJ pg (fC 76 (.pointer (some ⟨b, off, none⟩)) (.agg xs)) w K := mZ (v := .agg xs) G2 ho hs hv h hk
theorem cF  (b o : Nat) (w : World)  : (kA 76 (.pointer (some ⟨b, o, none⟩)) none none none).run pg w = .ok (.value (.slice (some (lC ⟨b, o, none⟩ 36 (0) 1)) (36 - 0) (36 - 0))) w := nN Tryd.underlying76 rA _
theorem bA (n0 : Int) (a1 : Option Addr) (l1 c1 : Nat) (w : World) : (gJ 51 [(0, (.int .i64 n0)), (1, (.slice a1 l1 c1))]).run pg w = .ok (.value (.agg #[(.int .i64 n0), (.slice a1 l1 c1)])) w := by kernel_rfl
theorem Gx : (pg).info? 77 = some Tryd.t77 := by kernel_rfl
theorem D6 {b off : Nat} {l : List Value} {w : World} (hl : l.length = 29) (h : ∀ j, j < l.length → w.cell? ⟨b, off + j, none⟩ = l[j]?) : (eF 77 (.pointer (some ⟨b, off, none⟩))).run pg w = .ok (.value (.agg l.toArray)) w := Au Tryd.underlying77 rfl Gx hl.symm h
theorem EG {w : World} {K : Value → World → Prop} (hk : ∀ w', iE w' w.heap.size [(.int .i64 0), (.int .i64 0), (.int .i64 0), (.int .i64 0), (.int .i64 0), (.int .i64 0), (.int .i64 0), (.int .i64 0), (.int .i64 0), (.int .i64 0), (.int .i64 0), (.int .i64 0), (.int .i64 0), (.int .i64 0), (.int .i64 0), (.int .i64 0), (.int .i64 0), (.int .i64 0), (.int .i64 0), (.int .i64 0), (.int .i64 0), (.int .i64 0), (.int .i64 0), (.int .i64 0), (.int .i64 0), (.int .i64 0), (.int .i64 0), (.int .i64 0), (.int .i64 0)] → gA w w' jQ → w'.heap.size = w.heap.size + 1 → K (.pointer (some ⟨w.heap.size, 0, none⟩)) w') : cJ pg (iF 77) w K := pG (i := Tryd.t77) Gx rfl hk
theorem D5 {b off : Nat} {cs : List Value} {w : World} {xs : Array Value} {K : Value → World → Prop} (ho : iE w b cs) (hs : xs.size = 29) (hv : ∀ x ∈ xs.toList, one x = true) (h : off + 29 ≤ cs.length) (hk : ∀ w', iE w' b (gC cs off xs.toList) → gA w w' (fun x => x = b) → w'.heap.size = w.heap.size → K undef w') : cJ pg (fC 77 (.pointer (some ⟨b, off, none⟩)) (.agg xs)) w K := mZ (v := .agg xs) Gx ho hs hv h hk
theorem cE  (b o : Nat) (w : World)  : (kA 77 (.pointer (some ⟨b, o, none⟩)) none none none).run pg w = .ok (.value (.slice (some (lC ⟨b, o, none⟩ 29 (0) 1)) (29 - 0) (29 - 0))) w := nN Tryd.underlying77 rA _
theorem GV : (pg).info? 78 = some Tryd.t78 := by kernel_rfl
theorem D7 {b off : Nat} {l : List Value} {w : World} (hl : l.length = 53) (h : ∀ j, j < l.length → w.cell? ⟨b, off + j, none⟩ = l[j]?) : (eF 78 (.pointer (some ⟨b, off, none⟩))).run pg w = .ok (.value (.agg l.toArray)) w := Au Tryd.underlying78 rfl GV hl.symm h
theorem EK {w : World} {K : Value → World → Prop} (hk : ∀ w', iE w' w.heap.size [(.int .i64 0), (.int .i64 0), (.int .i64 0), (.int .i64 0), (.int .i64 0), (.int .i64 0), (.int .i64 0), (.int .i64 0), (.int .i64 0), (.int .i64 0), (.int .i64 0), (.int .i64 0), (.int .i64 0), (.int .i64 0), (.int .i64 0), (.int .i64 0), (.int .i64 0), (.int .i64 0), (.int .i64 0), (.int .i64 0), (.int .i64 0), (.int .i64 0), (.int .i64 0), (.int .i64 0), (.int .i64 0), (.int .i64 0), (.int .i64 0), (.int .i64 0), (.int .i64 0), (.int .i64 0), (.int .i64 0), (.int .i64 0), (.int .i64 0), (.int .i64 0), (.int .i64 0), (.int .i64 0), (.int .i64 0), (.int .i64 0), (.int .i64 0), (.int .i64 0), (.int .i64 0), (.int .i64 0), (.int .i64 0), (.int .i64 0), (.int .i64 0), (.int .i64 0), (.int .i64 0), (.int .i64 0), (.int .i64 0), (.int .i64 0), (.int .i64 0), (.int .i64 0), (.int .i64 0)] → gA w w' jQ → w'.heap.size = w.heap.size + 1 → K (.pointer (some ⟨w.heap.size, 0, none⟩)) w') : cJ pg (iF 78) w K := pG (i := Tryd.t78) GV rfl hk
theorem DP {b off : Nat} {cs : List Value} {w : World} {xs : Array Value} {K : Value → World → Prop} (ho : iE w b cs) (hs : xs.size = 53) (hv : ∀ x ∈ xs.toList, one x = true) (h : off + 53 ≤ cs.length) (hk : ∀ w', iE w' b (gC cs off xs.toList) → gA w w' (fun x => x = b) → w'.heap.size = w.heap.size → K undef w') : cJ pg (fC 78 (.pointer (some ⟨b, off, none⟩)) (.agg xs)) w K := mZ (v := .agg xs) GV ho hs hv h hk
theorem cI  (b o : Nat) (w : World)  : (kA 78 (.pointer (some ⟨b, o, none⟩)) none none none).run pg w = .ok (.value (.slice (some (lC ⟨b, o, none⟩ 53 (0) 1)) (53 - 0) (53 - 0))) w := nN Tryd.underlying78 rA _
theorem bF  (w : World) : (gJ 51 []).run pg w = .ok (.value (.agg #[(.int .i64 0), (.slice none 0 0)])) w := by kernel_rfl
theorem cM (n0 : Int) (w : World) : (gJ 32 [(0, (.int .u8 n0))]).run pg w = .ok (.value (.agg #[(.int .u8 n0), (.int .i64 0), (.int .i64 0)])) w := by kernel_rfl
theorem CD {n : Nat} {ps : List (Nat × Value)} {cells : Array Value} {w : World} (h1 : ¬ n * 3 > 2 ^ 24) (h0 : ¬ n * 3 = 0) (hf : Go.Instr.fill (fun j => some (j * 3, 3)) ((Array.range (n * 3)).map ((Tryd.t32.zero.get!).cells[· % (Tryd.t32.zero.get!).cells.size]!)) ps = some cells) {K : Value → World → Prop} (hk : ∀ w', iE w' w.heap.size cells.toList → gA w w' jQ → w'.heap.size = w.heap.size + 1 → K (.slice (some ⟨w.heap.size, 0, none⟩) n n) w') : cJ pg (hZ 24 n ps) w K := zG (i := Tryd.t32) Tryd.underlying24 FI rfl h1 h0 hf hk
theorem cK (a0 : Option Addr) (l0 c0 : Nat) (w : World) : (gJ 26 [(1, (.slice a0 l0 c0))]).run pg w = .ok (.value (.agg #[(.int .i64 0), (.slice a0 l0 c0)])) w := by kernel_rfl
theorem Bz {k : IntKind} {n : Int} {w : World} {K : Value → World → Prop} (h0 : 0 ≤ n) (hn : 24 * n ≤ 2 ^ 48) (hk : ∀ w', iE w' w.heap.size (vH n.toNat [(.int .u8 0), (.int .i64 0), (.int .i64 0)]) → gA w w' jQ → w'.heap.size = w.heap.size + 1 → K (.slice (some ⟨w.heap.size, 0, none⟩) n.toNat n.toNat) w') : cJ pg (mN 24 (.int k n) (.int k n)) w K := Gn (i := Tryd.t32) Tryd.underlying24 FI rfl (by decide) rfl rfl h0 hn (by omega) hk
theorem cV {k : IntKind} (a : Int) (w : World) : (nB 3 5 (.int k a)).run pg w = .ok (.value (.int .u8 (IntKind.u8.wrap a))) w := tK Tryd.underlying3 Tryd.underlying5
theorem EC {b off : Nat} {cs : List Value} {w : World} {v : Value} {K : Value → World → Prop} (ho : iE w b cs) (hv : one v = true) (h : off < cs.length) (hk : ∀ w', iE w' b (cs.set off v) → gA w w' (fun x => x = b) → w'.heap.size = w.heap.size → K undef w') : cJ pg (fC 5 (.pointer (some ⟨b, off, none⟩)) v) w K := yV Gq rfl ho hv h hk
theorem cL {k : IntKind} (a : Int) (w : World) : (nB 75 56 (.int k a)).run pg w = .ok (.value (.int .u32 (IntKind.u32.wrap a))) w := tK Tryd.underlying75 Tryd.underlying56
theorem E4 : (pg).info? 109 = some Tryd.t109 := by kernel_rfl
theorem D4 {b off : Nat} {l : List Value} {w : World} (hl : l.length = 20) (h : ∀ j, j < l.length → w.cell? ⟨b, off + j, none⟩ = l[j]?) : (eF 109 (.pointer (some ⟨b, off, none⟩))).run pg w = .ok (.value (.agg l.toArray)) w := Au Tryd.underlying109 rfl E4 hl.symm h
theorem EW {w : World} {K : Value → World → Prop} (hk : ∀ w', iE w' w.heap.size [(.int .i64 0), (.int .i64 0), (.int .i64 0), (.int .i64 0), (.int .i64 0), (.int .i64 0), (.int .i64 0), (.int .i64 0), (.int .i64 0), (.int .i64 0), (.int .i64 0), (.int .i64 0), (.int .i64 0), (.int .i64 0), (.int .i64 0), (.int .i64 0), (.int .i64 0), (.int .i64 0), (.int .i64 0), (.int .i64 0)] → gA w w' jQ → w'.heap.size = w.heap.size + 1 → K (.pointer (some ⟨w.heap.size, 0, none⟩)) w') : cJ pg (iF 109) w K := pG (i := Tryd.t109) E4 rfl hk
theorem DN {b off : Nat} {cs : List Value} {w : World} {xs : Array Value} {K : Value → World → Prop} (ho : iE w b cs) (hs : xs.size = 20) (hv : ∀ x ∈ xs.toList, one x = true) (h : off + 20 ≤ cs.length) (hk : ∀ w', iE w' b (gC cs off xs.toList) → gA w w' (fun x => x = b) → w'.heap.size = w.heap.size → K undef w') : cJ pg (fC 109 (.pointer (some ⟨b, off, none⟩)) (.agg xs)) w K := mZ (v := .agg xs) E4 ho hs hv h hk
theorem cC  (b o : Nat) (w : World)  : (kA 109 (.pointer (some ⟨b, o, none⟩)) none none none).run pg w = .ok (.value (.slice (some (lC ⟨b, o, none⟩ 20 (0) 1)) (20 - 0) (20 - 0))) w := nN Tryd.underlying109 rA _
theorem Fw : (pg).info? 110 = some Tryd.t110 := by kernel_rfl
theorem Ee {b off : Nat} {l : List Value} {w : World} (hl : l.length = 21) (h : ∀ j, j < l.length → w.cell? ⟨b, off + j, none⟩ = l[j]?) : (eF 110 (.pointer (some ⟨b, off, none⟩))).run pg w = .ok (.value (.agg l.toArray)) w := Au Tryd.underlying110 rfl Fw hl.symm h
theorem EX {w : World} {K : Value → World → Prop} (hk : ∀ w', iE w' w.heap.size [(.int .i64 0), (.int .i64 0), (.int .i64 0), (.int .i64 0), (.int .i64 0), (.int .i64 0), (.int .i64 0), (.int .i64 0), (.int .i64 0), (.int .i64 0), (.int .i64 0), (.int .i64 0), (.int .i64 0), (.int .i64 0), (.int .i64 0), (.int .i64 0), (.int .i64 0), (.int .i64 0), (.int .i64 0), (.int .i64 0), (.int .i64 0)] → gA w w' jQ → w'.heap.size = w.heap.size + 1 → K (.pointer (some ⟨w.heap.size, 0, none⟩)) w') : cJ pg (iF 110) w K := pG (i := Tryd.t110) Fw rfl hk
theorem Ed {b off : Nat} {cs : List Value} {w : World} {xs : Array Value} {K : Value → World → Prop} (ho : iE w b cs) (hs : xs.size = 21) (hv : ∀ x ∈ xs.toList, one x = true) (h : off + 21 ≤ cs.length) (hk : ∀ w', iE w' b (gC cs off xs.toList) → gA w w' (fun x => x = b) → w'.heap.size = w.heap.size → K undef w') : cJ pg (fC 110 (.pointer (some ⟨b, off, none⟩)) (.agg xs)) w K := mZ (v := .agg xs) Fw ho hs hv h hk
theorem bZ  (b o : Nat) (w : World)  : (kA 110 (.pointer (some ⟨b, o, none⟩)) none none none).run pg w = .ok (.value (.slice (some (lC ⟨b, o, none⟩ 21 (0) 1)) (21 - 0) (21 - 0))) w := nN Tryd.underlying110 rA _
theorem cH {k : IntKind} (a : Int) (w : World) : (nB 56 5 (.int k a)).run pg w = .ok (.value (.int .u8 (IntKind.u8.wrap a))) w := tK Tryd.underlying56 Tryd.underlying5
theorem dQ {k : IntKind} {a : Int} (x : ByteArray) (w : World) (h0 : 0 ≤ a) (h1 : a.toNat < x.size) : (GG 9 (.string x) (.int k a)).run pg w = .ok (.value (.int .u8 (x[a.toNat]'h1).toNat)) w := H4 Tryd.underlying9 x h0 h1
theorem bY {k : IntKind} (a : Int) (w : World) : (nB 83 5 (.int k a)).run pg w = .ok (.value (.int .u8 (IntKind.u8.wrap a))) w := tK Tryd.underlying83 Tryd.underlying5
theorem cS {ox oy : Operand} (x : Option Addr) (n c : Nat) (w : World) : (dY .eql 22 ox oy (.slice x n c) (.slice none 0 0)).run pg w = .ok (.value (.bool x.isNone)) w := HM Tryd.underlying22 x n c
theorem xZ {base n m : Nat} {ty : TypeId} {w : World} {v x : Value} {l news : List Value} (h : yL w base 1 v n l) (hx : Cl w 1 x m news) (hone : ∀ y ∈ news, one y = true) (hb : base ≤ w.heap.size) (hbytes : (n + m) * 1 ≤ 140737488355328) {K : Value → World → Prop} (hk : ∀ v' w', yL w' base 1 v' (n + m) (l ++ news) → gA w w' (fun y => base ≤ y) → K v' w') : cJ pg (mM .append #[22, 22] ty [v, x]) w K := CZ (i := Tryd.t5) Tryd.underlying22 Tryd.underlying22 Gq rfl rfl rfl h hx hone hb (by omega) hbytes (by decide) hk
end Go.Proofs.YtoepfjgekpdddaaDoor
namespace Go.Proofs.YtoepfjgekpdddaaDoor
open Go Go.En
set_option linter.unusedVariables false
set_option maxRecDepth 4000
theorem DL {n : Nat} {ps : List (Nat × Value)} {cells : Array Value} {w : World} (h1 : ¬ n * 1 > 2 ^ 24) (h0 : ¬ n * 1 = 0) (hf : Go.Instr.fill (fun j => some (j * 1, 1)) ((Array.range (n * 1)).map ((Tryd.t3.zero.get!).cells[· % (Tryd.t3.zero.get!).cells.size]!)) ps = some cells) {K : Value → World → Prop} (hk : ∀ w', iE w' w.heap.size cells.toList → gA w w' jQ → w'.heap.size = w.heap.size + 1 → K (.slice (some ⟨w.heap.size, 0, none⟩) n n) w') : cJ pg (hZ 30 n ps) w K := zG (i := Tryd.t3) Tryd.underlying30 rA rfl h1 h0 hf hk
theorem pK {b off : Nat} {cs : List Value} {w : World} (ho : iE w b cs) (h : off + 3 ≤ cs.length) : (eF 32 (.pointer (some ⟨b, off, none⟩))).run pg w = .ok (.value (.agg ((cs.drop off).take 3).toArray)) w := DS Tryd.underlying32 rfl FI ho h
theorem dU {ox oy : Operand} (c d : Bool) (w : World) : (dY .eql 4 ox oy (.bool c) (.bool d)).run pg w = .ok (.value (.bool (c == d))) w := Hd c d Tryd.underlying4
end Go.Proofs.YtoepfjgekpdddaaDoor
namespace Go.Proofs.YtoepfjgekpdddaaDoor
open Go Go.En
set_option linter.unusedVariables false
set_option maxRecDepth 4000
theorem bQ (b o : Nat) (w : World) : (eH 26 (.pointer (some ⟨b, o, none⟩)) 0).run pg w = .ok (.value (.pointer (some ⟨b, o, none⟩))) w := iX (i := 0) Tryd.underlying26 rfl rA (by decide) _
end Go.Proofs.YtoepfjgekpdddaaDoor
namespace Go.Proofs.YtoepfjgekpdddaaDoor
open Go Go.En
set_option linter.unusedVariables false
set_option maxRecDepth 4000
theorem dB {ty : TypeId} (x : Option Addr) (n c : Nat) (w : World) : (mM .len #[38] ty [.slice x n c]).run pg w = .ok (.value (.int .i64 n)) w := BS Tryd.underlying38 x n c
theorem aX  (w : World) : (gJ 42 []).run pg w = .ok (.value (.agg #[(.int .i64 0), (.slice none 0 0)])) w := by kernel_rfl
theorem FF : (pg).info? 56 = some Tryd.t56 := by kernel_rfl
theorem cG {k : IntKind} {a : Int} (b o : Nat) (w : World) (h0 : 0 ≤ a) (h1 : a < 256) : (iC 57 (.pointer (some ⟨b, o, none⟩)) (.int k a)).run pg w = .ok (.value (.pointer (some ⟨b, o + a.toNat, none⟩))) w := Dx rfl Tryd.underlying57 FF b o h0 (by simpa using h1)
theorem dV (x : Addr) (w : World) : (eF 56 (.pointer (some x))).run pg w = Gw (w.cell? x) w (Gv pg 56 x w) := D3 Tryd.underlying56 rfl x w
theorem bG {k : IntKind} {hi : Int} (b o : Nat) (w : World) (h0 : 0 ≤ hi) (h1 : hi ≤ 256) : (kA 57 (.pointer (some ⟨b, o, none⟩)) none (some (.int k hi)) none).run pg w = .ok (.value (.slice (some (lC ⟨b, o, none⟩ 256 (0) 1)) (hi.toNat - 0) (256 - 0))) w := Ez Tryd.underlying57 FF _ h0 (by simpa using h1)
theorem IC : (pg).info? 40 = some Tryd.t40 := by kernel_rfl
theorem aQ (b o : Nat) (w : World) : (eH 42 (.pointer (some ⟨b, o, none⟩)) 1).run pg w = .ok (.value (.pointer (some ⟨b, o + 1, none⟩))) w := iX (i := 1) Tryd.underlying42 rfl IC (by decide) _
theorem aN (x : Addr) (w : World) : (eF 40 (.pointer (some x))).run pg w = Gw (w.cell? x) w (Gv pg 40 x w) := D3 Tryd.underlying40 rfl x w
theorem aM {ty : TypeId} (x : Option Addr) (n c : Nat) (w : World) : (mM .len #[40] ty [.slice x n c]).run pg w = .ok (.value (.int .i64 n)) w := BS Tryd.underlying40 x n c
theorem aJ (b o : Nat) (w : World) : (eH 42 (.pointer (some ⟨b, o, none⟩)) 0).run pg w = .ok (.value (.pointer (some ⟨b, o, none⟩))) w := iX (i := 0) Tryd.underlying42 rfl rA (by decide) _
theorem IS : (pg).info? 70 = some Tryd.t70 := by kernel_rfl
theorem aP {k : IntKind} {a : Int} (b o n c : Nat) (w : World) (h0 : 0 ≤ a) (h1 : a < n) : (iC 40 (.slice (some ⟨b, o, none⟩) n c) (.int k a)).run pg w = .ok (.value (.pointer (some ⟨b, o + a.toNat * 3, none⟩))) w := DD rfl Tryd.underlying40 IS b o n c h0 h1
theorem aS (n0 : Int) (w : World) : (gJ 42 [(0, (.int .i64 n0))]).run pg w = .ok (.value (.agg #[(.int .i64 n0), (.slice none 0 0)])) w := by kernel_rfl
theorem aC (n0 : Int) (n1 : Int) (n2 : Int) (w : World) : (gJ 70 [(0, (.int .i64 n0)), (1, (.int .i64 n1)), (2, (.int .i64 n2))]).run pg w = .ok (.value (.agg #[(.int .i64 n0), (.int .i64 n1), (.int .i64 n2)])) w := by kernel_rfl
theorem cN {k : IntKind} (a : Int) (w : World) : (nB 83 3 (.int k a)).run pg w = .ok (.value (.int .i64 (IntKind.i64.wrap a))) w := tK Tryd.underlying83 Tryd.underlying3
theorem bE (n0 : Int) (w : World) : (gJ 51 [(0, (.int .i64 n0))]).run pg w = .ok (.value (.agg #[(.int .i64 n0), (.slice none 0 0)])) w := by kernel_rfl
theorem BW {base n m : Nat} {ty : TypeId} {w : World} {v x : Value} {l news : List Value} (h : yL w base 1 v n l) (hx : Cl w 1 x m news) (hone : ∀ y ∈ news, one y = true) (hb : base ≤ w.heap.size) (hbytes : (n + m) * 8 ≤ 140737488355328) {K : Value → World → Prop} (hk : ∀ v' w', yL w' base 1 v' (n + m) (l ++ news) → gA w w' (fun y => base ≤ y) → K v' w') : cJ pg (mM .append #[30, 30] ty [v, x]) w K := CZ (i := Tryd.t3) Tryd.underlying30 Tryd.underlying30 rA rfl rfl rfl h hx hone hb (by omega) hbytes (by decide) hk
theorem DI {b off : Nat} {cs : List Value} {w : World} {v : Value} {K : Value → World → Prop} (ho : iE w b cs) (hv : one v = true) (h : off < cs.length) (hk : ∀ w', iE w' b (cs.set off v) → gA w w' (fun x => x = b) → w'.heap.size = w.heap.size → K undef w') : cJ pg (fC 30 (.pointer (some ⟨b, off, none⟩)) v) w K := yV G7 rfl ho hv h hk
theorem cZ {k : IntKind} {a : Int} (b o n c : Nat) (w : World) (h0 : 0 ≤ a) (h1 : a < n) : (iC 38 (.slice (some ⟨b, o, none⟩) n c) (.int k a)).run pg w = .ok (.value (.pointer (some ⟨b, o + a.toNat, none⟩))) w := yK rfl Tryd.underlying38 FF b o n c h0 h1
theorem bS {k : IntKind} (a : Int) (w : World) : (nB 56 83 (.int k a)).run pg w = .ok (.value (.int .u64 (IntKind.u64.wrap a))) w := tK Tryd.underlying56 Tryd.underlying83
theorem cD {k : IntKind} {hi : Int} (a : Option Addr) (n c : Nat) (w : World) (h0 : 0 ≤ hi) (h1 : hi ≤ c) : (kA 38 (.slice a n c) none (some (.int k hi)) none).run pg w = .ok (.value (.slice (pH a c (0) 1) (hi.toNat - 0) (c - 0))) w := Fe Tryd.underlying38 FF _ n c h0 h1
theorem cU {k : IntKind} (a : Int) (w : World) : (nB 3 83 (.int k a)).run pg w = .ok (.value (.int .u64 (IntKind.u64.wrap a))) w := tK Tryd.underlying3 Tryd.underlying83
theorem aR (n0 : Int) (w : World) : (gJ 70 [(0, (.int .i64 n0))]).run pg w = .ok (.value (.agg #[(.int .i64 n0), (.int .i64 0), (.int .i64 0)])) w := by kernel_rfl
theorem aW (a0 : Option Addr) (l0 c0 : Nat) (w : World) : (gJ 42 [(1, (.slice a0 l0 c0))]).run pg w = .ok (.value (.agg #[(.int .i64 0), (.slice a0 l0 c0)])) w := by kernel_rfl
theorem aV (a0 : Option Addr) (l0 c0 : Nat) (w : World) : (gJ 99 [(0, (.slice a0 l0 c0))]).run pg w = .ok (.value (.agg #[(.slice a0 l0 c0), (.int .i64 0)])) w := by kernel_rfl
theorem aY  (w : World) : (gJ 65 []).run pg w = .ok (.value (.agg #[(.int .i64 0), (.slice none 0 0)])) w := by kernel_rfl
theorem aU (n0 : Int) (w : World) : (gJ 65 [(0, (.int .i64 n0))]).run pg w = .ok (.value (.agg #[(.int .i64 n0), (.slice none 0 0)])) w := by kernel_rfl
theorem aL (b o : Nat) (w : World) : (eH 65 (.pointer (some ⟨b, o, none⟩)) 0).run pg w = .ok (.value (.pointer (some ⟨b, o, none⟩))) w := iX (i := 0) Tryd.underlying65 rfl rA (by decide) _
theorem aH (b o : Nat) (w : World) : (eH 65 (.pointer (some ⟨b, o, none⟩)) 1).run pg w = .ok (.value (.pointer (some ⟨b, o + 1, none⟩))) w := iX (i := 1) Tryd.underlying65 rfl G7 (by decide) _
theorem aB (b o : Nat) (w : World) : (eH 70 (.pointer (some ⟨b, o, none⟩)) 0).run pg w = .ok (.value (.pointer (some ⟨b, o, none⟩))) w := iX (i := 0) Tryd.underlying70 rfl rA (by decide) _
theorem dA {k : IntKind} {a : Int} (b o : Nat) (w : World) (h0 : 0 ≤ a) (h1 : a < 256) : (iC 106 (.pointer (some ⟨b, o, none⟩)) (.int k a)).run pg w = .ok (.value (.pointer (some ⟨b, o + a.toNat, none⟩))) w := Dx rfl Tryd.underlying106 rA b o h0 (by simpa using h1)
theorem aG (b o : Nat) (w : World) : (eH 70 (.pointer (some ⟨b, o, none⟩)) 1).run pg w = .ok (.value (.pointer (some ⟨b, o + 1, none⟩))) w := iX (i := 1) Tryd.underlying70 rfl rA (by decide) _
theorem aF (b o : Nat) (w : World) : (eH 70 (.pointer (some ⟨b, o, none⟩)) 2).run pg w = .ok (.value (.pointer (some ⟨b, o + 2, none⟩))) w := iX (i := 2) Tryd.underlying70 rfl rA (by decide) _
theorem bM (a0 : Option Addr) (l0 c0 : Nat) (w : World) : (gJ 113 [(0, (.slice a0 l0 c0))]).run pg w = .ok (.value (.agg #[(.slice a0 l0 c0), (.int .i64 0)])) w := by kernel_rfl
theorem bB {ox oy : Operand} (x : Option Addr) (w : World) : (dY .eql 81 ox oy (.pointer x) (.pointer none)).run pg w = .ok (.value (.bool x.isNone)) w := GH Tryd.underlying81 x
theorem HY : (pg).info? 22 = some Tryd.t22 := by kernel_rfl
theorem bJ (b o : Nat) (w : World) : (eH 113 (.pointer (some ⟨b, o, none⟩)) 0).run pg w = .ok (.value (.pointer (some ⟨b, o, none⟩))) w := iX (i := 0) Tryd.underlying113 rfl HY (by decide) _
theorem dF (x : Addr) (w : World) : (eF 22 (.pointer (some x))).run pg w = Gw (w.cell? x) w (Gv pg 22 x w) := D3 Tryd.underlying22 rfl x w
theorem bD (b o : Nat) (w : World) : (eH 113 (.pointer (some ⟨b, o, none⟩)) 1).run pg w = .ok (.value (.pointer (some ⟨b, o + 1, none⟩))) w := iX (i := 1) Tryd.underlying113 rfl rA (by decide) _
theorem cA  (w : World) : (gJ 116 []).run pg w = .ok (.value (.agg #[(.slice none 0 0), (.int .i64 0)])) w := by kernel_rfl
theorem bH {ox oy : Operand} (x : Option Addr) (w : World) : (dY .eql 91 ox oy (.pointer x) (.pointer none)).run pg w = .ok (.value (.bool x.isNone)) w := GH Tryd.underlying91 x
theorem bT (b o : Nat) (w : World) : (eH 116 (.pointer (some ⟨b, o, none⟩)) 1).run pg w = .ok (.value (.pointer (some ⟨b, o + 1, none⟩))) w := iX (i := 1) Tryd.underlying116 rfl rA (by decide) _
theorem bR (b o : Nat) (w : World) : (eH 116 (.pointer (some ⟨b, o, none⟩)) 0).run pg w = .ok (.value (.pointer (some ⟨b, o, none⟩))) w := iX (i := 0) Tryd.underlying116 rfl HY (by decide) _
theorem aK (n0 : Int) (a1 : Option Addr) (l1 c1 : Nat) (w : World) : (gJ 65 [(0, (.int .i64 n0)), (1, (.slice a1 l1 c1))]).run pg w = .ok (.value (.agg #[(.int .i64 n0), (.slice a1 l1 c1)])) w := by kernel_rfl
theorem dT {ty : TypeId} (x : ByteArray) (w : World) : (mM .len #[9] ty [.string x]).run pg w = .ok (.value (.int .i64 x.size)) w := Ig Tryd.underlying9 x
theorem IG : (pg).info? 4 = some Tryd.t4 := by kernel_rfl
theorem IJ : (pg).info? 96 = some Tryd.t96 := by kernel_rfl
theorem aT (b o : Nat) (w : World) : (eH 99 (.pointer (some ⟨b, o, none⟩)) 0).run pg w = .ok (.value (.pointer (some ⟨b, o, none⟩))) w := iX (i := 0) Tryd.underlying99 rfl IJ (by decide) _
theorem dN (x : Addr) (w : World) : (eF 96 (.pointer (some x))).run pg w = Gw (w.cell? x) w (Gv pg 96 x w) := D3 Tryd.underlying96 rfl x w
theorem dO {ty : TypeId} (x : Option Addr) (n c : Nat) (w : World) : (mM .len #[96] ty [.slice x n c]).run pg w = .ok (.value (.int .i64 n)) w := BS Tryd.underlying96 x n c
theorem aO (b o : Nat) (w : World) : (eH 99 (.pointer (some ⟨b, o, none⟩)) 1).run pg w = .ok (.value (.pointer (some ⟨b, o + 1, none⟩))) w := iX (i := 1) Tryd.underlying99 rfl rA (by decide) _
theorem cB {k k' : IntKind} {lo hi : Int} (a : Option Addr) (n c : Nat) (w : World) (h0 : 0 ≤ lo) (h1 : lo ≤ hi) (h2 : hi ≤ c) : (kA 96 (.slice a n c) (some (.int k lo)) (some (.int k' hi)) none).run pg w = .ok (.value (.slice (pH a c (lo.toNat) 1) (hi.toNat - lo.toNat) (c - lo.toNat))) w := D0 Tryd.underlying96 IG _ n c h0 h1 h2
theorem bX {k : IntKind} (a : Int) (w : World) : (nB 5 83 (.int k a)).run pg w = .ok (.value (.int .u64 (IntKind.u64.wrap a))) w := tK Tryd.underlying5 Tryd.underlying83
theorem dM {k : IntKind} {a : Int} (b o n c : Nat) (w : World) (h0 : 0 ≤ a) (h1 : a < n) : (iC 96 (.slice (some ⟨b, o, none⟩) n c) (.int k a)).run pg w = .ok (.value (.pointer (some ⟨b, o + a.toNat, none⟩))) w := yK rfl Tryd.underlying96 IG b o n c h0 h1
theorem eT (x : Addr) (w : World) : (eF 4 (.pointer (some x))).run pg w = Gw (w.cell? x) w (Gv pg 4 x w) := D3 Tryd.underlying4 rfl x w
end Go.Proofs.YtoepfjgekpdddaaDoor
namespace Go.Pu
set_option linter.unusedVariables false
def gD (p : Int) : Int := if p < 0 then 1 else p
def Di : Int → List Int → Bool
  | left, [] => left == 0
  | left, p :: r => if p < -1 ∨ left < gD p then false else Di (left - gD p) r
def vG (ps : List Int) : Int := (ps.map gD).sum
def FM (log : Int) (ps : List Int) : Bool := decide (5 ≤ log ∧ log ≤ 15 ∧ 1 ≤ ps.length ∧ ps.length ≤ 256 ∧ ps.getLast? ≠ some 0)
def Dm (log : Int) (ps : List Int) : Bool := FM log ps && Di (2 ^ log.toNat) ps
theorem pF (p : Int) (ps : List Int) : vG (p :: ps) = gD p + vG ps := by simp [vG]
theorem Ci (a b : List Int) : vG (a ++ b) = vG a + vG b := by simp [vG]
theorem kB {p : Int} (h : -1 ≤ p) : 0 ≤ gD p := by unfold gD; split <;> omega
theorem B7 {ps : List Int} (h : ∀ p ∈ ps, -1 ≤ p) : 0 ≤ vG ps := by
  induction ps with
  | nil => simp [vG]
  | cons p r ih =>
    rw [pF]
    have := kB (h p (by simp))
    have := ih fun q hq => h q (List.mem_cons_of_mem _ hq)
    omega
theorem EP : ∀ {ps : List Int} {left : Int}, Di left ps = true ↔ (∀ p ∈ ps, -1 ≤ p) ∧ vG ps = left
  | [], left => by simp [Di, vG]; constructor <;> intro h <;> omega
  | p :: r, left => by
    rw [Di, pF]
    by_cases h : p < -1 ∨ left < gD p
    · rw [if_pos h]
      constructor
      · intro h; cases h
      · rintro ⟨h1, h2⟩
        have hp := h1 p (by simp)
        have := B7 (ps := r) fun q hq => h1 q (List.mem_cons_of_mem _ hq)
        omega
    · rw [if_neg h, EP]
      constructor
      · rintro ⟨h1, h2⟩
        exact ⟨fun q hq => by rcases List.mem_cons.1 hq with rfl | hq; · omega
                              · exact h1 q hq, by omega⟩
      · rintro ⟨h1, h2⟩
        exact ⟨fun q hq => h1 q (List.mem_cons_of_mem _ hq), by omega⟩
structure E0 (log : Nat) (ps : List Int) : Prop where
  log5 : 5 ≤ log
  log15 : log ≤ 15
  len1 : 1 ≤ ps.length
  len256 : ps.length ≤ 256
  last : ps.getLast? ≠ some 0
  low : ∀ p ∈ ps, -1 ≤ p
  sum : vG ps = 2 ^ log
theorem E0.b {log : Nat} {ps : List Int} (h : E0 log ps) : Dm log ps = true := by
  unfold Dm FM
  simp only [Bool.and_eq_true, decide_eq_true_eq]
  have h1 := h.log5
  have h2 := h.log15
  refine ⟨⟨by omega, by omega, h.len1, h.len256, h.last⟩, ?_⟩
  rw [EP, Int.toNat_natCast]
  exact ⟨h.low, h.sum⟩
theorem GM {log : Nat} (h : log ≤ 15) : (2 : Int) ^ log ≤ 32768 := by
  have : 2 ^ log ≤ 2 ^ 15 := Nat.pow_le_pow_right (by omega) h
  have e : ((2 ^ log : Nat) : Int) = (2 : Int) ^ log := by simp
  omega
theorem GZ (log : Nat) : (1 : Int) ≤ 2 ^ log := by
  have : 1 ≤ 2 ^ log := Nat.one_le_two_pow
  have e : ((2 ^ log : Nat) : Int) = (2 : Int) ^ log := by simp
  omega
theorem HG {ps : List Int} (h : ∀ p ∈ ps, -1 ≤ p) {p : Int} (hp : p ∈ ps) : gD p ≤ vG ps := by
  induction ps with
  | nil => cases hp
  | cons q r ih =>
    rw [pF]
    have h0 := kB (h q (by simp))
    have h1 := B7 (ps := r) fun q hq => h q (List.mem_cons_of_mem _ hq)
    rcases List.mem_cons.1 hp with rfl | hp
    · omega
    · have := ih (fun q hq => h q (List.mem_cons_of_mem _ hq)) hp
      omega
end Go.Pu
namespace Go.Proofs.YtoepfjgekpdddaaDoor
open Go Go.En Go.Pu
set_option maxRecDepth 4000
set_option linter.unusedSimpArgs false
set_option linter.unusedVariables false
theorem DZ (p : Int) (w : World) : gH pg kL #[.int .i64 p] w (fun r w' => r = .int .i64 (gD p) ∧ w' = w) := by
  refine Aa ?_
  unfold gD
  by_cases h : p < 0
  · have d : decide (p < 0) = true := by simpa using h
    simp (disch := omega) only [vZ, mR, cJ, fB, d, aD, and_true, cY]
    rw [if_pos h]
  · have d : decide (p < 0) = false := by simpa using h
    simp (disch := omega) only [vZ, mR, cJ, fB, d, aD, and_true, cQ]
    rw [if_neg h]
theorem C5 {ps : List Int} (h : 0 < ps.length) : (ps.getLast? = some 0) ↔ ps[ps.length - 1]'(by omega) = 0 := by
  rw [List.getLast?_eq_getElem?, List.getElem?_eq_getElem (by omega)]
  simp
theorem II {log : Int} {sv : Value} {ps : List Int} {w : World} (hs : Sl w sv (ps.map (Value.int .i64))) (hl : ps.length ≤ 9223372036854775807) :
    gH pg rC #[.agg #[.int .i64 log, sv]] w (fun r w' => r = .bool (Dm log ps) ∧ gA w w' jQ) := by
  refine Cs ?_
  unfold C1 uH uG
  obtain ⟨a, c, rfl, hc⟩ := hs.lenI
  refine wC fun w1 o1 x1 s1 => ?_
  have hs0 := hs
  have hs := hs.ext x1 (iM _)
  have c0 := o1.cell (off := 0)
  have c1 := o1.cell (off := 1)
  simp only [Value.cells, List.getElem?_cons_zero, List.getElem?_cons_succ] at c0 c1
  have no : ¬ (5 ≤ log ∧ log ≤ 15 ∧ 1 ≤ ps.length ∧ ps.length ≤ 256 ∧ ps.getLast? ≠ some 0) → Dm log ps = false := fun h => by
    unfold Dm FM; rw [decide_eq_false h] <;> rfl
  by_cases h1 : log < 5
  · have d1 : decide (log < 5) = true := by simpa using h1
    simp (disch := omega) only [cJ, aI, aD, aE, Nat.zero_add, eE, c0, cW, fB, d1, fG, eS, if_true, cY, dW]
    exact ⟨by rw [no (by omega)], x1⟩
  have d1 : decide (log < 5) = false := by simpa using h1
  by_cases h2 : 15 < log
  · have d2 : decide (15 < log) = true := by simpa using h2
    simp (disch := omega) only [cJ, aI, aD, aE, Nat.zero_add, eE, c0, cW, fB, d1, eZ, eS, Bool.false_eq_true, if_false, eD, fM, d2, fG, if_true, cY, dW]
    exact ⟨by rw [no (by omega)], x1⟩
  have d2 : decide (15 < log) = false := by simpa using h2
  by_cases h3 : ps.length < 1
  · have d3 : decide ((ps.length : Int) < 1) = true := by simp; omega
    simp (disch := omega) only [cJ, aI, aD, aE, Nat.zero_add, eE, c0, cW, fB, d1, eZ, eS, Bool.false_eq_true, if_false, eD, fM, d2, dJ, c1, dK, d3, fG, if_true, cY, dW]
    exact ⟨by rw [no (by omega)], x1⟩
  have d3 : decide ((ps.length : Int) < 1) = false := by simp; omega
  by_cases h4 : 256 < ps.length
  · have d4 : decide ((256 : Int) < (ps.length : Int)) = true := by simp; omega
    simp (disch := omega) only [cJ, aI, aD, aE, Nat.zero_add, eE, c0, cW, fB, d1, eZ, eS, Bool.false_eq_true, if_false, eD, fM, d2, dJ, c1, dK, d3, d4, fG, if_true, cY, dW]
    exact ⟨by rw [no (by omega)], x1⟩
  have d4 : decide ((256 : Int) < (ps.length : Int)) = false := by simp; omega
  obtain ⟨b, off, c', e, hc', hcell⟩ := hs.openI (by omega)
  cases e
  have e1 : ((ps.length : Int) - 1) = ((ps.length - 1 : Nat) : Int) := by omega
  have g1 := hcell (ps.length - 1) (by omega)
  by_cases h5 : ps[ps.length - 1]'(by omega) = 0
  · have d5 : (ps[ps.length - 1]'(by omega) == 0) = true := by simpa using h5
    simp (disch := omega) only [cJ, aI, aD, aE, Nat.zero_add, eE, c0, cW, fB, d1, eZ, eS, Bool.false_eq_true, if_false, eD, fM, d2, dJ, c1, dK, d3, d4, fR, e1, eM, dL, Int.toNat_natCast, g1, gB, d5, fZ, cY]
    exact ⟨by rw [no (fun h => h.2.2.2.2 ((C5 (by omega)).2 h5))], x1⟩
  have d5 : (ps[ps.length - 1]'(by omega) == 0) = false := by simpa using h5
  obtain ⟨l, rfl⟩ : ∃ l : Nat, log = l := ⟨log.toNat, by omega⟩
  have hsh : IntKind.i64.wrap (1 * 2 ^ (min l IntKind.i64.bits)) = (2 : Int) ^ l := by
    have : ∀ k : Fin 16, IntKind.i64.wrap (1 * 2 ^ (min k.val IntKind.i64.bits)) = (2 : Int) ^ k.val := by decide
    exact this ⟨l, by omega⟩
  have hyes : Dm (l : Int) ps = Di (2 ^ l) ps := by
    unfold Dm FM
    rw [decide_eq_true ⟨by omega, by omega, by omega, by omega, fun h => h5 ((C5 (by omega)).1 h)⟩, Int.toNat_natCast] <;> rfl
  simp (disch := omega) only [cJ, aI, aD, aE, Nat.zero_add, eE, c0, cW, fB, d1, eZ, eS, Bool.false_eq_true, if_false, eD, fM, d2, dJ, c1, dK, d3, d4, fR, e1, eM, dL, Int.toNat_natCast, g1, gB, d5, fZ, hsh, cQ]
  unfold pS tX uN pP uC
  simp (disch := omega) only [cJ, aE, Nat.zero_add, aD, dJ, c1, cW, dK]
  have hp15 := GM (log := l) (by omega)
  have hp1 := GZ l
  refine iV.rule (fun m t w' => ∃ (i : Nat) (left : Int), m = ps.length - i ∧ t = (.int .i64 left, .int .i64 i) ∧ i ≤ ps.length ∧ 0 ≤ left ∧ left ≤ 32768 ∧ Di (2 ^ l) ps = Di left (ps.drop i) ∧ gA w w' jQ) ps.length
    ⟨0, 2 ^ l, rfl, rfl, by omega, by omega, hp15, rfl, x1⟩ ?_
  rintro m t w2 ⟨i, left, rfl, rfl, hi, hl0, hl1, hf, x2⟩
  by_cases hlt : i < ps.length
  · have d6 : decide ((i : Int) < (ps.length : Int)) = true := by simp; omega
    have hsw := hs0.ext x2 (iM _)
    obtain ⟨b', off', c', e, _, hcell2⟩ := hsw.openI (by omega)
    cases e
    have g2 := hcell2 i hlt
    have hd : ps.drop i = ps[i] :: ps.drop (i + 1) := List.drop_eq_getElem_cons hlt
    rw [hd, Di] at hf
    by_cases h6 : ps[i] < -1
    · have d7 : decide (ps[i] < -1) = true := by simpa using h6
      simp (disch := omega) only [kW, cJ, fB, d6, dL, Int.toNat_natCast, fH, eM, aD, eE, g2, cW, d7, fG, eS, if_true, cY, dW]
      rw [if_pos (.inl h6)] at hf
      exact ⟨by rw [hyes, hf], x2⟩
    have d7 : decide (ps[i] < -1) = false := by simpa using h6
    simp (disch := omega) only [kW, cJ, fB, d6, dL, Int.toNat_natCast, fH, eM, aD, eE, g2, cW, d7, eZ, eS, Bool.false_eq_true, if_false, eD, cY]
    refine (DZ _ _).mono ?_
    rintro r w3 ⟨rfl, rfl⟩
    by_cases h7 : left < gD ps[i]
    · have d8 : decide (left < gD ps[i]) = true := by simpa using h7
      simp (disch := omega) only [fM, d8, aD, cY]
      rw [if_pos (.inr h7)] at hf
      exact ⟨by rw [hyes, hf], x2⟩
    have d8 : decide (left < gD ps[i]) = false := by simpa using h7
    simp (disch := omega) only [fM, d8, aD, cQ]
    refine (DZ _ _).mono ?_
    rintro r w3 ⟨rfl, rfl⟩
    rw [if_neg (by omega)] at hf
    have hpn := kB (p := ps[i]) (by omega)
    simp (disch := omega) only [fR, eM, aD]
    exact ⟨ps.length - (i + 1), by omega, i + 1, left - gD ps[i], rfl, rfl, by omega, by omega, by omega, hf, x2⟩
  · have d6 : decide ((i : Int) < (ps.length : Int)) = false := by simp; omega
    rw [List.drop_of_length_le (by omega), Di] at hf
    unfold kW pL
    simp (disch := omega) only [cJ, fB, d6, fH, eM, aD, gB, cQ]
    exact ⟨by rw [hyes, hf], x2⟩
end Go.Proofs.YtoepfjgekpdddaaDoor
namespace Go.Pu
set_option linter.unusedVariables false
def H0 (n a : Nat) : Nat := (a + n / 2 + n / 8 + 3) % n
def Bx (n high : Nat) : Nat → Nat → Nat
  | 0, a => a
  | f + 1, a => if a < high then a else Bx n high f (H0 n a)
def C8 : List Int → Nat → Nat → List Int → Nat × List Int
  | [], _, high, arr => (high, arr)
  | p :: r, s, high, arr => if p = -1 then C8 r (s + 1) (high - 1) (arr.set (high - 1) s) else C8 r (s + 1) high arr
def kF : List Int → Nat → List Nat
  | [], _ => []
  | p :: r, s => List.replicate p.toNat s ++ kF r (s + 1)
def tB (n high : Nat) : List Nat → Nat → List Int → List Int
  | [], _, arr => arr
  | s :: r, a, arr => tB n high r (Bx n high n (H0 n a)) (arr.set a s)
def nT (x0 : Int) (log : Nat) (ps : List Int) : List Int :=
  tB (2 ^ log) (C8 ps 0 (2 ^ log) (List.replicate (2 ^ log) x0)).1 (kF ps 0) 0 (C8 ps 0 (2 ^ log) (List.replicate (2 ^ log) x0)).2
def pos (n j : Nat) : Nat := (j * (n / 2 + n / 8 + 3)) % n
theorem yF (n j : Nat) : H0 n (pos n j) = pos n (j + 1) := by
  unfold H0 pos
  rw [Nat.add_assoc, Nat.add_assoc, Nat.mod_add_mod, Nat.add_mul, Nat.one_mul, Nat.add_assoc]
theorem HN {s : Nat} (hs : s % 2 = 1) : ∀ (k x : Nat), 2 ^ k ∣ s * x → 2 ^ k ∣ x := by
  intro k
  induction k with
  | zero => intro x _; simp
  | succ k ih =>
    intro x h
    have h2 : 2 ∣ s * x := Nat.dvd_trans ⟨2 ^ k, by rw [Nat.pow_succ, Nat.mul_comm]⟩ h
    have hx : x % 2 = 0 := by
      have : (s * x) % 2 = 0 := Nat.mod_eq_zero_of_dvd h2
      rw [Nat.mul_mod, hs, Nat.one_mul, Nat.mod_mod] at this
      exact this
    obtain ⟨y, rfl⟩ : ∃ y, x = 2 * y := ⟨x / 2, by omega⟩
    rw [Nat.pow_succ, Nat.mul_comm (2 ^ k) 2, show s * (2 * y) = 2 * (s * y) by rw [Nat.mul_left_comm]] at h
    rw [Nat.pow_succ, Nat.mul_comm (2 ^ k) 2]
    exact Nat.mul_dvd_mul_left 2 (ih y (Nat.dvd_of_mul_dvd_mul_left (by omega) h))
theorem GJ {log : Nat} (h : 5 ≤ log) : (2 ^ log / 2 + 2 ^ log / 8 + 3) % 2 = 1 := by
  obtain ⟨k, rfl⟩ : ∃ k, log = k + 5 := ⟨log - 5, by omega⟩
  have : 2 ^ (k + 5) = 32 * 2 ^ k := by rw [Nat.pow_add, Nat.mul_comm]
  omega
theorem Hp {log : Nat} (h : 5 ≤ log) {i j : Nat} (hij : i < j) (hj : j < 2 ^ log) : pos (2 ^ log) i ≠ pos (2 ^ log) j := by
  unfold pos
  generalize hst : 2 ^ log / 2 + 2 ^ log / 8 + 3 = st
  have hodd : st % 2 = 1 := by rw [← hst]; exact GJ h
  intro e
  have hle : i * st ≤ j * st := Nat.mul_le_mul_right _ (by omega)
  have hd : 2 ^ log ∣ st * (j - i) := by
    rw [Nat.mul_comm, Nat.sub_mul]
    exact Nat.dvd_of_mod_eq_zero (Nat.sub_mod_eq_zero_of_mod_eq e.symm)
  have := Nat.le_of_dvd (by omega) (HN hodd _ _ hd)
  omega
theorem G8 : ∀ (n : Nat) (l : List Nat), l.Nodup → (∀ a ∈ l, a < n) → l.length ≤ n := by
  intro n
  induction n with
  | zero => intro l _ h; cases l with
    | nil => simp
    | cons a r => exact absurd (h a (by simp)) (by omega)
  | succ n ih =>
    intro l hd h
    by_cases hn : n ∈ l
    · have := ih (l.erase n) (hd.erase n) (fun a ha => by
        have h1 := h a (List.mem_of_mem_erase ha)
        have h2 : a ≠ n := fun e => by subst e; exact hd.not_mem_erase ha
        omega)
      rw [List.length_erase_of_mem hn] at this
      omega
    · have := ih l hd (fun a ha => by
        have h1 := h a ha
        have h2 : a ≠ n := fun e => by subst e; exact hn ha
        omega)
      omega
theorem Gf {n : Nat} {l : List Nat} (hd : l.Nodup) (h : ∀ a ∈ l, a < n) (hl : l.length = n) {a : Nat} (ha : a < n) : a ∈ l := by
  refine Classical.byContradiction fun hn => ?_
  have := G8 n (a :: l) (List.nodup_cons.2 ⟨hn, hd⟩) (fun b hb => (List.mem_cons.1 hb).elim (fun e => e ▸ ha) (h b))
  simp at this; omega
def iL (n high j : Nat) : List Nat := ((List.range' j (n - j)).map (pos n)).filter (· < high)
theorem xC {n high j : Nat} (h : j < n) : iL n high j = if pos n j < high then pos n j :: iL n high (j + 1) else iL n high (j + 1) := by
  unfold iL
  rw [show n - j = (n - (j + 1)) + 1 from by omega, List.range'_succ, List.map_cons, List.filter_cons]
  simp
theorem AG (n high : Nat) : iL n high n = [] := by unfold iL; simp
theorem Fo {n : Nat} (h : 0 < n) (j : Nat) : pos n j < n := Nat.mod_lt _ h
theorem CT (n : Nat) : pos n 0 = 0 := by simp [pos]
theorem IN (n : Nat) : pos n n = 0 := by simp [pos, Nat.mul_mod_right]
theorem FZ {n high : Nat} (hh : 0 < high) : ∀ (d j f : Nat), j + d = n → d ≤ f → Bx n high f (pos n j) = (iL n high j).headD 0 := by
  intro d
  induction d with
  | zero =>
    intro j f hj _
    obtain rfl : j = n := by omega
    rw [AG, IN]
    cases f with
    | zero => rfl
    | succ f => unfold Bx; rw [if_pos hh] <;> rfl
  | succ d ih =>
    intro j f hj hf
    obtain ⟨f, rfl⟩ : ∃ g, f = g + 1 := ⟨f - 1, by omega⟩
    rw [xC (by omega)]
    unfold Bx
    split
    · rfl
    · rw [yF]; exact ih (j + 1) f (by omega) (by omega)
def xU : List (Nat × Nat) → List Int → List Int
  | [], arr => arr
  | (q, s) :: r, arr => xU r (arr.set q s)
theorem Fa {n high : Nat} (hh : 0 < high) : ∀ (syms : List Nat) (j a : Nat) (arr : List Int), j ≤ n → syms.length ≤ (iL n high j).length → (syms ≠ [] → (iL n high j).headD 0 = a) →
    tB n high syms a arr = xU ((iL n high j).zip syms) arr := by
  intro syms
  induction syms with
  | nil => intro j a arr _ _ _; simp [tB, xU]
  | cons s r ih =>
    intro j a arr hj hlen ha
    have ha := ha (by simp)
    have key : ∀ (d j : Nat), j + d = n → (s :: r).length ≤ (iL n high j).length → (iL n high j).headD 0 = a → ∃ i, i < n ∧ j ≤ i ∧ pos n i = a ∧ iL n high j = a :: iL n high (i + 1) := by
      intro d
      induction d with
      | zero =>
        intro j hj hl _
        obtain rfl : j = n := by omega
        rw [AG] at hl; simp at hl
      | succ d ihd =>
        intro j hj hl hd
        have e := xC (high := high) (show j < n by omega)
        by_cases hp : pos n j < high
        · rw [if_pos hp] at e
          rw [e] at hd
          have : pos n j = a := hd
          exact ⟨j, by omega, Nat.le_refl _, this, by rw [e, this]⟩
        · rw [if_neg hp] at e
          rw [e] at hl hd ⊢
          obtain ⟨i, h1, h2, h3, h4⟩ := ihd (j + 1) (by omega) hl hd
          exact ⟨i, h1, by omega, h3, h4⟩
    obtain ⟨i, h1, h2, h3, h4⟩ := key (n - j) j (by omega) hlen ha
    rw [h4] at hlen ⊢
    simp only [List.length_cons] at hlen
    rw [tB, List.zip_cons_cons, xU]
    refine ih (i + 1) _ _ (by omega) (by omega) (fun hr => ?_)
    rw [← h3, yF]
    exact (FZ hh (n - (i + 1)) (i + 1) n (by omega) (by omega)).symm
end Go.Pu
namespace Go.Pu
set_option linter.unusedVariables false
def kM : List Int → Nat → List Nat
  | [], _ => []
  | p :: r, s => if p = -1 then s :: kM r (s + 1) else kM r (s + 1)
def DV (l : List Nat) : List Int := l.map Int.ofNat
theorem Dz : ∀ (ps : List Int) (s high : Nat) (arr : List Int), (kM ps s).length ≤ high → high ≤ arr.length →
    C8 ps s high arr = (high - (kM ps s).length, arr.take (high - (kM ps s).length) ++ DV (kM ps s).reverse ++ arr.drop high) := by
  intro ps
  induction ps with
  | nil => intro s high arr h1 h2; simp [C8, kM, DV]
  | cons p r ih =>
    intro s high arr h1 h2
    unfold C8 kM
    unfold kM at h1
    by_cases hp : p = -1
    · rw [if_pos hp, if_pos hp]
      rw [if_pos hp] at h1
      simp only [List.length_cons] at h1 ⊢
      rw [ih (s + 1) (high - 1) _ (by omega) (by simp; omega)]
      congr 1
      · omega
      · have hlt : high - 1 < arr.length := by omega
        rw [List.take_set_of_le (by omega), show high - 1 - (kM r (s + 1)).length = high - ((kM r (s + 1)).length + 1) from by omega]
        have : (arr.set (high - 1) (s : Int)).drop (high - 1) = (s : Int) :: arr.drop high := by
          rw [List.drop_eq_getElem_cons (by simp; omega)]
          simp only [List.getElem_set_self]
          rw [show high - 1 + 1 = high from by omega, List.drop_set_of_lt (by omega)]
        rw [this]
        simp [DV]
    · rw [if_neg hp, if_neg hp]
      rw [if_neg hp] at h1
      exact ih (s + 1) high arr h1 h2
theorem A1 : ∀ (l : List (Nat × Nat)) (arr : List Int), (xU l arr).length = arr.length
  | [], _ => rfl
  | (q, s) :: r, arr => by rw [xU, A1]; simp
theorem xW {q : Nat} : ∀ (l : List (Nat × Nat)) (arr : List Int), (∀ x ∈ l, x.1 ≠ q) → (xU l arr)[q]? = arr[q]?
  | [], _, _ => rfl
  | (a, s) :: r, arr, h => by
    rw [xU, xW r _ fun x hx => h x (List.mem_cons_of_mem _ hx), List.getElem?_set_ne (h (a, s) (by simp))]
theorem F0 : ∀ (us : List Nat) (ss : List Nat) (arr : List Int) (t : Nat), us.Nodup → us.length = ss.length → (∀ q ∈ us, q < arr.length) → (ht : t < us.length) → (ht' : t < ss.length) →
    (xU (us.zip ss) arr)[us[t]]? = some (ss[t] : Int) := by
  intro us
  induction us with
  | nil => intro ss arr t _ _ _ ht; simp at ht
  | cons u us ih =>
    intro ss arr t hd hl hb ht ht'
    cases ss with
    | nil => simp at hl
    | cons x ss =>
      obtain ⟨h1, h2⟩ := List.nodup_cons.1 hd
      rw [List.zip_cons_cons, xU]
      cases t with
      | zero =>
        simp only [List.getElem_cons_zero]
        rw [xW _ _ (fun y hy => fun e => h1 (by have := (List.of_mem_zip (a := y.1) (b := y.2) hy).1; rw [e] at this; exact this))]
        have : u < arr.length := hb u (by simp)
        simp [this]
      | succ t =>
        simp only [List.getElem_cons_succ]
        exact ih ss _ t h2 (by simpa using hl) (fun q hq => by simpa using hb q (List.mem_cons_of_mem _ hq)) (by simpa using ht) (by simpa using ht')
theorem CV : ∀ (n : Nat) (l : List Nat), l.Nodup → (∀ a ∈ l, a < n) → l.length = n → l.Perm (List.range n) := by
  intro n
  induction n with
  | zero => intro l _ _ h; rw [List.length_eq_zero_iff.1 h]; exact List.Perm.refl _
  | succ n ih =>
    intro l hd h hl
    have hn : n ∈ l := Gf hd h hl (by omega)
    have p1 := List.perm_cons_erase hn
    have p2 := ih (l.erase n) (hd.erase n) (fun a ha => by
      have h1 := h a (List.mem_of_mem_erase ha)
      have h2 : a ≠ n := fun e => by subst e; exact hd.not_mem_erase ha
      omega) (by rw [List.length_erase_of_mem hn]; omega)
    rw [List.range_succ]
    exact p1.trans ((p2.cons n).trans (List.perm_append_singleton n _).symm)
theorem Er : ∀ (ps : List Int) (s : Nat), (∀ p ∈ ps, -1 ≤ p) → ((kF ps s).length : Int) + (kM ps s).length = vG ps := by
  intro ps
  induction ps with
  | nil => intro s _; simp [kF, kM, vG]
  | cons p r ih =>
    intro s h
    have := ih (s + 1) fun q hq => h q (List.mem_cons_of_mem _ hq)
    have hp := h p (by simp)
    rw [pF]
    unfold kF kM gD
    by_cases h1 : p = -1
    · rw [if_pos h1, if_pos (by omega)]; subst h1; simp; omega
    · rw [if_neg h1, if_neg (by omega)]; simp; omega
theorem Fc : ∀ (ps : List Int) (s i : Nat), (kF ps s).count (s + i) = if h : i < ps.length then ps[i].toNat else 0 := by
  intro ps
  induction ps with
  | nil => intro s i; simp [kF]
  | cons p r ih =>
    intro s i
    have low : ∀ (ps : List Int) (s a : Nat), a < s → (kF ps s).count a = 0 := by
      intro ps
      induction ps with
      | nil => intro s a _; simp [kF]
      | cons p r ih =>
        intro s a h
        unfold kF
        rw [List.count_append, ih (s + 1) a (by omega), List.count_replicate]
        simp; omega
    unfold kF
    rw [List.count_append, List.count_replicate]
    cases i with
    | zero => rw [Nat.add_zero, low r (s + 1) s (by omega)]; simp
    | succ i =>
      rw [show s + (i + 1) = s + 1 + i from by omega, ih (s + 1) i]
      have : (s == s + 1 + i) = false := by simp; omega
      rw [this]; simp
theorem E8 : ∀ (ps : List Int) (s i : Nat), (kM ps s).count (s + i) = if h : i < ps.length then (if ps[i] = -1 then 1 else 0) else 0 := by
  intro ps
  induction ps with
  | nil => intro s i; simp [kM]
  | cons p r ih =>
    intro s i
    have low : ∀ (ps : List Int) (s a : Nat), a < s → (kM ps s).count a = 0 := by
      intro ps
      induction ps with
      | nil => intro s a _; simp [kM]
      | cons p r ih =>
        intro s a h
        unfold kM
        split
        · rw [List.count_cons, ih (s + 1) a (by omega)]; simp; omega
        · exact ih (s + 1) a (by omega)
    unfold kM
    cases i with
    | zero =>
      rw [Nat.add_zero]
      by_cases h : p = -1
      · rw [if_pos h, List.count_cons, low r (s + 1) s (by omega)]; simp [h]
      · rw [if_neg h, low r (s + 1) s (by omega)]; simp [h]
    | succ i =>
      have e : s + (i + 1) = s + 1 + i := by omega
      by_cases h : p = -1
      · rw [if_pos h, List.count_cons, e, ih (s + 1) i]
        have : (s == s + 1 + i) = false := by simp; omega
        rw [this]; simp
      · rw [if_neg h, e, ih (s + 1) i]; simp
theorem HJ : ∀ (ps : List Int) (s i : Nat) (h : i < ps.length), ps[i] = -1 → (kM ps s)[(ps.take i).count (-1)]? = some (s + i) := by
  intro ps
  induction ps with
  | nil => intro s i h; simp at h
  | cons p r ih =>
    intro s i h hp
    unfold kM
    cases i with
    | zero => simp only [List.getElem_cons_zero] at hp; rw [if_pos hp]; simp
    | succ i =>
      simp only [List.getElem_cons_succ] at hp
      have := ih (s + 1) i (by simpa using h) hp
      rw [List.take_succ_cons, List.count_cons]
      by_cases h1 : p = -1
      · rw [if_pos h1]; simp only [h1, beq_self_eq_true, if_true, List.getElem?_cons_succ]; rw [this]; congr 1; omega
      · rw [if_neg h1]
        have : (p == -1) = false := by simpa using h1
        rw [this]; simp only [Bool.false_eq_true, if_false, Nat.add_zero]
        rw [‹(kM r (s + 1))[_]? = _›]; congr 1; omega
theorem Dn {log high : Nat} (hl : 5 ≤ log) (hh : high ≤ 2 ^ log) : (iL (2 ^ log) high 0).Nodup ∧ (∀ a ∈ iL (2 ^ log) high 0, a < high) ∧ (iL (2 ^ log) high 0).length = high := by
  have hn : 0 < 2 ^ log := Nat.two_pow_pos log
  have hnd : ((List.range (2 ^ log)).map (pos (2 ^ log))).Nodup := by
    rw [List.nodup_iff_pairwise_ne, List.pairwise_map]
    refine List.pairwise_iff_getElem.2 fun i j hi hj hij => ?_
    simp only [List.length_range] at hi hj
    simp only [List.getElem_range]
    exact Hp hl hij hj
  have hp := CV (2 ^ log) _ hnd (fun a ha => by
    obtain ⟨j, _, rfl⟩ := List.mem_map.1 ha
    exact Fo hn j) (by simp)
  unfold iL
  rw [Nat.sub_zero, ← List.range_eq_range']
  refine ⟨hnd.filter _, fun a ha => by simpa using (List.mem_filter.1 ha).2, ?_⟩
  rw [(hp.filter _).length_eq]
  have : ∀ m : Nat, high ≤ m → ((List.range m).filter (· < high)).length = high := by
    intro m
    induction m with
    | zero => intro h; simp; omega
    | succ m ih =>
      intro h
      rw [List.range_succ, List.filter_append, List.length_append]
      by_cases hm : high ≤ m
      · rw [ih hm]; simp; omega
      · have : high = m + 1 := by omega
        subst this
        have : (List.range m).filter (fun x => decide (x < m + 1)) = List.range m := List.filter_eq_self.2 fun a ha => by have := List.mem_range.1 ha; simp; omega
        rw [this]; simp
  exact this _ hh
structure Iw (log : Nat) (ps : List Int) (S : List Int) : Prop where
  len : S.length = 2 ^ log
  cnt : ∀ s (h : s < ps.length), S.count (s : Int) = (gD ps[s]).toNat
  rng : ∀ x ∈ S, ∃ s : Nat, s < ps.length ∧ x = s
  top : ∀ s (h : s < ps.length), ps[s] = -1 → S[2 ^ log - 1 - (ps.take s).count (-1)]? = some (s : Int)
theorem Dv (l : List Nat) (s : Nat) : (DV l).count (s : Int) = l.count s := by
  induction l with
  | nil => rfl
  | cons a r ih =>
    show List.count _ (Int.ofNat a :: DV r) = _
    rw [List.count_cons, List.count_cons, ih]
    congr 1
    by_cases h : a = s
    · subst h; simp
    · simp [h]; omega
theorem GX : ∀ (ps : List Int) (s : Nat), ∀ x ∈ kF ps s, s ≤ x ∧ x < s + ps.length := by
  intro ps
  induction ps with
  | nil => intro s x h; simp [kF] at h
  | cons p r ih =>
    intro s x h
    unfold kF at h
    rcases List.mem_append.1 h with h | h
    · have := (List.mem_replicate.1 h).2; simp; omega
    · have := ih (s + 1) x h; simp; omega
theorem G4 : ∀ (ps : List Int) (s : Nat), ∀ x ∈ kM ps s, s ≤ x ∧ x < s + ps.length := by
  intro ps
  induction ps with
  | nil => intro s x h; simp [kM] at h
  | cons p r ih =>
    intro s x h
    unfold kM at h
    split at h
    · rcases List.mem_cons.1 h with rfl | h
      · simp
      · have := ih (s + 1) x h; simp; omega
    · have := ih (s + 1) x h; simp; omega
theorem EY {log : Nat} {ps : List Int} (h : E0 log ps) (x0 : Int) :
    ∃ low : List Int, nT x0 log ps = low ++ DV (kM ps 0).reverse ∧ low.Perm (DV (kF ps 0)) ∧ ((kM ps 0).length + low.length = 2 ^ log) ∧
      (∀ t (h1 : t < (iL (2 ^ log) (kF ps 0).length 0).length) (h2 : t < (kF ps 0).length), low[(iL (2 ^ log) (kF ps 0).length 0)[t]]? = some ((kF ps 0)[t] : Int)) := by
  have hrl := Er ps 0 h.low
  rw [h.sum] at hrl
  have hpow : ((2 ^ log : Nat) : Int) = (2 : Int) ^ log := by simp
  obtain ⟨m, hm⟩ : ∃ m, m = (kM ps 0).length := ⟨_, rfl⟩
  obtain ⟨hi, hhi⟩ : ∃ x, x = (kF ps 0).length := ⟨_, rfl⟩
  rw [← hm, ← hhi] at hrl
  have hsum : hi + m = 2 ^ log := by omega
  have ht := Dz ps 0 (2 ^ log) (List.replicate (2 ^ log) x0) (by omega) (by simp)
  rw [← hm, show 2 ^ log - m = hi from by omega] at ht
  have e2 : (List.replicate (2 ^ log) x0).take hi = List.replicate hi x0 := by rw [List.take_replicate]; congr 1; omega
  have e3 : (List.replicate (2 ^ log) x0).drop (2 ^ log) = [] := by simp
  rw [e2, e3, List.append_nil] at ht
  unfold nT
  rw [ht]
  simp only
  obtain ⟨u1, u2, u3⟩ := Dn (high := hi) h.log5 (by omega)
  by_cases h0 : hi = 0
  · have hr : kF ps 0 = [] := List.length_eq_zero_iff.1 (by omega)
    rw [hr, h0]
    refine ⟨[], by simp [tB], by simp [DV], by simp; omega, fun t _ h2 => by simp at h2⟩
  · have hp := Fa (n := 2 ^ log) (high := hi) (by omega) (kF ps 0) 0 0 (List.replicate hi x0 ++ DV (kM ps 0).reverse) (by omega) (by rw [u3]; omega) (fun _ => by
      rw [xC (Nat.two_pow_pos log), CT, if_pos (by omega)] <;> rfl)
    rw [hp]
    generalize hU : iL (2 ^ log) hi 0 = U at *
    have hb : ∀ q ∈ U, q < (List.replicate hi x0 ++ DV (kM ps 0).reverse).length := fun q hq => by have := u2 q hq; simp; omega
    obtain ⟨R, hR⟩ : ∃ R, R = xU (U.zip (kF ps 0)) (List.replicate hi x0 ++ DV (kM ps 0).reverse) := ⟨_, rfl⟩
    have hRl : R.length = hi + m := by rw [hR, A1]; simp [DV, hm]
    have hRd : R.drop hi = DV (kM ps 0).reverse := by
      apply List.ext_getElem?
      intro i
      rw [List.getElem?_drop, hR, xW _ _ (fun x hx => by
        have := u2 _ (List.of_mem_zip (a := x.1) (b := x.2) hx).1
        omega), List.getElem?_append_right (by simp)]
      simp
    have hget : ∀ t (h1 : t < U.length) (h2 : t < (kF ps 0).length), R[U[t]]? = some ((kF ps 0)[t] : Int) := fun t h1 h2 => by
      rw [hR]; exact F0 U _ _ t u1 (by omega) hb h1 h2
    rw [← hR]
    refine ⟨R.take hi, by rw [← hRd, List.take_append_drop], ?_, by rw [List.length_take]; omega, fun t h1 h2 => ?_⟩
    · have p1 : (U.map fun q => R.getD q 0).Perm ((List.range hi).map fun q => R.getD q 0) := (CV hi U u1 u2 u3).map _
      have p2 : (U.map fun q => R.getD q 0) = DV (kF ps 0) := by
        apply List.ext_getElem
        · simp [DV]; omega
        · intro t h1 h2
          simp only [List.length_map] at h1
          have := hget t h1 (by omega)
          simp only [List.getElem_map, DV, List.getD_eq_getElem?_getD, this]
          rfl
      have p3 : ((List.range hi).map fun q => R.getD q 0) = R.take hi := by
        apply List.ext_getElem
        · simp; omega
        · intro q h1 h2
          simp only [List.length_map, List.length_range] at h1
          simp only [List.getElem_map, List.getElem_range, List.getElem_take, List.getD_eq_getElem?_getD]
          rw [List.getElem?_eq_getElem (by omega)] <;> rfl
      rw [p2, p3] at p1
      exact p1.symm
    · subst hhi
      simp only [hU] at h1 ⊢
      have := hget t h1 h2
      rw [List.getElem?_take_of_lt (u2 _ (List.getElem_mem h1))]
      exact this
theorem zK {log : Nat} {ps : List Int} (h : E0 log ps) (x0 : Int) : Iw log ps (nT x0 log ps) := by
  obtain ⟨low, e, hp, hl, _⟩ := EY h x0
  rw [e]
  refine ⟨by simp [DV]; omega, fun s hs => ?_, fun x hx => ?_, fun s hs hps => ?_⟩
  · rw [List.count_append, hp.count_eq, Dv, Dv, List.count_reverse]
    have h1 := Fc ps 0 s
    have h2 := E8 ps 0 s
    rw [Nat.zero_add] at h1 h2
    rw [h1, h2, dif_pos hs, dif_pos hs]
    have := h.low _ (List.getElem_mem hs)
    unfold gD
    split <;> split <;> omega
  · rcases List.mem_append.1 hx with hx | hx
    · have hx := hp.mem_iff.1 hx
      obtain ⟨s, hs, rfl⟩ := List.mem_map.1 hx
      exact ⟨s, by have := GX ps 0 s hs; omega, rfl⟩
    · obtain ⟨s, hs, rfl⟩ := List.mem_map.1 hx
      exact ⟨s, by have := G4 ps 0 s (List.mem_reverse.1 hs); omega, rfl⟩
  · have h1 := HJ ps 0 s hs hps
    rw [Nat.zero_add] at h1
    have hlt : (ps.take s).count (-1) < (kM ps 0).length := by
      rcases Nat.lt_or_ge ((ps.take s).count (-1)) (kM ps 0).length with h | h
      · exact h
      · rw [List.getElem?_eq_none h] at h1; cases h1
    rw [List.getElem?_append_right (by omega)]
    unfold DV
    rw [List.getElem?_map, List.getElem?_reverse (by omega), show (kM ps 0).length - 1 - (2 ^ log - 1 - List.count (-1) (List.take s ps) - low.length) = (ps.take s).count (-1) from by omega, h1]
    rfl
end Go.Pu
namespace Go.Pu
set_option linter.unusedVariables false
def bl (k : Nat) : Nat := if k = 0 then 0 else k.log2 + 1
theorem Ew (k : Nat) : k < 2 ^ bl k := by
  unfold bl
  split
  · subst_vars; simp
  · exact Nat.lt_log2_self
theorem EV {k : Nat} (h : k ≠ 0) : 2 ^ (bl k - 1) ≤ k := by
  unfold bl
  rw [if_neg h, Nat.add_sub_cancel]
  exact Nat.log2_self_le h
theorem DR {k : Nat} (h : k ≠ 0) : 1 ≤ bl k := by unfold bl; rw [if_neg h]; omega
theorem AM {k n : Nat} (h : k < 2 ^ n) : bl k ≤ n := by
  by_cases h0 : k = 0
  · subst h0; simp [bl]
  · rcases Nat.lt_or_ge n (bl k) with hh | hh
    · have h1 := EV h0
      have := Nat.pow_le_pow_right (n := 2) (by omega) (show n ≤ bl k - 1 by omega)
      omega
    · exact hh
theorem IH {k n : Nat} (h1 : 2 ^ n ≤ k) (h2 : k < 2 ^ (n + 1)) : bl k = n + 1 := by
  have h0 : k ≠ 0 := by have := Nat.two_pow_pos n; omega
  have a := AM h2
  have b := Ew k
  rcases Nat.lt_or_ge (bl k) (n + 1) with h | h
  · have := Nat.pow_le_pow_right (n := 2) (by omega) (show bl k ≤ n by omega)
    omega
  · omega
def IT (ps S : List Int) (i : Nat) : Nat := (gD (ps.getD (S.getD i 0).toNat 0)).toNat + (S.take i).count (S.getD i 0)
def Aj (log : Nat) (x : Int) (k : Nat) : Int × Int × Int := (x, ((log + 1 - bl k : Nat) : Int), ((k * 2 ^ (log + 1 - bl k) : Nat) : Int) - 2 ^ log)
def DH (log : Nat) (ps S : List Int) (i : Nat) : Int × Int × Int := Aj log (S.getD i 0) (IT ps S i)
def jI (log : Nat) (ps : List Int) : List (Int × Int × Int) := (List.range (2 ^ log)).map (DH log ps (nT 0 log ps))
theorem kT (log : Nat) (ps : List Int) : (jI log ps).length = 2 ^ log := by simp [jI]
theorem Dk {S : List Int} {i : Nat} (h : i < S.length) : (S.take i).count S[i] + 1 ≤ S.count S[i] := by
  have e : S = S.take i ++ S[i] :: S.drop (i + 1) := by rw [← List.drop_eq_getElem_cons h, List.take_append_drop]
  have : S.count S[i] = (S.take i ++ S[i] :: S.drop (i + 1)).count S[i] := by rw [← e]
  rw [this, List.count_append, List.count_cons]; simp
theorem C9 {log : Nat} {ps : List Int} (h : E0 log ps) {s : Nat} (hs : s < ps.length) : (gD ps[s]).toNat ≤ 2 ^ log := by
  have := HG h.low (List.getElem_mem hs)
  rw [h.sum] at this
  have hpow : ((2 ^ log : Nat) : Int) = (2 : Int) ^ log := by simp
  rw [← hpow] at this
  exact Int.toNat_le.2 this
theorem GW {log : Nat} {ps S : List Int} (h : E0 log ps) (L : Iw log ps S) {i : Nat} (hi : i < 2 ^ log) :
    ∃ s : Nat, ∃ hs : s < ps.length, S.getD i 0 = (s : Int) ∧ 1 ≤ (gD ps[s]).toNat ∧ (gD ps[s]).toNat ≤ 2 ^ log ∧ IT ps S i = (gD ps[s]).toNat + (S.take i).count (s : Int) ∧ (S.take i).count (s : Int) < (gD ps[s]).toNat := by
  have hil : i < S.length := by rw [L.len]; exact hi
  have hg : S.getD i 0 = S[i] := by rw [List.getD_eq_getElem?_getD, List.getElem?_eq_getElem hil] <;> rfl
  obtain ⟨s, hs, e⟩ := L.rng _ (List.getElem_mem hil)
  have hc := Dk hil
  rw [e, L.cnt s hs] at hc
  refine ⟨s, hs, by rw [hg, e], by omega, C9 h hs, ?_, by omega⟩
  unfold IT
  rw [hg, e, Int.toNat_natCast, List.getD_eq_getElem?_getD, List.getElem?_eq_getElem hs] <;> rfl
theorem Io {log k : Nat} (h1 : 1 ≤ k) (h2 : k < 2 ^ (log + 1)) : 2 ^ log ≤ k * 2 ^ (log + 1 - bl k) ∧ (k + 1) * 2 ^ (log + 1 - bl k) ≤ 2 ^ (log + 1) ∧ bl k ≤ log + 1 ∧ 1 ≤ bl k := by
  have a := AM h2
  have b := DR (k := k) (by omega)
  have c := EV (k := k) (by omega)
  have d := Ew k
  refine ⟨?_, ?_, a, b⟩
  · calc 2 ^ log = 2 ^ (bl k - 1) * 2 ^ (log + 1 - bl k) := by rw [← Nat.pow_add]; congr 1; omega
      _ ≤ k * 2 ^ (log + 1 - bl k) := Nat.mul_le_mul_right _ c
  · calc (k + 1) * 2 ^ (log + 1 - bl k) ≤ 2 ^ bl k * 2 ^ (log + 1 - bl k) := Nat.mul_le_mul_right _ d
      _ = 2 ^ (log + 1) := by rw [← Nat.pow_add]; congr 1; omega
theorem HD (n j : Nat) (hn : 0 < n) : ∃ d, d < n ∧ pos n (j + d) = 0 := by
  refine ⟨(n - j % n) % n, Nat.mod_lt _ hn, ?_⟩
  unfold pos
  have : (j + (n - j % n) % n) % n = 0 := by
    rw [Nat.add_mod_mod]
    have h1 := Nat.mod_lt j hn
    have h2 := Nat.div_add_mod j n
    have : j + (n - j % n) = n * (j / n + 1) := by
      rw [Nat.mul_add, Nat.mul_one]
      generalize n * (j / n) = y at *
      generalize j % n = r at *
      omega
    rw [this, Nat.mul_mod_right]
  rw [Nat.mul_mod, this, Nat.zero_mul, Nat.zero_mod]
theorem DB {n high : Nat} (hn : 0 < n) (hh : 0 < high) (j : Nat) : ∃ d, (∀ e, e < d → high ≤ pos n (j + e)) ∧ pos n (j + d) < high ∧ Bx n high n (pos n j) = pos n (j + d) := by
  obtain ⟨D, hD, h0⟩ := HD n j hn
  have key : ∀ (D f j : Nat), D ≤ f → pos n (j + D) < high → ∃ d, (∀ e, e < d → high ≤ pos n (j + e)) ∧ pos n (j + d) < high ∧ Bx n high f (pos n j) = pos n (j + d) := by
    intro D
    induction D with
    | zero =>
      intro f j _ h
      refine ⟨0, fun e he => by omega, h, ?_⟩
      rw [Nat.add_zero] at h ⊢
      cases f with
      | zero => rfl
      | succ f => unfold Bx; rw [if_pos h]
    | succ D ih =>
      intro f j hf h
      obtain ⟨f, rfl⟩ : ∃ g, f = g + 1 := ⟨f - 1, by omega⟩
      by_cases hj : pos n j < high
      · exact ⟨0, fun e he => by omega, hj, by unfold Bx; rw [if_pos hj] <;> rfl⟩
      · obtain ⟨d, h1, h2, h3⟩ := ih f (j + 1) (by omega) (by rw [show j + 1 + D = j + (D + 1) from by omega]; exact h)
        refine ⟨d + 1, fun e he => ?_, by rw [show j + (d + 1) = j + 1 + d from by omega]; exact h2, ?_⟩
        · cases e with
          | zero => rw [Nat.add_zero]; omega
          | succ e => rw [show j + (e + 1) = j + 1 + e from by omega]; exact h1 e (by omega)
        · unfold Bx; rw [if_neg hj, yF, h3]; congr 1; omega
  exact key D n j (by omega) (by rw [h0]; exact hh)
theorem ED {log : Nat} {ps : List Int} (h : E0 log ps) (x0 : Int) : ∃ arr, C8 ps 0 (2 ^ log) (List.replicate (2 ^ log) x0) = ((kF ps 0).length, arr) ∧ arr.length = 2 ^ log ∧ (kM ps 0).length + (kF ps 0).length = 2 ^ log ∧ nT x0 log ps = tB (2 ^ log) (kF ps 0).length (kF ps 0) 0 arr := by
  have hrl := Er ps 0 h.low
  rw [h.sum] at hrl
  have hpow : ((2 ^ log : Nat) : Int) = (2 : Int) ^ log := by simp
  have hsum : (kM ps 0).length + (kF ps 0).length = 2 ^ log := by omega
  have ht := Dz ps 0 (2 ^ log) (List.replicate (2 ^ log) x0) (by omega) (by simp)
  rw [show 2 ^ log - (kM ps 0).length = (kF ps 0).length from by omega] at ht
  refine ⟨_, ht, ?_, hsum, ?_⟩
  · simp [DV]; omega
  · unfold nT; rw [ht]
end Go.Pu
namespace Go.En
open Go
set_option linter.unusedVariables false
section
variable {P : Program} {w : World} {t e : TypeId}
theorem Ey {i : TypeInfo} (hu : P.underlying t = some (.slice e)) (hi : P.info? e = some i)
    {K : Value → World → Prop} (hk : ∀ w', iE w' w.heap.size [] → gA w w' jQ → w'.heap.size = w.heap.size + 1 → K (.slice (some ⟨w.heap.size, 0, none⟩) 0 0) w') :
    cJ P (hZ t 0 []) w K := by
  have : (hZ t 0 []).run P w = .ok (.value (.slice (some ⟨w.heap.size, 0, none⟩) 0 0)) (w.alloc (.cells ([] : List Value).toArray e)) := by
    unfold hZ; rw [kN]
    have h1 : ¬ (0 > 2 ^ 24) := by omega
    have e : ∀ f : Nat → Value, Array.map f (Array.range 0) = #[] := fun f => by simp
    simp only [Instr.buildSlice, underlying, pure_bind, Sem.run_bind, run_program, Result.andThen_ok, hu, Sem.run_pure, gO hi, Nat.zero_mul, h1, if_false, if_true, newRow, run_newObj, Instr.fill, e]
    rfl
  unfold cJ
  rw [this]
  exact hk _ (iE.alloc _ _ _) (gA.alloc _ _ _) (by simp)
def At (v : Value) (b : Nat) : Prop := ∀ M : Nat → Prop, ¬ M b → ¬ Hh v M
theorem At.nil (c b : Nat) (a : Option Addr) : At (.slice a 0 c) b := fun M h => by unfold Hh; split <;> simp_all
theorem At.at (b o n c : Nat) : At (.slice (some ⟨b, o, none⟩) n c) b := fun M h => by
  unfold Hh; split
  · rename_i x m _ e
    obtain ⟨rfl, _⟩ : (⟨b, o, none⟩ : Addr) = x ∧ _ := by simpa using e
    exact h
  · simp
theorem yL.at' {w : World} {base sz n : Nat} {v : Value} {l : List Value} (h : yL w base sz v n l) (hb : base < w.heap.size) : ∃ b, base ≤ b ∧ b < w.heap.size ∧ At v b := by
  rcases h.2 with ⟨rfl, rfl⟩ | ⟨b, c, rest, rfl, h2, h3, h4, h5⟩
  · exact ⟨base, Nat.le_refl _, hb, At.nil _ _ _⟩
  · exact ⟨b, h2, h3.lt, At.at _ _ _ _⟩
end
end Go.En
namespace Go.Proofs.YtoepfjgekpdddaaDoor
open Go Go.En Go.Pu
set_option maxRecDepth 4000
set_option linter.unusedSimpArgs false
set_option linter.unusedVariables false
def Fv : ByteArray := ⟨#[0, 1, 2, 2, 3, 3, 3, 3, 4, 4, 4, 4, 4, 4, 4, 4, 5, 5, 5, 5, 5, 5, 5, 5, 5, 5, 5, 5, 5, 5, 5, 5, 6, 6, 6, 6, 6, 6, 6, 6, 6, 6, 6, 6, 6, 6, 6, 6, 6, 6, 6, 6, 6, 6, 6, 6, 6, 6, 6, 6, 6, 6, 6, 6, 7, 7, 7, 7, 7, 7, 7, 7, 7, 7, 7, 7, 7, 7, 7, 7, 7, 7, 7, 7, 7, 7, 7, 7, 7, 7, 7, 7, 7, 7, 7, 7, 7, 7, 7, 7, 7, 7, 7, 7, 7, 7, 7, 7, 7, 7, 7, 7, 7, 7, 7, 7, 7, 7, 7, 7, 7, 7, 7, 7, 7, 7, 7, 7, 8, 8, 8, 8, 8, 8, 8, 8, 8, 8, 8, 8, 8, 8, 8, 8, 8, 8, 8, 8, 8, 8, 8, 8, 8, 8, 8, 8, 8, 8, 8, 8, 8, 8, 8, 8, 8, 8, 8, 8, 8, 8, 8, 8, 8, 8, 8, 8, 8, 8, 8, 8, 8, 8, 8, 8, 8, 8, 8, 8, 8, 8, 8, 8, 8, 8, 8, 8, 8, 8, 8, 8, 8, 8, 8, 8, 8, 8, 8, 8, 8, 8, 8, 8, 8, 8, 8, 8, 8, 8, 8, 8, 8, 8, 8, 8, 8, 8, 8, 8, 8, 8, 8, 8, 8, 8, 8, 8, 8, 8, 8, 8, 8, 8, 8, 8, 8, 8, 8, 8, 8, 8, 8, 8, 8, 8, 8, 8]⟩
theorem B1 : Fv.size = 256 := by decide
set_option maxRecDepth 100000 in
theorem He (x : Nat) (h : x < 256) : (Fv[x]'(by rw [B1]; exact h)).toNat = bl x := by
  have : ∀ k : Fin 256, (Fv.data[k.val]!).toNat = bl k.val := by decide +kernel
  have h2 := this ⟨x, h⟩
  simp only at h2
  rw [← h2]
  have hs : x < Fv.data.size := by have := B1; exact (show Fv.data.size = 256 from this) ▸ h
  rw [getElem!_pos Fv.data x hs]
  rfl
theorem CX {x j : Nat} (h : 2 ^ j ≤ x) : bl x = bl (x / 2 ^ j) + j := by
  have hp := Nat.two_pow_pos j
  have h0 : x / 2 ^ j ≠ 0 := by
    have := Nat.div_pos h hp
    omega
  have a := EV h0
  have b := Ew (x / 2 ^ j)
  have c := DR h0
  obtain ⟨m, hm⟩ : ∃ m, bl (x / 2 ^ j) = m + 1 := ⟨bl (x / 2 ^ j) - 1, by omega⟩
  rw [hm, Nat.add_sub_cancel] at a
  rw [hm] at b ⊢
  have h1 : 2 ^ (m + j) ≤ x := by
    rw [Nat.pow_add]
    exact Nat.le_trans (Nat.mul_le_mul_right _ a) (Nat.div_mul_le_self _ _)
  have h2 : x < 2 ^ (m + j + 1) := by
    rw [show m + j + 1 = (m + 1) + j from by omega, Nat.pow_add]
    exact (Nat.div_lt_iff_lt_mul hp).1 b
  rw [IH h1 h2]; omega
theorem ET {x n : Nat} (hx : x < 256) (hn : n ≤ 1000) (R : Value → World → Prop) (w : World) (h : R (.int .i64 ((n + bl x : Nat) : Int)) w) :
    jF R (.int .u64 x) (.int .i64 n) w := by
  have hg := He x hx
  have hs := B1
  have hb : bl x ≤ 8 := AM (n := 8) (by omega)
  unfold jF
  change cJ pg _ w fun t21 w => cJ pg (GG 9 (.string Fv) t21) w _
  simp (disch := omega) only [cJ, bY, iO, aD, dQ, Int.toNat_natCast, hg, cX, eM, fH]
  rw [Int.natCast_add] at h
  exact h
theorem CS (a b : Nat) : ((a : Int)).fdiv (b : Int) = ((a / b : Nat) : Int) := by rw [Int.fdiv_eq_ediv_of_nonneg _ (by omega)] <;> rfl
theorem DO (x j : Nat) (hj : j ≤ 64) : ((x : Int)).fdiv (2 ^ (min (j : Nat) IntKind.u64.bits)) = ((x / 2 ^ j : Nat) : Int) := by
  have e : min j IntKind.u64.bits = j := by simp only [IntKind.bits]; omega
  rw [e, ← CS]; simp
theorem Hq (x : Nat) (hx : x < 18446744073709551616) (w : World) : gH pg lF #[.int .u64 x] w (fun r w' => r = .int .i64 (bl x : Nat) ∧ w' = w) := by
  refine xR ?_
  unfold wK mV mS
  have step8 : ∀ (y n : Nat), y < 65536 → n ≤ 64 → n + bl y = bl x → jD (fun r w' => r = .int .i64 (bl x : Nat) ∧ w' = w) (.int .u64 y) (.int .i64 n) w := by
    intro y n hy hn e
    unfold jD mU
    by_cases h : 256 ≤ y
    · have d : decide ((256 : Int) ≤ (y : Int)) = true := by simp; omega
      have sh := DO y 8 (by omega)
      have hq : y / 2 ^ 8 < 256 := by omega
      have := CX (x := y) (j := 8) (by omega)
      have e2 : (n : Int) + 8 = ((n + 8 : Nat) : Int) := by omega
      simp (disch := omega) only [cJ, gG, d, fY, fH, e2, eM, aD, cY]
      rw [show (8 : Int).toNat = 8 from rfl, sh]
      exact ET hq (by omega) _ _ ⟨by rw [← e, this]; congr 2; omega, rfl⟩
    · have d : decide ((256 : Int) ≤ (y : Int)) = false := by simp; omega
      simp (disch := omega) only [cJ, gG, d, fY, fH, eM, aD, cQ]
      exact ET (by omega) (by omega) _ _ ⟨by rw [e], rfl⟩
  have step16 : ∀ (y n : Nat), y < 4294967296 → n ≤ 32 → n + bl y = bl x → jH (fun r w' => r = .int .i64 (bl x : Nat) ∧ w' = w) (.int .u64 y) (.int .i64 n) w := by
    intro y n hy hn e
    unfold jH mT
    by_cases h : 65536 ≤ y
    · have d : decide ((65536 : Int) ≤ (y : Int)) = true := by simp; omega
      have sh := DO y 16 (by omega)
      have hq : y / 2 ^ 16 < 65536 := by omega
      have := CX (x := y) (j := 16) (by omega)
      have e2 : (n : Int) + 16 = ((n + 16 : Nat) : Int) := by omega
      simp (disch := omega) only [cJ, gG, d, fY, fH, e2, eM, aD, cY]
      rw [show (16 : Int).toNat = 16 from rfl, sh]
      exact step8 _ _ hq (by omega) (by rw [← e, this]; omega)
    · have d : decide ((65536 : Int) ≤ (y : Int)) = false := by simp; omega
      simp (disch := omega) only [cJ, gG, d, fY, fH, eM, aD, cQ]
      exact step8 _ _ (by omega) (by omega) e
  by_cases h : 4294967296 ≤ x
  · have d : decide ((4294967296 : Int) ≤ (x : Int)) = true := by simp; omega
    have sh := DO x 32 (by omega)
    have hq : x / 2 ^ 32 < 4294967296 := by omega
    have := CX (x := x) (j := 32) (by omega)
    simp (disch := omega) only [cJ, gG, d, fY, aD, cY]
    rw [show (32 : Int).toNat = 32 from rfl, sh]
    exact step16 _ 32 hq (by omega) (by rw [this]; omega)
  · have d : decide ((4294967296 : Int) ≤ (x : Int)) = false := by simp; omega
    simp (disch := omega) only [cJ, gG, d, fY, aD, cQ]
    exact step16 _ 0 (by omega) (by omega) (by omega)
theorem H1 (x : Nat) (hx : x < 18446744073709551616) (w : World) : gH pg kP #[.int .u64 x] w (fun r w' => r = .int .i64 (bl x : Nat) ∧ w' = w) := by
  refine yX ?_
  simp (disch := omega) only [yT, pE, cJ, cL, aD, cQ]
  exact Hq x hx w
theorem H6 {n : Nat} (h : n ≤ 20) : IntKind.i64.wrap (1 * 2 ^ (min n IntKind.i64.bits)) = ((2 ^ n : Nat) : Int) := by
  have : ∀ k : Fin 21, IntKind.i64.wrap (1 * 2 ^ (min k.val IntKind.i64.bits)) = ((2 ^ k.val : Nat) : Int) := by decide
  exact this ⟨n, by omega⟩
theorem Ht {v : Value} {l : List UInt8} {w : World} (h : Bs w v l) (hl : l.length ≤ 1000000000) :
    gH pg kI #[v] w (fun r w' => yL w' w.heap.size 1 r l.length (l.map Hm) ∧ gA w w' jQ) := by
  refine vM ?_
  have h1 := h
  obtain ⟨a, n, c, rfl, hn, hc, hh⟩ := h
  rw [List.length_map] at hn
  unfold sV lZ
  cases a with
  | none =>
    have h0 : l = [] := by
      cases l with
      | nil => rfl
      | cons x l => obtain ⟨b, off, h, _⟩ := hh (by simp at hn; omega); cases h
    subst h0
    simp (disch := omega) only [cJ, cS, Option.isNone_none, aD, cY]
    exact ⟨yL.nil _ _ _, gA.refl _ _⟩
  | some x =>
    simp (disch := omega) only [cJ, cS, Option.isNone_some, aD, cQ]
    refine Ey Tryd.underlying22 Gq fun w1 o1 x1 s1 => ?_
    have hcl1 := (h1.ext x1 (iM _)).cl
    rw [List.length_map] at hcl1
    have hos : yL w1 w.heap.size 1 (.slice (some ⟨w.heap.size, 0, none⟩) 0 0) 0 [] := ⟨rfl, .inr ⟨_, 0, [], rfl, Nat.le_refl _, o1, rfl, Nat.le_refl _⟩⟩
    refine xZ hos hcl1 (H8 _) x1.size (by omega) fun v3 w3 o3 x3 => ?_
    rw [Nat.zero_add, List.nil_append] at o3
    exact ⟨o3, x1.trans x3 fun b hb h => Nat.not_le_of_lt hb h⟩
def IB (v : Value) (lo hi : Nat) : Prop := ∀ M : Nat → Prop, (∀ b, lo ≤ b → b < hi → ¬ M b) → ¬ Hh v M
theorem yL.atI {w : World} {base sz n : Nat} {v : Value} {l : List Value} (h : yL w base sz v n l) : IB v base w.heap.size := by
  intro M hM
  rcases h.2 with ⟨rfl, rfl⟩ | ⟨b, c, rest, rfl, h2, h3, h4, h5⟩
  · exact fun h => h
  · exact At.at b 0 n c M (hM b h2 h3.lt)
end Go.Proofs.YtoepfjgekpdddaaDoor
namespace Go.Proofs.YtoepfjgekpdddaaDoor
open Go Go.En Go.Pu
set_option maxRecDepth 4000
set_option linter.unusedSimpArgs false
set_option linter.unusedVariables false
def Gr (log : Int) (ps : List Int) (most : Int) : Int := if Dm log ps = false then 1 else if most < log then 12 else 0
theorem FK {log most : Int} {sv : Value} {ps : List Int} {w : World} (hs : Sl w sv (ps.map (Value.int .i64))) (hl : ps.length ≤ 9223372036854775807) :
    gH pg oH #[.agg #[.int .i64 log, sv], .int .i64 most] w (fun r w' => r = .int .i64 (Gr log ps most) ∧ gA w w' jQ) := by
  refine AU ?_
  unfold Ai qM
  refine wC fun w1 o1 x1 s1 => ?_
  have hs := hs.ext x1 (iM _)
  rw [show eF 51 = eF 51 from rfl]
  have l1 := iJ o1 (off := 0) (by simp [Value.cells])
  simp only [Value.cells, List.drop_zero, List.take_succ_cons, List.take_zero] at l1
  simp (disch := omega) only [cJ, l1, aI, aD, eE]
  refine (II hs hl).mono ?_
  rintro r w2 ⟨rfl, x2⟩
  have o2 := o1.ext x2 (fun h => h)
  have c0 := o2.cell (off := 0)
  simp only [Value.cells, List.getElem?_cons_zero] at c0
  unfold Gr
  cases hm : Dm log ps with
  | false =>
    simp (disch := omega) only [gM, Bool.not_false, if_true, true_and, aD, cY]
    exact x1.seq x2
  | true =>
    by_cases h : most < log
    · have d : decide (most < log) = true := by simpa using h
      simp (disch := omega) only [gM, Bool.not_true, aD, c0, cW, fM, d, cY, cQ]
      exact ⟨by simp [h], x1.seq x2⟩
    · have d : decide (most < log) = false := by simpa using h
      simp (disch := omega) only [gM, Bool.not_true, aD, c0, cW, fM, d, cQ]
      exact ⟨by simp [h], x1.seq x2⟩
end Go.Proofs.YtoepfjgekpdddaaDoor
namespace Go.Proofs.YtoepfjgekpdddaaDoor
open Go Go.En Go.Pu
set_option maxRecDepth 4000
set_option linter.unusedSimpArgs false
set_option linter.unusedVariables false
def m3 (L : List Int) : List T3 := L.map fun x => (x, 0, 0)
theorem In (L : List Int) (i : Nat) (h : i < L.length) (x : Int) : (m3 L).set i (x, ((m3 L)[i]'(by simpa [m3] using h)).2) = m3 (L.set i x) := by
  unfold m3; rw [List.map_set]; simp
theorem Ep {k : IntKind} {L : List Int} {i : Nat} (h : i < L.length) (x : Int) : (fe k (m3 L)).set (i * 3) (.int k x) = fe k (m3 (L.set i x)) := by
  rw [(Ea k (m3 L) i (by simpa [m3] using h) x).1, In L i h x]
theorem Fi (n high s : Nat) (r : List Nat) (a : Nat) (arr : List Int) : tB n high (s :: r) a arr = tB n high r (Bx n high n (H0 n a)) (arr.set a s) := rfl
theorem Gm {ps : List Int} {i : Nat} (h : i < ps.length) : kF (ps.drop i) i = List.replicate ps[i].toNat i ++ kF (ps.drop (i + 1)) (i + 1) := by
  rw [List.drop_eq_getElem_cons h, kF]
theorem Iq {w0 w : World} {N high j : Nat} (hN : 0 < N) (hN2 : N ≤ 32768) (hh : 0 < high) (hhN : high ≤ N) (hx : gA w0 w jQ)
    {ov sv a b c d e : Value} {k : Value → Value → Value → Value → Value → Value → Value → Value → Value → Value → World → Prop}
    (hk : ∃ j', Bx N high N (H0 N (pos N j)) = pos N j' ∧ k (.int .i64 N) ov (.int .i64 high) (.int .i64 (pos N j' : Nat)) sv a b c d e w) :
    pU k (.int .i64 N) ov (.int .i64 high) (.int .i64 (pos N j : Nat)) sv a b c d e w := by
  obtain ⟨dd, h1, h2, h3⟩ := DB hN hh (j + 1)
  obtain ⟨j', hj', hk⟩ := hk
  rw [yF, h3] at hj'
  rw [← hj'] at hk
  unfold pU
  refine iV.rule (fun m t w' => ∃ q : Nat, m = dd - q ∧ t = .int .i64 (pos N (j + q) : Nat) ∧ q ≤ dd ∧ w' = w) dd ⟨0, rfl, rfl, by omega, rfl⟩ ?_
  rintro m t w' ⟨q, rfl, rfl, hq, rfl⟩
  have hp := Fo hN (j + q)
  have e1 : ((N : Int)).fdiv (2 ^ (min 1 IntKind.i64.bits)) = ((N / 2 : Nat) : Int) := by
    have : (2 : Int) ^ (min 1 IntKind.i64.bits) = ((2 : Nat) : Int) := by decide
    rw [this, CS]
  have e3 : ((N : Int)).fdiv (2 ^ (min 3 IntKind.i64.bits)) = ((N / 8 : Nat) : Int) := by
    have : (2 : Int) ^ (min 3 IntKind.i64.bits) = ((8 : Nat) : Int) := by decide
    rw [this, CS]
  have t1 : (1 : Int).toNat = 1 := rfl
  have t3 : (3 : Int).toNat = 3 := rfl
  have e4 : (((pos N (j + q) : Nat) : Int) + ((N / 2 : Nat) : Int) + ((N / 8 : Nat) : Int) + 3).tmod (N : Int) = ((pos N (j + q + 1) : Nat) : Int) := by
    rw [Int.tmod_eq_emod_of_nonneg (by omega), ← yF]
    unfold H0
    simp
  unfold qA
  by_cases hd : q = dd
  · subst hd
    have d1 : decide (((pos N (j + q + 1) : Nat) : Int) < (high : Int)) = true := by
      simp only [decide_eq_true_eq]
      rw [show j + 1 + q = j + q + 1 from by omega] at h2
      omega
    simp (disch := omega) only [cJ, fY, t1, e1, t3, e3, aD, fH, eM, gI, e4, fB, d1, and_true, cY]
    rw [show j + 1 + q = j + q + 1 from by omega] at hk
    exact hk
  · have d1 : decide (((pos N (j + q + 1) : Nat) : Int) < (high : Int)) = false := by
      have := h1 q (by omega)
      rw [show j + 1 + q = j + q + 1 from by omega] at this
      simp only [decide_eq_false_iff_not]
      omega
    simp (disch := omega) only [cJ, fY, t1, e1, t3, e3, aD, fH, eM, gI, e4, fB, d1, and_true, cQ]
    exact ⟨dd - (q + 1), by omega, q + 1, rfl, rfl, by omega⟩
theorem Ek {log : Nat} {sv : Value} {ps : List Int} {w : World} (hm : E0 log ps) (hs : Sl w sv (ps.map (Value.int .i64))) :
    gH pg oL #[.agg #[.int .i64 log, sv]] w (fun r w' => ∃ b, r = .slice (some ⟨b, 0, none⟩) (2 ^ log) (2 ^ log) ∧ w.heap.size ≤ b ∧ iE w' b (fe .u8 (m3 (nT 0 log ps))) ∧ gA w w' jQ) := by
  refine CA ?_
  have h5 := hm.log5
  have h15 := hm.log15
  have hlen := hm.len256
  obtain ⟨arr0, ht, hal, hsum, hfin⟩ := ED hm 0
  rw [hfin]
  have hN1 : 2 ^ 5 ≤ 2 ^ log := Nat.pow_le_pow_right (by omega) h5
  have hN2 : 2 ^ log ≤ 2 ^ 15 := Nat.pow_le_pow_right (by omega) h15
  have hsh : IntKind.i64.wrap (1 * 2 ^ (min log IntKind.i64.bits)) = ((2 ^ log : Nat) : Int) := by
    have : ∀ k : Fin 16, IntKind.i64.wrap (1 * 2 ^ (min k.val IntKind.i64.bits)) = ((2 ^ k.val : Nat) : Int) := by decide
    exact this ⟨log, by omega⟩
  clear hfin
  generalize hN : 2 ^ log = N at *
  generalize hhigh : (kF ps 0).length = high at *
  unfold Db sJ rR
  refine wC fun w1 o1 x1 s1 => ?_
  have hs1 := hs.ext x1 (iM _)
  have c0 := o1.cell (off := 0)
  have c1 := o1.cell (off := 1)
  simp only [Value.cells, List.getElem?_cons_zero, List.getElem?_cons_succ] at c0 c1
  obtain ⟨a, c, rfl, hc⟩ := hs.lenI
  simp (disch := omega) only [cJ, aI, aD, eE, c0, cW, fZ, Int.toNat_natCast, hsh]
  refine Bz (by omega) (by omega) fun w2 o2 x2 s2 => ?_
  rw [Int.toNat_natCast, Fx] at o2
  rw [Int.toNat_natCast]
  have o2 : iE w2 w1.heap.size (fe .u8 (m3 (List.replicate N 0))) := by unfold m3; rw [List.map_replicate]; exact o2
  have x02 : gA w w2 jQ := x1.seq x2
  have ob2 := o1.ext x2 (fun h => h)
  have c1 := ob2.cell (off := 1)
  simp only [Value.cells, List.getElem?_cons_zero, List.getElem?_cons_succ] at c1
  unfold nQ rF sG nZ sC
  simp (disch := omega) only [cJ, aE, Nat.zero_add, aD, dJ, c1, cW, dK]
  have hw1 : w.heap.size ≤ w1.heap.size := x1.size
  refine iV.rule (fun m t w' => ∃ (i hg : Nat) (arr : List Int), m = ps.length - i ∧ t = (.int .i64 hg, .int .i64 i) ∧ i ≤ ps.length ∧ (kM (ps.drop i) i).length ≤ hg ∧ hg ≤ N ∧ arr.length = N ∧ C8 (ps.drop i) i hg arr = (high, arr0) ∧ iE w' w1.heap.size (fe .u8 (m3 arr)) ∧ gA w w' jQ ∧ iE w' w.heap.size (Value.cells (.agg #[.int .i64 log, .slice a ps.length c])).toList) ps.length
    ⟨0, N, _, rfl, rfl, by omega, by rw [List.drop_zero]; omega, by omega, by simp, by rw [List.drop_zero]; exact ht, o2, x02, ob2⟩ ?_
  rintro m t w3 ⟨i, hg, arr, rfl, rfl, hi, hng, hgN, harr, htop, o3, x3, ob3⟩
  by_cases hlt : i < ps.length
  · have d1 : decide ((i : Int) < (ps.length : Int)) = true := by simp; omega
    obtain ⟨b', off', c', e, _, hcell⟩ := (hs.ext x3 (iM _)).openI (by omega)
    cases e
    have g1 := hcell i hlt
    have hd : ps.drop i = ps[i] :: ps.drop (i + 1) := List.drop_eq_getElem_cons hlt
    rw [hd, kM] at hng
    rw [hd, C8] at htop
    unfold lU oF nY
    by_cases hp : ps[i] = -1
    · have d2 : (ps[i] == -1) = true := by simpa using hp
      rw [if_pos hp] at hng htop
      simp only [List.length_cons] at hng
      have e1 : (hg : Int) - 1 = ((hg - 1 : Nat) : Int) := by omega
      simp (disch := omega) only [cJ, fB, d1, dL, Int.toNat_natCast, fR, e1, eM, cV, iO, fH, aD, bV, Nat.zero_add, bC, eE, g1, cW, gB, d2, cY]
      refine EC o3 rfl (by rw [mE]; simp [m3]; omega) fun w4 o4 x4 s4 => ?_
      rw [Ep (by omega)] at o4
      exact ⟨ps.length - (i + 1), by omega, i + 1, hg - 1, _, rfl, rfl, by omega, by omega, by omega, by simp [harr], htop, o4, x3.new x4 hw1, ob3.ext x4 (by omega)⟩
    · have d2 : (ps[i] == -1) = false := by simpa using hp
      rw [if_neg hp] at hng htop
      simp (disch := omega) only [cJ, fB, d1, dL, Int.toNat_natCast, fR, eM, cV, iO, fH, aD, eE, g1, cW, gB, d2, cQ, cY]
      exact ⟨ps.length - (i + 1), by omega, i + 1, hg, arr, rfl, rfl, by omega, by omega, by omega, harr, htop, o3, x3, ob3⟩
  · have d1 : decide ((i : Int) < (ps.length : Int)) = false := by simp; omega
    rw [List.drop_of_length_le (by omega), C8] at htop
    obtain ⟨rfl, rfl⟩ : hg = high ∧ arr = arr0 := by simpa using htop
    have c1 := ob3.cell (off := 1)
    simp only [Value.cells, List.getElem?_cons_zero, List.getElem?_cons_succ] at c1
    unfold lU oF nK rT nO sH sK oA rO
    simp (disch := omega) only [cJ, fB, d1, fR, eM, cV, aD, aE, Nat.zero_add, dJ, c1, cW, dK, cQ]
    clear d1 hlt hi hng htop
    have hbig : iE w3 w1.heap.size (fe .u8 (m3 arr)) := o3
    refine iV.rule (fun m t w' => ∃ (s j : Nat) (ar : List Int), m = ps.length - s ∧ t = (.int .i64 (pos N j : Nat), .int .i64 s) ∧ s ≤ ps.length ∧ ar.length = N ∧ tB N hg (kF (ps.drop s) s) (pos N j) ar = tB N hg (kF ps 0) 0 arr ∧ (kF (ps.drop s) s).length ≤ hg ∧ iE w' w1.heap.size (fe .u8 (m3 ar)) ∧ gA w w' jQ) ps.length
      ⟨0, 0, arr, rfl, by rw [CT] <;> rfl, by omega, harr, by rw [CT, List.drop_zero], by rw [List.drop_zero, hhigh]; exact Nat.le_refl _, o3, x3⟩ ?_
    rintro m t w4 ⟨s, j, ar, rfl, rfl, hs4, har, hpl, hrl, o4, x4⟩
    by_cases hlt : s < ps.length
    · have d1 : decide ((s : Int) < (ps.length : Int)) = true := by simp; omega
      obtain ⟨b', off', c', e, _, hcell⟩ := (hs.ext x4 (iM _)).openI (by omega)
      cases e
      have g1 := hcell s hlt
      obtain ⟨q, hq⟩ : ∃ q, q = ps[s].toNat := ⟨_, rfl⟩
      have emax : (if (0 : Int) > ps[s] then (0 : Int) else ps[s]) = (q : Int) := by rw [hq]; split <;> omega
      rw [Gm hlt, ← hq] at hpl hrl
      have hqN : q ≤ N := by simp at hrl; omega
      unfold lQ nE oJ sD rG rX oI sE rI
      simp (disch := omega) only [cJ, fB, d1, dL, Int.toNat_natCast, aD, eE, g1, cW, gP, emax, cY]
      unfold oM rL
      refine iV.rule (fun m t w' => ∃ (k j : Nat) (ar : List Int), m = q - k ∧ t = (.int .i64 (pos N j : Nat), .int .i64 k) ∧ k ≤ q ∧ ar.length = N ∧ tB N hg (List.replicate (q - k) s ++ kF (ps.drop (s + 1)) (s + 1)) (pos N j) ar = tB N hg (kF ps 0) 0 arr ∧ iE w' w1.heap.size (fe .u8 (m3 ar)) ∧ gA w w' jQ) q
        ⟨0, j, ar, rfl, rfl, by omega, har, hpl, o4, x4⟩ ?_
      rintro m t w5 ⟨k, j5, ar5, rfl, rfl, hk, har5, hpl5, o5, x5⟩
      by_cases hkq : k < q
      · have d2 : decide ((k : Int) < (q : Int)) = true := by simp; omega
        have hp := Fo (n := N) (by omega) j5
        have hhg : 0 < hg := by simp at hrl; omega
        unfold lN oN oK uK uE tU
        simp (disch := omega) only [cJ, fB, d2, cV, iO, bV, Int.toNat_natCast, Nat.zero_add, aD, bC, cY]
        refine EC o5 rfl (by rw [mE]; simp [m3]; omega) fun w6 o6 x6 s6 => ?_
        rw [Ep (by omega)] at o6
        unfold pX
        rw [show q - k = (q - (k + 1)) + 1 from by omega, List.replicate_succ, List.cons_append, Fi] at hpl5
        obtain ⟨d, _, hd2, hd3⟩ := DB (n := N) (high := hg) (by omega) hhg (j5 + 1)
        have hsk : Bx N hg N (H0 N (pos N j5)) = pos N (j5 + 1 + d) := by rw [yF]; exact hd3
        refine Iq (w0 := w) (by omega) hN2 hhg hgN (x5.new x6 hw1) ⟨j5 + 1 + d, hsk, ?_⟩
        rw [hsk] at hpl5
        unfold pT
        simp (disch := omega) only [cJ, fH, eM, aD]
        exact ⟨q - (k + 1), by omega, k + 1, j5 + 1 + d, _, rfl, rfl, by omega, by simp [har5], hpl5, o6, x5.new x6 hw1⟩
      · have d2 : decide ((k : Int) < (q : Int)) = false := by simp; omega
        rw [show q - k = 0 from by omega, List.replicate_zero, List.nil_append] at hpl5
        unfold lN oN pM
        simp (disch := omega) only [cJ, fB, d2, fH, eM, aD, cQ]
        exact ⟨ps.length - (s + 1), by omega, s + 1, j5, ar5, rfl, rfl, by omega, har5, hpl5, by simp at hrl; omega, o5, x5⟩
    · have d1 : decide ((s : Int) < (ps.length : Int)) = false := by simp; omega
      rw [List.drop_of_length_le (by omega), kF, tB] at hpl
      unfold lQ nE pV
      simp (disch := omega) only [cJ, fB, d1, aD, cQ]
      exact ⟨_, rfl, hw1, by rw [← hpl]; exact o4, x4⟩
end Go.Proofs.YtoepfjgekpdddaaDoor
namespace Go.Proofs.YtoepfjgekpdddaaDoor
open Go Go.En Go.Pu
set_option maxRecDepth 4000
set_option linter.unusedSimpArgs false
set_option linter.unusedVariables false
def Es (log : Nat) (ps S : List Int) (i : Nat) : List T3 := (List.range (2 ^ log)).map fun j => if j < i then DH log ps S j else (S.getD j 0, 0, 0)
def E2 (ps S : List Int) (i : Nat) : List Int := (List.range ps.length).map fun s => gD (ps.getD s 0) + ((S.take i).count (s : Int) : Nat)
theorem Hs {log : Nat} {ps S : List Int} (h : S.length = 2 ^ log) : Es log ps S 0 = m3 S := by
  unfold Es m3
  apply List.ext_getElem
  · simp [h]
  · intro i h1 h2
    simp only [List.length_map, List.length_range] at h1
    simp only [List.getElem_map, List.getElem_range, Nat.not_lt_zero, if_false, List.getD_eq_getElem?_getD]
    rw [List.getElem?_eq_getElem (by omega)] <;> rfl
theorem Ij (log : Nat) (ps : List Int) : Es log ps (nT 0 log ps) (2 ^ log) = jI log ps := by
  unfold Es jI
  refine List.map_congr_left fun j hj => ?_
  rw [if_pos (List.mem_range.1 hj)]
theorem yI (log : Nat) (ps S : List Int) (i : Nat) : (Es log ps S i).length = 2 ^ log := by simp [Es]
theorem HZ {log : Nat} {ps S : List Int} {i : Nat} (h : i < 2 ^ log) : (Es log ps S i)[i]'(by rw [yI]; exact h) = (S.getD i 0, 0, 0) := by
  unfold Es; simp
theorem Ii {log : Nat} {ps S : List Int} {i : Nat} (_ : i < 2 ^ log) : (Es log ps S i).set i (DH log ps S i) = Es log ps S (i + 1) := by
  unfold Es
  apply List.ext_getElem
  · simp
  · intro j h1 h2
    rw [List.getElem_set]
    simp only [List.getElem_map, List.getElem_range]
    by_cases hij : i = j
    · subst hij; simp
    · rw [if_neg hij]
      by_cases hj : j < i
      · rw [if_pos hj, if_pos (by omega)]
      · rw [if_neg hj, if_neg (by omega)]
theorem yY (ps S : List Int) (i : Nat) : (E2 ps S i).length = ps.length := by simp [E2]
theorem GF (ps S : List Int) : E2 ps S 0 = ps.map gD := by
  unfold E2
  apply List.ext_getElem
  · simp
  · intro i h1 h2
    simp only [List.length_map, List.length_range] at h1
    simp only [List.getElem_map, List.getElem_range, List.take_zero, List.count_nil, List.getD_eq_getElem?_getD]
    rw [List.getElem?_eq_getElem h1]; simp
theorem D9 {ps S : List Int} {i s : Nat} (h : s < ps.length) : (E2 ps S i)[s]'(by rw [yY]; exact h) = gD ps[s] + ((S.take i).count (s : Int) : Nat) := by
  unfold E2
  simp only [List.getElem_map, List.getElem_range, List.getD_eq_getElem?_getD]
  rw [List.getElem?_eq_getElem h] <;> rfl
theorem HB {ps S : List Int} {i s : Nat} (h : i < S.length) (hs : s < ps.length) (e : S[i] = (s : Int)) : (E2 ps S i).set s (gD ps[s] + ((S.take i).count (s : Int) : Nat) + 1) = E2 ps S (i + 1) := by
  apply List.ext_getElem
  · simp [E2]
  · intro j h1 h2
    have hj : j < ps.length := by simpa [E2] using h2
    rw [List.getElem_set, D9 hj, D9 hj, List.take_add_one, List.getElem?_eq_getElem h, List.count_append]
    simp only [Option.toList, e, List.count_singleton]
    by_cases hij : s = j
    · subst hij; simp; omega
    · have : ((s : Int) == (j : Int)) = false := by simp; omega
      rw [if_neg hij, this]; simp
theorem HK {k b : Nat} (hb : b ≤ 64) (h : k * 2 ^ b ≤ 9223372036854775807) : IntKind.i64.wrap ((k : Int) * 2 ^ (min b IntKind.i64.bits)) = ((k * 2 ^ b : Nat) : Int) := by
  have e : min b IntKind.i64.bits = b := by simp only [IntKind.bits]; omega
  rw [e]
  have : (k : Int) * 2 ^ b = ((k * 2 ^ b : Nat) : Int) := by simp
  rw [this]
  exact eM (by omega) (by omega)
section
variable {log : Nat} {ps S : List Int} {w0 w1 : World} {p1 p2 p4 b nb N : Nat} {sv : Value}
theorem Fj (hm : E0 log ps) (L : Iw log ps S) (hN : 2 ^ log = N) {i : Nat} (hlt : i < N) {w3 : World}
    (on3 : iE w3 nb ((E2 ps S i).map (Value.int .i64))) (ob3 : iE w3 b (fe .u8 (Es log ps S i)))
    (o13 : iE w3 p1 [.int .i64 log, sv]) (o43 : iE w3 p4 [.int .i64 log, .slice (some ⟨b, 0, none⟩) N N])
    (hne : p1 ≠ b ∧ p4 ≠ b ∧ nb ≠ b ∧ p1 ≠ nb ∧ p4 ≠ nb) {t2 : Value} {kn : Value → Value → Value → Value → Value → Value → World → Prop}
    (hk : ∀ w', iE w' nb ((E2 ps S (i + 1)).map (Value.int .i64)) → iE w' b (fe .u8 (Es log ps S (i + 1))) → gA w3 w' (fun y => y = nb ∨ y = b) →
      kn (.pointer (some ⟨p1, 0, none⟩)) t2 (.pointer (some ⟨p4, 0, none⟩)) (.slice (some ⟨nb, 0, none⟩) ps.length ps.length) (.int .i64 N) (.int .i64 ((i + 1 : Nat) : Int)) w') :
    nG kn (.pointer (some ⟨p1, 0, none⟩)) t2 (.pointer (some ⟨p4, 0, none⟩)) (.slice (some ⟨nb, 0, none⟩) ps.length ps.length) (.int .i64 N) (.int .i64 i) w3 := by
  have h5 := hm.log5
  have h15 := hm.log15
  have hlen := hm.len256
  have hN2 : 2 ^ log ≤ 2 ^ 15 := Nat.pow_le_pow_right (by omega) h15
  have hSl : S.length = 2 ^ log := L.len
  have c40 := o43.cell (off := 0)
  have c41 := o43.cell (off := 1)
  have c10 := o13.cell (off := 0)
  simp only [List.getElem?_cons_zero, List.getElem?_cons_succ] at c40 c41 c10
  have hltN : i < 2 ^ log := by omega
  obtain ⟨s, hsl, hsS, hp1, hp2, hk', hcnt⟩ := GW hm L hltN
  obtain ⟨k, hkk⟩ : ∃ k, k = IT ps S i := ⟨_, rfl⟩
  rw [← hkk] at hk'
  have hk2 : k < 2 ^ (log + 1) := by rw [Nat.pow_succ]; omega
  obtain ⟨eb1, eb2, eb3, eb4⟩ := Io (log := log) (k := k) (by omega) hk2
  have hel : i < (Es log ps S i).length := by rw [yI]; exact hltN
  obtain ⟨f0, f1, f2⟩ := C4 .u8 (Es log ps S i) i hel
  rw [HZ hltN] at f0
  simp only at f0
  rw [hsS] at f0
  have g0 := ob3.cell (off := i * 3)
  rw [f0] at g0
  have hnx : ((E2 ps S i).map (Value.int .i64))[s]? = some (.int .i64 k) := by
    rw [List.getElem?_map, List.getElem?_eq_getElem (by rw [yY]; exact hsl), D9 hsl, hk']
    simp; omega
  have gn := on3.cell (off := s)
  rw [hnx] at gn
  have hkb : k < 131072 := by
    have : 2 ^ (log + 1) ≤ 2 ^ 16 := Nat.pow_le_pow_right (by omega) (by omega)
    omega
  have hpn := kB (hm.low _ (List.getElem_mem hsl))
  have hSi : S[i]'(by omega) = (s : Int) := by rw [← hsS, List.getD_eq_getElem?_getD, List.getElem?_eq_getElem (by omega)] <;> rfl
  have hns := HB (ps := ps) (S := S) (i := i) (s := s) (by omega) hsl hSi
  have hkv : gD ps[s] + ((S.take i).count (s : Int) : Nat) + 1 = (k : Int) + 1 := by rw [hk']; omega
  rw [hkv] at hns
  have hent : DH log ps S i = Aj log (s : Int) k := by unfold DH; rw [hsS, ← hkk]
  have hes := Ii (log := log) (ps := ps) (S := S) (i := i) hltN
  rw [hent] at hes
  have hE0 : (Es log ps S i)[i]'hel = ((s : Int), 0, 0) := by rw [HZ hltN, hsS]
  clear hkk hcnt
  unfold nG wE vL vS
  simp (disch := omega) only [cJ, aZ, Nat.zero_add, aD, bU, c41, cW, bV, Int.toNat_natCast, gF, bC, eA, g0, dL, eE, gn, fH, eM]
  refine CM on3 rfl (by simp [yY]; omega) fun w4 on4 x4 s4 => ?_
  rw [← List.map_set, hns] at on4
  unfold qW vR
  have o14 := jG (o13.ext x4 (by omega))
  have o44 := o43.ext x4 (by omega)
  have ob4 := ob3.ext x4 (by omega)
  have c10 := o14.cell (off := 0)
  simp only [List.getElem?_cons_zero] at c10
  simp (disch := omega) only [cJ, aI, dD, gE, hP, Result.ok.injEq, Next.value.injEq, and_true, gF, aD, bK, true_and, eE, c10, cW]
  refine (H1 k (by omega) _).mono ?_
  rintro r w5 ⟨rfl, rfl⟩
  obtain ⟨nbits, hnbits⟩ : ∃ x, x = log + 1 - bl k := ⟨_, rfl⟩
  have e2 : (log : Int) - (bl k : Int) + 1 = (nbits : Int) := by omega
  have e3 : IntKind.i64.wrap ((log : Int) - (bl k : Int)) = (log : Int) - (bl k : Int) := eM (by omega) (by omega)
  simp (disch := omega) only [c10, cW, fR, e3, aD, fH, e2, eM, true_and]
  have ob4 := jG ob4
  refine CM ob4 rfl (by rw [mE, yI]; omega) fun w5 ob5 x5 s5 => ?_
  rw [(Ea .u8 (Es log ps S i) i hel _).2.1, hE0] at ob5
  unfold qS
  have o45 := jG ((jG o44).ext x5 (by omega))
  have ob5 := jG ob5
  have on5 := jG ((jG on4).ext x5 (by omega))
  have c41 := o45.cell (off := 1)
  simp only [List.getElem?_cons_zero, List.getElem?_cons_succ] at c41
  have hel5 : i < ((Es log ps S i).set i ((s : Int), (nbits : Int), 0)).length := by simpa using hel
  obtain ⟨-, f1, -⟩ := C4 .u8 _ i hel5
  simp only [List.getElem_set_self] at f1
  have g1 := ob5.cell (off := i * 3 + 1)
  rw [f1] at g1
  have hnb2 : k * 2 ^ nbits ≤ 2 ^ 16 := by
    rw [hnbits]
    have : 2 ^ (log + 1) ≤ 2 ^ 16 := Nat.pow_le_pow_right (by omega) (by omega)
    have := Nat.mul_le_mul_right (2 ^ (log + 1 - bl k)) (show k ≤ k + 1 by omega)
    omega
  have e4 := HK (k := k) (b := nbits) (by omega) (by omega)
  have e5 : (((k * 2 ^ nbits : Nat) : Int) - (N : Int)) = (Aj log (s : Int) k).2.2 := by
    unfold Aj
    simp only
    rw [← hnbits, ← hN]
    simp
  have e6 : IntKind.i64.wrap (((k * 2 ^ nbits : Nat) : Int) - (N : Int)) = ((k * 2 ^ nbits : Nat) : Int) - (N : Int) := eM (by omega) (by omega)
  rw [e5] at e6
  have e7 : (Aj log (s : Int) k) = ((s : Int), (nbits : Int), (Aj log (s : Int) k).2.2) := by unfold Aj; rw [hnbits]
  generalize hq : k * 2 ^ nbits = q at *
  generalize hbase : (Aj log (s : Int) k).2.2 = base at *
  simp (disch := omega) only [cJ, gF, aZ, Nat.zero_add, aD, bN, true_and, bU, c41, cW, bW, bK, eE, g1, fZ, Int.toNat_natCast, e4, fR, e5, e6]
  refine CM ob5 rfl (by rw [mE]; simp [yI]; omega) fun w6 ob6 x6 s6 => ?_
  rw [(Ea .u8 _ i hel5 _).2.2] at ob6
  simp only [List.getElem_set_self, List.set_set] at ob6
  rw [← e7, hes] at ob6
  have xx : gA w3 w6 (fun y => y = nb ∨ y = b) :=
    ((((x4.mono fun _ _ h => .inl h : gA w3 w4 (fun y => y = nb ∨ y = b)).seq (gA.dr _ _)).seq (x5.mono fun _ _ h => .inr h)).seq (gA.dr _ _)).seq (x6.mono fun _ _ h => .inr h)
  unfold qZ
  simp (disch := omega) only [cJ, fH, eM, aD]
  exact hk _ (on5.ext x6 (by omega)) ob6 xx
theorem FR (hm : E0 log ps) (L : Iw log ps S) (hN : 2 ^ log = N) {w3 : World}
    (on3 : iE w3 nb ((E2 ps S 0).map (Value.int .i64))) (ob3 : iE w3 b (fe .u8 (m3 S)))
    (o13 : iE w3 p1 [.int .i64 log, sv]) (o23 : iE w3 p2 [.int .i64 0, .slice none 0 0]) (o43 : iE w3 p4 [.int .i64 log, .slice (some ⟨b, 0, none⟩) N N])
    (hne : p1 ≠ b ∧ p4 ≠ b ∧ nb ≠ b ∧ p1 ≠ nb ∧ p4 ≠ nb ∧ p2 ≠ b ∧ p2 ≠ nb) (hlo : w0.heap.size ≤ p2 ∧ w0.heap.size ≤ b ∧ w0.heap.size ≤ nb) (hx : gA w0 w3 jQ) {R : Value → World → Prop}
    (hR : ∀ w', iE w' b (fe .u8 (Es log ps S N)) → gA w0 w' jQ → R (.tuple #[.agg #[.int .i64 log, .slice (some ⟨b, 0, none⟩) N N], .int .i64 0]) w') :
    mO R (.pointer (some ⟨p1, 0, none⟩)) (.pointer (some ⟨p2, 0, none⟩)) (.pointer (some ⟨p4, 0, none⟩)) (.slice (some ⟨nb, 0, none⟩) ps.length ps.length) w3 := by
  have hN2 : 2 ^ log ≤ 2 ^ 15 := Nat.pow_le_pow_right (by omega) hm.log15
  have c41 := o43.cell (off := 1)
  simp only [List.getElem?_cons_zero, List.getElem?_cons_succ] at c41
  unfold mO uM uI qB tI
  simp (disch := omega) only [cJ, aZ, Nat.zero_add, aD, bU, c41, cW, bW]
  have ob0 : iE w3 b (fe .u8 (Es log ps S 0)) := by rw [Hs L.len]; exact ob3
  refine iV.rule (fun m t w' => ∃ i : Nat, m = N - i ∧ t = .int .i64 i ∧ i ≤ N ∧ iE w' nb ((E2 ps S i).map (Value.int .i64)) ∧ iE w' b (fe .u8 (Es log ps S i)) ∧ gA w3 w' (fun y => y = nb ∨ y = b)) N
    ⟨0, rfl, rfl, by omega, on3, ob0, gA.refl _ _⟩ ?_
  rintro m t w4 ⟨i, rfl, rfl, hi, on4, ob4, x4⟩
  unfold pW tN
  have o44 := o43.ext x4 (by omega)
  have o24 := o23.ext x4 (by omega)
  by_cases hlt : i < N
  · have d1 : decide ((i : Int) < (N : Int)) = true := by simp only [decide_eq_true_eq]; omega
    simp (disch := omega) only [cJ, fB, d1, aD, cY]
    refine Fj hm L hN hlt on4 ob4 (o13.ext x4 (by omega)) o44 ⟨hne.1, hne.2.1, hne.2.2.1, hne.2.2.2.1, hne.2.2.2.2.1⟩ fun w5 on5 ob5 x5 => ?_
    exact ⟨N - (i + 1), by omega, i + 1, rfl, rfl, by omega, on5, ob5, x4.trans x5 (fun _ _ h => h)⟩
  · have d1 : decide ((i : Int) < (N : Int)) = false := by simp only [decide_eq_false_iff_not]; omega
    have : i = N := by omega
    subst this
    have l4 := mK (off := 0) o44 (by simp)
    simp only [List.drop_zero, List.take_succ_cons, List.take_zero] at l4
    simp (disch := omega) only [cJ, fB, d1, aD, cQ]
    unfold qR
    simp (disch := omega) only [cJ, l4, aD]
    refine gK o24 rfl (by simp [one]) (by simp) fun w5 o25 x5 s5 => ?_
    refine kS o25 (by simp [gC]) ?_
    simp only [gC, List.set_cons_zero, List.set_cons_succ, List.drop_zero, List.take_succ_cons, List.take_zero]
    exact hR _ (ob4.ext x5 (by omega)) ((hx.trans x4 (fun y hy hh => by omega)).new x5 hlo.1)
theorem Fs (hm : E0 log ps) (L : Iw log ps S) (hN : 2 ^ log = N) {w : World} (hs : Sl w0 sv (ps.map (Value.int .i64)))
    (o1 : iE w p1 [.int .i64 log, sv]) (o2 : iE w p2 [.int .i64 0, .slice none 0 0]) (o4 : iE w p4 [.int .i64 log, .slice (some ⟨b, 0, none⟩) N N]) (ob : iE w b (fe .u8 (m3 S)))
    (hlo : w0.heap.size ≤ p2 ∧ w0.heap.size ≤ b) (hne : p1 ≠ b ∧ p2 ≠ b ∧ p4 ≠ b) (hx : gA w0 w jQ) {R : Value → World → Prop}
    (hR : ∀ w', iE w' b (fe .u8 (Es log ps S N)) → gA w0 w' jQ → R (.tuple #[.agg #[.int .i64 log, .slice (some ⟨b, 0, none⟩) N N], .int .i64 0]) w') :
    kU R (.pointer (some ⟨p1, 0, none⟩)) (.pointer (some ⟨p2, 0, none⟩)) (.pointer (some ⟨p4, 0, none⟩)) w := by
  have hlen := hm.len256
  have hN2 : 2 ^ log ≤ 2 ^ 15 := Nat.pow_le_pow_right (by omega) hm.log15
  obtain ⟨a, c, rfl, hc⟩ := hs.lenI
  have c1 := o1.cell (off := 1)
  simp only [List.getElem?_cons_zero, List.getElem?_cons_succ] at c1
  unfold kU tW
  simp (disch := omega) only [cJ, aE, Nat.zero_add, aD, dJ, c1, cW, dK]
  refine FW (by omega) (by omega) fun w1 on x1 s1 => ?_
  rw [Int.toNat_natCast] at on ⊢
  have l1 := o1.lt
  have l2 := o2.lt
  have l4 := o4.lt
  have lb := ob.lt
  have o1 := o1.ext x1 (fun h => h)
  have o2 := o2.ext x1 (fun h => h)
  have o4 := o4.ext x1 (fun h => h)
  have ob := ob.ext x1 (fun h => h)
  have x01 := hx.seq x1
  have c1 := o1.cell (off := 1)
  simp only [List.getElem?_cons_zero, List.getElem?_cons_succ] at c1
  have hwn : w0.heap.size ≤ w.heap.size := hx.size
  generalize w.heap.size = nb at *
  unfold pN uL uB pR uJ
  simp (disch := omega) only [cJ, aE, Nat.zero_add, aD, dJ, c1, cW, dK]
  refine iV.rule (fun m t w' => ∃ i : Nat, m = ps.length - i ∧ t = .int .i64 i ∧ i ≤ ps.length ∧ iE w' nb (((ps.take i).map gD ++ List.replicate (ps.length - i) 0).map (Value.int .i64)) ∧ gA w0 w' jQ ∧ gA w1 w' (fun y => y = nb)) ps.length
    ⟨0, rfl, rfl, by omega, by simpa using on, x01, gA.refl _ _⟩ ?_
  rintro m t w2 ⟨i, rfl, rfl, hi, on2, x2, y2⟩
  by_cases hlt : i < ps.length
  · have d1 : decide ((i : Int) < (ps.length : Int)) = true := by simp; omega
    obtain ⟨b', off', c', e, _, hcell⟩ := (hs.ext x2 (iM _)).openI (by omega)
    cases e
    have g1 := hcell i hlt
    have hp := hm.low _ (List.getElem_mem hlt)
    have hple := C9 hm hlt
    have hpv : gD ps[i] = ps[i] ∨ ps[i] = -1 := by unfold gD; split <;> omega
    have hpn := kB hp
    have emax : (if (0 - ps[i]) > ps[i] then (0 - ps[i]) else ps[i]) = gD ps[i] := by unfold gD; split <;> split <;> omega
    unfold mJ
    simp (disch := omega) only [cJ, fB, d1, dL, Int.toNat_natCast, Nat.zero_add, fH, eM, aD, eE, g1, cW, gS, gP, emax, cY]
    refine CM on2 rfl (by simp; omega) fun w3 on3 x3 s3 => ?_
    refine ⟨ps.length - (i + 1), by omega, i + 1, rfl, rfl, by omega, ?_, x2.new x3 hwn, y2.trans x3 (fun _ _ h => h)⟩
    rw [← List.map_set] at on3
    have e : ((ps.take i).map gD ++ List.replicate (ps.length - i) 0).set i (gD ps[i]) = (ps.take (i + 1)).map gD ++ List.replicate (ps.length - (i + 1)) 0 := by
      rw [show ps.length - i = (ps.length - (i + 1)) + 1 from by omega, List.replicate_succ, List.set_append_right _ _ (by rw [List.length_map, List.length_take]; omega)]
      have : i - ((ps.take i).map gD).length = 0 := by rw [List.length_map, List.length_take]; omega
      rw [this, List.set_cons_zero, List.take_add_one, List.getElem?_eq_getElem hlt, List.map_append, List.append_assoc]
      rfl
    rw [e] at on3
    exact on3
  · have d1 : decide ((i : Int) < (ps.length : Int)) = false := by simp; omega
    have : i = ps.length := by omega
    subst this
    have on2 : iE w2 nb ((E2 ps S 0).map (Value.int .i64)) := by rw [GF]; simpa using on2
    unfold mJ
    simp (disch := omega) only [cJ, fB, d1, fH, eM, aD, cQ]
    exact FR hm L hN on2 (ob.ext y2 (by omega)) (o1.ext y2 (by omega)) (o2.ext y2 (by omega)) (o4.ext y2 (by omega)) (by omega) (by omega) x2 hR
def Hk (w : World) (base b log : Nat) (L : List T3) (v : Value) : Prop := v = .agg #[.int .i64 log, .slice (some ⟨b, 0, none⟩) L.length L.length] ∧ base ≤ b ∧ iE w b (fe .u8 L)
theorem HU {log most : Nat} {ps : List Int} (h : E0 log ps) (hl : log ≤ most) : Gr log ps most = 0 := by
  unfold Gr; rw [h.b]; simp; omega
theorem FD {w : World} (hm : E0 log ps) (hs : Sl w sv (ps.map (Value.int .i64))) :
    gH pg lX #[.agg #[.int .i64 log, sv]] w (fun r w' => ∃ b v, r = .tuple #[v, .int .i64 0] ∧ Hk w' w.heap.size b log (jI log ps) v ∧ gA w w' jQ) := by
  refine wW ?_
  have hlen := hm.len256
  unfold Bk pQ pO
  refine wC fun w1 o1 x1 s1 => ?_
  refine hX fun w2 o2 x2 s2 => ?_
  have o1 := o1.ext x2 (fun h => h)
  have l1 := iJ (off := 0) o1 (by simp [Value.cells])
  simp only [Value.cells, List.drop_zero, List.take_succ_cons, List.take_zero] at l1
  simp (disch := omega) only [cJ, l1, cR, aD, aI, hP, Result.ok.injEq, Next.value.injEq, and_true, eE, true_and]
  refine (FK (most := 15) ((hs.ext x1 (iM _)).ext x2 (iM _)) (by omega)).mono ?_
  rintro r w3 ⟨rfl, x3⟩
  have hce := HU (most := 15) hm hm.log15
  rw [show (((15 : Nat) : Int)) = 15 from rfl] at hce
  rw [hce]
  have e0 : ((0 : Int) != 0) = false := rfl
  have x03 : gA w w3 jQ := (x1.seq x2).seq x3
  have o1 := jG (o1.ext x3 (fun h => h))
  have o2 := jG (o2.ext x3 (fun h => h))
  have c0 := o1.cell (off := 0)
  simp only [Value.cells, List.getElem?_cons_zero] at c0
  have l1 := iJ (off := 0) o1 (by simp [Value.cells])
  simp only [Value.cells, List.drop_zero, List.take_succ_cons, List.take_zero] at l1
  have hz2 := o2.lt
  have fin : ∀ {b p4 : Nat} {w' : World}, iE w' w.heap.size [.int .i64 log, sv] → iE w' w1.heap.size [.int .i64 0, .slice none 0 0] → iE w' p4 [.int .i64 log, .slice (some ⟨b, 0, none⟩) (2 ^ log) (2 ^ log)] → iE w' b (fe .u8 (m3 (nT 0 log ps))) → w2.heap.size ≤ b → p4 ≠ b → gA w w' jQ →
      kU (fun r w' => ∃ b v, r = .tuple #[v, .int .i64 0] ∧ Hk w' w.heap.size b log (jI log ps) v ∧ gA w w' jQ) (.pointer (some ⟨w.heap.size, 0, none⟩)) (.pointer (some ⟨w1.heap.size, 0, none⟩)) (.pointer (some ⟨p4, 0, none⟩)) w' := by
    intro b p4 w' h1 h2 h3 h4 h5 h6 h7
    refine Fs hm (zK hm 0) rfl hs h1 h2 h3 h4 (by omega) (by omega) h7 fun w'' ho hx => ?_
    rw [Ij] at ho
    exact ⟨b, _, rfl, ⟨by rw [kT], by omega, ho⟩, hx⟩
  simp (disch := omega) only [fP, e0, aD, cQ]
  have hdr : (dr w3).heap.size = w3.heap.size := rfl
  have h23 := x3.size
  refine Ha ?_ ?_
  · simp (disch := omega) only [c0, cW, l1, aD, true_and]
    refine (Ek hm ((hs.ext x03 (iM _)).dr)).mono ?_
    rintro r w4 ⟨b, rfl, hb, ob, x4⟩
    have o1 := o1.ext x4 (fun h => h)
    have c0 := o1.cell (off := 0)
    simp only [Value.cells, List.getElem?_cons_zero] at c0
    simp (disch := omega) only [c0, cW, bO, Result.ok.injEq, Next.value.injEq, and_true, aD, true_and]
    refine hX fun w5 o5 x5 s5 => ?_
    have o1 := o1.ext x5 (fun h => h)
    have c0 := o1.cell (off := 0)
    simp only [Value.cells, List.getElem?_cons_zero] at c0
    simp (disch := omega) only [c0, cW, true_and]
    have hlb := ob.lt
    refine gK o5 rfl (by simp [one]) (by simp) fun w6 o6 x6 s6 => ?_
    have h45 := x4.size
    refine fin (o1.ext x6 (by omega)) (((o2.ext x4 (fun h => h)).ext x5 (fun h => h)).ext x6 (by omega)) o6 ((ob.ext x5 (fun h => h)).ext x6 (by omega)) (by omega) (by omega) ?_
    exact (((x03.seq (gA.dr _ _)).seq x4).seq x5).new x6 (by omega)
  · simp (disch := omega) only [c0, cW, l1, aD, true_and]
    refine hX fun w4 o4 x4 s4 => ?_
    have o1 := o1.ext x4 (fun h => h)
    have c0 := o1.cell (off := 0)
    simp only [Value.cells, List.getElem?_cons_zero] at c0
    have l1 := iJ (off := 0) o1 (by simp [Value.cells])
    simp only [Value.cells, List.drop_zero, List.take_succ_cons, List.take_zero] at l1
    simp (disch := omega) only [l1, c0, cW, and_true, true_and]
    refine (Ek hm ((((hs.ext x03 (iM _)).dr).ext x4 (iM _)))).mono ?_
    rintro r w5 ⟨b, rfl, hb, ob, x5⟩
    have o1 := o1.ext x5 (fun h => h)
    have c0 := o1.cell (off := 0)
    simp only [Value.cells, List.getElem?_cons_zero] at c0
    simp (disch := omega) only [c0, cW, bO, aD, true_and]
    refine gK (o4.ext x5 (fun h => h)) rfl (by simp [one]) (by simp) fun w6 o6 x6 s6 => ?_
    refine fin (o1.ext x6 (by omega)) (((o2.ext x4 (fun h => h)).ext x5 (fun h => h)).ext x6 (by omega)) o6 (ob.ext x6 (by omega)) (by omega) (by omega) ?_
    exact (((x03.seq (gA.dr _ _)).seq x4).seq x5).new x6 (by omega)
theorem F1 {log : Int} {w : World} (hm : Dm log ps = false) (hs : Sl w sv (ps.map (Value.int .i64))) (hl : ps.length ≤ 9223372036854775807) :
    gH pg lX #[.agg #[.int .i64 log, sv]] w (fun r w' => r = .tuple #[.agg #[.int .i64 0, .slice none 0 0], .int .i64 1] ∧ gA w w' jQ) := by
  refine wW ?_
  unfold Bk pQ pO
  refine wC fun w1 o1 x1 s1 => ?_
  refine hX fun w2 o2 x2 s2 => ?_
  have o1 := o1.ext x2 (fun h => h)
  have l1 := iJ (off := 0) o1 (by simp [Value.cells])
  simp only [Value.cells, List.drop_zero, List.take_succ_cons, List.take_zero] at l1
  simp (disch := omega) only [cJ, l1, cR, aD, aI, hP, Result.ok.injEq, Next.value.injEq, and_true, eE, true_and]
  refine (FK (most := 15) ((hs.ext x1 (iM _)).ext x2 (iM _)) (by omega)).mono ?_
  rintro r w3 ⟨rfl, x3⟩
  have hce : Gr log ps 15 = 1 := by unfold Gr; rw [hm] <;> rfl
  rw [hce]
  have e0 : ((1 : Int) != 0) = true := rfl
  simp (disch := omega) only [fP, e0, aD, cY]
  refine gK (o2.ext x3 (fun h => h)) rfl (by simp [one]) (by simp) fun w6 o6 x6 s6 => ?_
  refine kS o6 (by simp [gC]) ⟨rfl, ?_⟩
  exact ((x1.seq x2).seq x3).new x6 (by omega)
end
end Go.Proofs.YtoepfjgekpdddaaDoor
namespace Go.Proofs.YtoepfjgekpdddaaDoor
open Go Go.En Go.Pu
set_option maxRecDepth 4000
set_option linter.unusedSimpArgs false
set_option linter.unusedVariables false
theorem Hk.ext {w w' : World} {base b log : Nat} {L : List T3} {v : Value} {M : Nat → Prop} (h : Hk w base b log L v) (hx : gA w w' M) (hM : ¬ M b) : Hk w' base b log L v := ⟨h.1, h.2.1, h.2.2.ext hx hM⟩
theorem Hy {k : IntKind} {L : List T3} {i : Nat} (h : i < L.length) : ((fe k L).drop (i * 3)).take 3 = [.int k L[i].1, .int .i64 L[i].2.1, .int .i64 L[i].2.2] := by
  obtain ⟨h0, h1, h2⟩ := C4 k L i h
  apply List.ext_getElem?
  intro j
  match j with
  | 0 => rw [List.getElem?_take_of_lt (by omega), List.getElem?_drop]; exact h0
  | 1 => rw [List.getElem?_take_of_lt (by omega), List.getElem?_drop]; exact h1
  | 2 => rw [List.getElem?_take_of_lt (by omega), List.getElem?_drop]; exact h2
  | j + 3 => rw [List.getElem?_eq_none (by rw [List.length_take]; omega), List.getElem?_eq_none (by simp)]
theorem CN (log : Nat) (ps : List Int) {i : Nat} (h : i < 2 ^ log) : ((jI log ps)[i]'(by rw [kT]; exact h)).1 = (nT 0 log ps).getD i 0 := by
  unfold jI DH Aj; simp
theorem Fm {log : Nat} {ps : List Int} (hm : E0 log ps) {s : Nat} (hs : s < ps.length) (hp : ps[s] ≠ 0) : ∃ i, ∃ h : i < (jI log ps).length, ((jI log ps)[i]'h).1 = (s : Int) := by
  have L := zK hm 0
  have hc := L.cnt s hs
  have hl := hm.low _ (List.getElem_mem hs)
  have hpos : 0 < (nT 0 log ps).count (s : Int) := by rw [hc]; unfold gD; split <;> omega
  obtain ⟨i, hi, e⟩ := List.getElem_of_mem (List.count_pos_iff.1 hpos)
  have hi2 : i < 2 ^ log := by rw [← L.len]; exact hi
  refine ⟨i, by rw [kT]; exact hi2, ?_⟩
  rw [CN log ps hi2, List.getD_eq_getElem?_getD, List.getElem?_eq_getElem hi, e] <;> rfl
end Go.Proofs.YtoepfjgekpdddaaDoor
namespace Go.Proofs.YtoepfjgekpdddaaDoor
open Go Go.En Go.Pu
set_option maxRecDepth 4000
set_option linter.unusedSimpArgs false
set_option linter.unusedVariables false
theorem Iy (s : Int) (w : World) : gH pg yJ #[.int .u8 s] w (fun r w' => ∃ b, Hk w' w.heap.size b 0 [(s, 0, 0)] r ∧ gA w w' jQ) := by
  refine DU ?_
  unfold FO zC
  refine hX fun w1 o1 x1 s1 => ?_
  simp (disch := omega) only [cJ, cM, aD]
  refine CD (cells := #[.int .u8 s, .int .i64 0, .int .i64 0]) (by decide) (by decide) (by kernel_rfl) fun w2 o2 x2 s2 => ?_
  simp (disch := omega) only [cK, aD]
  have l1 := o1.lt
  refine gK (o1.ext x2 (fun h => h)) rfl (by simp [one]) (by simp) fun w3 o3 x3 s3 => ?_
  refine kS o3 (by simp [gC]) ?_
  simp only [gC, List.set_cons_zero, List.set_cons_succ, List.drop_zero, List.take_succ_cons, List.take_zero]
  exact ⟨w1.heap.size, ⟨rfl, by omega, o2.ext x3 (by omega)⟩, (x1.seq x2).new x3 (Nat.le_refl _)⟩
end Go.Proofs.YtoepfjgekpdddaaDoor
namespace Go.Proofs.YtoepfjgekpdddaaDoor
open Go Go.En Go.Pu
set_option maxRecDepth 4000
set_option linter.unusedSimpArgs false
set_option linter.unusedVariables false
abbrev Do (w : World) (g : Nat) (zs : List Int) : Prop := ∀ i (h : i < zs.length), w.cell? ⟨g, i, none⟩ = some (.int .i64 zs[i])
theorem Do.ext {w w' : World} {g : Nat} {zs : List Int} {M : Nat → Prop} (h : Do w g zs) (x : gA w w' M) (hM : ¬ M g) : Do w' g zs := fun i hi => by
  have hc := h i hi
  have hg : g < w.heap.size := by
    rcases Nat.lt_or_ge g w.heap.size with h | h
    · exact h
    · unfold World.cell? at hc
      rw [Array.getElem?_eq_none h] at hc
      cases hc
  rw [← hc]
  unfold World.cell?
  rw [x.keep g hg hM]
theorem Do.ld {w : World} {g : Nat} {zs : List Int} (h : Do w g zs) : ∀ j, j < (zs.map (Value.int .i64)).length → w.cell? ⟨g, 0 + j, none⟩ = (zs.map (Value.int .i64))[j]? := fun j hj => by
  rw [List.length_map] at hj
  rw [Nat.zero_add, h j hj, List.getElem?_map, List.getElem?_eq_getElem hj] <;> rfl
theorem xX (zs : List Int) (i : Nat) (h : i < zs.length) : zs.getD i 0 = zs[i] := by
  rw [List.getD_eq_getElem?_getD, List.getElem?_eq_getElem h] <;> rfl
theorem E6 (xs cs : List Value) (h : cs.length = xs.length) : gC cs 0 xs = xs := by
  have := tP xs [] cs (by omega)
  rw [List.nil_append, List.drop_of_length_le (by omega), List.append_nil, List.nil_append] at this
  exact this
theorem De {w : World} {b n : Nat} {zs : List Int} (o : iE w b (zs.map (Value.int .i64))) (h : zs.length = n) : Sl w (.slice (some ⟨b, 0, none⟩) n n) (zs.map (Value.int .i64)) := by
  refine ⟨_, _, _, rfl, by rw [List.length_map, h], Nat.le_refl _, fun _ => ⟨_, _, rfl, fun i hi => ?_⟩⟩
  rw [o.cell, Nat.zero_add]
theorem rJ (zs : List Int) (n : Nat) (hz : zs.length = n) (cs : List Value) (h : cs.length = n) : gC cs 0 (zs.map (Value.int .i64)) = zs.map (Value.int .i64) := E6 _ cs (by rw [h, List.length_map, hz])
theorem xV (zs : List Int) : ∀ x ∈ (zs.map (Value.int .i64)).toArray.toList, one x = true := fun x hx => by
  rw [List.toList_toArray] at hx
  obtain ⟨z, _, rfl⟩ := List.mem_map.1 hx
  rfl
def H7 : List Int := [1, 1, 1, 1, 2, 2, 3, 3, 4, 6, 7, 8, 9, 10, 11, 12, 13, 14, 15, 16]
def If : List Int := [1, 1, 1, 1, 2, 2, 3, 3, 4, 4, 5, 7, 8, 9, 10, 11, 12, 13, 14, 15, 16]
def Ie : List Int := [4, 3, 2, 2, 2, 2, 2, 2, 2, 2, 2, 2, 2, 1, 1, 1, 2, 2, 2, 2, 2, 2, 2, 2, 2, 3, 2, 1, 1, 1, 1, 1, -1, -1, -1, -1]
def Id : List Int := [1, 1, 1, 1, 1, 1, 2, 2, 2, 1, 1, 1, 1, 1, 1, 1, 1, 1, 1, 1, 1, 1, 1, 1, -1, -1, -1, -1, -1]
def Il : List Int := [1, 4, 3, 2, 2, 2, 2, 2, 2, 1, 1, 1, 1, 1, 1, 1, 1, 1, 1, 1, 1, 1, 1, 1, 1, 1, 1, 1, 1, 1, 1, 1, 1, 1, 1, 1, 1, 1, 1, 1, 1, 1, 1, 1, 1, 1, -1, -1, -1, -1, -1, -1, -1]
structure xA (w : World) : Prop where
  cl : Do w 3 H7
  cm : Do w 4 If
  tl : Do w 0 Ie
  to : Do w 1 Id
  tm : Do w 2 Il
theorem xA.ext {w w' : World} (h : xA w) (x : gA w w' jQ) : xA w' :=
  ⟨h.cl.ext x (fun h => h), h.cm.ext x (fun h => h), h.tl.ext x (fun h => h), h.to.ext x (fun h => h), h.tm.ext x (fun h => h)⟩
def Fr (a : Int) : Int := if a = 0 then 16 else if a = 2 then 32 else 0
def ID (a : Int) : Int := if a = 2 then 3 else 0
def Gl (a : Int) : List Int := if a = 0 then H7 else if a = 2 then If else []
def nA (a : Int) : Int := if a = 0 then 35 else if a = 1 then 31 else if a = 2 then 52 else -1
theorem IO {a : Int} {w : World} (hg : xA w) :
    gH pg tE #[.int .i64 a] w (fun r w' => ∃ v, r = .tuple #[.int .i64 (Fr a), .int .u32 (ID a), v] ∧ Sl w' v ((Gl a).map (Value.int .i64)) ∧ gA w w' jQ) := by
  refine Dg ?_
  unfold Dw wF Fr ID Gl
  by_cases h0 : a = 0
  · subst h0
    have n1 : ((0 : Int) == 0) = true := rfl
    have l1 := D4 (b := 3) (off := 0) (l := H7.map (Value.int .i64)) rfl hg.cl.ld
    simp (disch := omega) only [cJ, hP, aD, dP, fH, fR, gQ, gN, gI, gR, iR, gT, eC, fZ, fY, gB, fP, fB, gU, fM, gG, gS, gX, gM, eS, gZ, gP, gF, lG, lH, oZ, oR, oY, oX, oU, oT, oS, cW, Result.ok.injEq, Next.value.injEq, true_and, and_true, eM, gE, gY, gV, gW, iO, Int.toNat_natCast, fO, fG, fN, eZ, eD, dW, eU, eB, cY, cQ, if_true, if_false, Bool.false_eq_true, Nat.zero_add, Option.isNone_some, Option.isNone_none, Bool.not_true, Bool.not_false, List.getElem?_cons_succ, List.getElem?_cons_zero, cR, aZ, bU, bW, bV, bC, eA, dE, dH, cX, aI, eE, bO, aE, dJ, dK, dL, dD, bK, bN, cF, bA, cE, cI, bF, cM, cK, cV, cL, cC, bZ, cH, dQ, bY, cS, dU, bQ, dB, aX, cG, dV, bG, aQ, aN, aM, aJ, aP, aS, aC, cN, bE, cZ, bS, cD, cU, aR, aW, aV, aY, aU, aL, aH, aB, dA, aG, aF, bM, bB, bJ, dF, bD, cA, bH, bT, bR, aK, dT, aT, dN, dO, aO, cB, bX, dM, eT, n1, l1]
    refine EW fun w2 o2 x2 s2 => ?_
    refine DN o2 rfl (xV _) (by simp) fun w3 o3 x3 s3 => ?_
    have o3 : iE w3 w.heap.size (H7.map (Value.int .i64)) := by
      rw [List.toList_toArray, rJ H7 20 rfl] at o3
      · exact o3
      · rfl
    have x13 : gA w w3 jQ := x2.new x3 (by omega)
    have hsh : lC ⟨w.heap.size, 0, none⟩ 20 0 1 = ⟨w.heap.size, 0, none⟩ := sQ (by decide)
    simp (disch := omega) only [cJ, hP, aD, dP, fH, fR, gQ, gN, gI, gR, iR, gT, eC, fZ, fY, gB, fP, fB, gU, fM, gG, gS, gX, gM, eS, gZ, gP, gF, lG, lH, oZ, oR, oY, oX, oU, oT, oS, cW, Result.ok.injEq, Next.value.injEq, true_and, and_true, eM, gE, gY, gV, gW, iO, Int.toNat_natCast, fO, fG, fN, eZ, eD, dW, eU, eB, cY, cQ, if_true, if_false, Bool.false_eq_true, Nat.zero_add, Option.isNone_some, Option.isNone_none, Bool.not_true, Bool.not_false, List.getElem?_cons_succ, List.getElem?_cons_zero, cR, aZ, bU, bW, bV, bC, eA, dE, dH, cX, aI, eE, bO, aE, dJ, dK, dL, dD, bK, bN, cF, bA, cE, cI, bF, cM, cK, cV, cL, cC, bZ, cH, dQ, bY, cS, dU, bQ, dB, aX, cG, dV, bG, aQ, aN, aM, aJ, aP, aS, aC, cN, bE, cZ, bS, cD, cU, aR, aW, aV, aY, aU, aL, aH, aB, dA, aG, aF, bM, bB, bJ, dF, bD, cA, bH, bT, bR, aK, dT, aT, dN, dO, aO, cB, bX, dM, eT, hsh]
    exact ⟨_, rfl, De (jG o3) rfl, x13.seq (gA.dr _ _)⟩
  · rw [if_neg h0, if_neg h0]
    have n1 : (a == 0) = false := beq_eq_false_iff_ne.2 h0
    by_cases h2 : a = 2
    · subst h2
      have n2 : ((2 : Int) == 2) = true := rfl
      have l1 := Ee (b := 4) (off := 0) (l := If.map (Value.int .i64)) rfl hg.cm.ld
      simp (disch := omega) only [cJ, hP, aD, dP, fH, fR, gQ, gN, gI, gR, iR, gT, eC, fZ, fY, gB, fP, fB, gU, fM, gG, gS, gX, gM, eS, gZ, gP, gF, lG, lH, oZ, oR, oY, oX, oU, oT, oS, cW, Result.ok.injEq, Next.value.injEq, true_and, and_true, eM, gE, gY, gV, gW, iO, Int.toNat_natCast, fO, fG, fN, eZ, eD, dW, eU, eB, cY, cQ, if_true, if_false, Bool.false_eq_true, Nat.zero_add, Option.isNone_some, Option.isNone_none, Bool.not_true, Bool.not_false, List.getElem?_cons_succ, List.getElem?_cons_zero, cR, aZ, bU, bW, bV, bC, eA, dE, dH, cX, aI, eE, bO, aE, dJ, dK, dL, dD, bK, bN, cF, bA, cE, cI, bF, cM, cK, cV, cL, cC, bZ, cH, dQ, bY, cS, dU, bQ, dB, aX, cG, dV, bG, aQ, aN, aM, aJ, aP, aS, aC, cN, bE, cZ, bS, cD, cU, aR, aW, aV, aY, aU, aL, aH, aB, dA, aG, aF, bM, bB, bJ, dF, bD, cA, bH, bT, bR, aK, dT, aT, dN, dO, aO, cB, bX, dM, eT, n1, n2, l1]
      refine EX fun w2 o2 x2 s2 => ?_
      refine Ed o2 rfl (xV _) (by simp) fun w3 o3 x3 s3 => ?_
      have o3 : iE w3 w.heap.size (If.map (Value.int .i64)) := by
        rw [List.toList_toArray, rJ If 21 rfl] at o3
        · exact o3
        · rfl
      have x13 : gA w w3 jQ := x2.new x3 (by omega)
      have hsh : lC ⟨w.heap.size, 0, none⟩ 21 0 1 = ⟨w.heap.size, 0, none⟩ := sQ (by decide)
      simp (disch := omega) only [cJ, hP, aD, dP, fH, fR, gQ, gN, gI, gR, iR, gT, eC, fZ, fY, gB, fP, fB, gU, fM, gG, gS, gX, gM, eS, gZ, gP, gF, lG, lH, oZ, oR, oY, oX, oU, oT, oS, cW, Result.ok.injEq, Next.value.injEq, true_and, and_true, eM, gE, gY, gV, gW, iO, Int.toNat_natCast, fO, fG, fN, eZ, eD, dW, eU, eB, cY, cQ, if_true, if_false, Bool.false_eq_true, Nat.zero_add, Option.isNone_some, Option.isNone_none, Bool.not_true, Bool.not_false, List.getElem?_cons_succ, List.getElem?_cons_zero, cR, aZ, bU, bW, bV, bC, eA, dE, dH, cX, aI, eE, bO, aE, dJ, dK, dL, dD, bK, bN, cF, bA, cE, cI, bF, cM, cK, cV, cL, cC, bZ, cH, dQ, bY, cS, dU, bQ, dB, aX, cG, dV, bG, aQ, aN, aM, aJ, aP, aS, aC, cN, bE, cZ, bS, cD, cU, aR, aW, aV, aY, aU, aL, aH, aB, dA, aG, aF, bM, bB, bJ, dF, bD, cA, bH, bT, bR, aK, dT, aT, dN, dO, aO, cB, bX, dM, eT, hsh]
      exact ⟨_, rfl, De (jG o3) rfl, x13.seq (gA.dr _ _)⟩
    · rw [if_neg h2, if_neg h2, if_neg h2]
      have n2 : (a == 2) = false := beq_eq_false_iff_ne.2 h2
      simp (disch := omega) only [cJ, hP, aD, dP, fH, fR, gQ, gN, gI, gR, iR, gT, eC, fZ, fY, gB, fP, fB, gU, fM, gG, gS, gX, gM, eS, gZ, gP, gF, lG, lH, oZ, oR, oY, oX, oU, oT, oS, cW, Result.ok.injEq, Next.value.injEq, true_and, and_true, eM, gE, gY, gV, gW, iO, Int.toNat_natCast, fO, fG, fN, eZ, eD, dW, eU, eB, cY, cQ, if_true, if_false, Bool.false_eq_true, Nat.zero_add, Option.isNone_some, Option.isNone_none, Bool.not_true, Bool.not_false, List.getElem?_cons_succ, List.getElem?_cons_zero, cR, aZ, bU, bW, bV, bC, eA, dE, dH, cX, aI, eE, bO, aE, dJ, dK, dL, dD, bK, bN, cF, bA, cE, cI, bF, cM, cK, cV, cL, cC, bZ, cH, dQ, bY, cS, dU, bQ, dB, aX, cG, dV, bG, aQ, aN, aM, aJ, aP, aS, aC, cN, bE, cZ, bS, cD, cU, aR, aW, aV, aY, aU, aL, aH, aB, dA, aG, aF, bM, bB, bJ, dF, bD, cA, bH, bT, bR, aK, dT, aT, dN, dO, aO, cB, bX, dM, eT, n1, n2]
      exact ⟨_, rfl, Sl.nil _, gA.refl _ _⟩
theorem It {a : Int} {w : World} (hg : xA w) :
    gH pg qT #[.int .i64 a] w (fun r w' => r = .int .i64 (nA a) ∧ gA w w' jQ) := by
  refine Ct ?_
  unfold Dd tO
  by_cases h1 : a = 1
  · subst h1
    have n1 : ((1 : Int) == 1) = true := rfl
    simp (disch := omega) only [cJ, hP, aD, dP, fH, fR, gQ, gN, gI, gR, iR, gT, eC, fZ, fY, gB, fP, fB, gU, fM, gG, gS, gX, gM, eS, gZ, gP, gF, lG, lH, oZ, oR, oY, oX, oU, oT, oS, cW, Result.ok.injEq, Next.value.injEq, true_and, and_true, eM, gE, gY, gV, gW, iO, Int.toNat_natCast, fO, fG, fN, eZ, eD, dW, eU, eB, cY, cQ, if_true, if_false, Bool.false_eq_true, Nat.zero_add, Option.isNone_some, Option.isNone_none, Bool.not_true, Bool.not_false, List.getElem?_cons_succ, List.getElem?_cons_zero, cR, aZ, bU, bW, bV, bC, eA, dE, dH, cX, aI, eE, bO, aE, dJ, dK, dL, dD, bK, bN, cF, bA, cE, cI, bF, cM, cK, cV, cL, cC, bZ, cH, dQ, bY, cS, dU, bQ, dB, aX, cG, dV, bG, aQ, aN, aM, aJ, aP, aS, aC, cN, bE, cZ, bS, cD, cU, aR, aW, aV, aY, aU, aL, aH, aB, dA, aG, aF, bM, bB, bJ, dF, bD, cA, bH, bT, bR, aK, dT, aT, dN, dO, aO, cB, bX, dM, eT, n1]
    exact ⟨rfl, gA.refl _ _⟩
  have n1 : (a == 1) = false := beq_eq_false_iff_ne.2 h1
  simp (disch := omega) only [cJ, hP, aD, dP, fH, fR, gQ, gN, gI, gR, iR, gT, eC, fZ, fY, gB, fP, fB, gU, fM, gG, gS, gX, gM, eS, gZ, gP, gF, lG, lH, oZ, oR, oY, oX, oU, oT, oS, cW, Result.ok.injEq, Next.value.injEq, true_and, and_true, eM, gE, gY, gV, gW, iO, Int.toNat_natCast, fO, fG, fN, eZ, eD, dW, eU, eB, cY, cQ, if_true, if_false, Bool.false_eq_true, Nat.zero_add, Option.isNone_some, Option.isNone_none, Bool.not_true, Bool.not_false, List.getElem?_cons_succ, List.getElem?_cons_zero, cR, aZ, bU, bW, bV, bC, eA, dE, dH, cX, aI, eE, bO, aE, dJ, dK, dL, dD, bK, bN, cF, bA, cE, cI, bF, cM, cK, cV, cL, cC, bZ, cH, dQ, bY, cS, dU, bQ, dB, aX, cG, dV, bG, aQ, aN, aM, aJ, aP, aS, aC, cN, bE, cZ, bS, cD, cU, aR, aW, aV, aY, aU, aL, aH, aB, dA, aG, aF, bM, bB, bJ, dF, bD, cA, bH, bT, bR, aK, dT, aT, dN, dO, aO, cB, bX, dM, eT, n1]
  refine (IO hg).mono ?_
  rintro r w1 ⟨v, rfl, hs, x1⟩
  obtain ⟨av, cv, rfl, _⟩ := hs.lenI
  have e : Fr a + ((Gl a).length : Int) - 1 = nA a ∧ -10 ≤ Fr a ∧ Fr a ≤ 100 ∧ (Gl a).length ≤ 100 := by
    unfold Fr Gl nA
    by_cases h0 : a = 0
    · subst h0; exact ⟨rfl, by decide, by decide, by decide⟩
    · by_cases h2 : a = 2
      · subst h2; exact ⟨rfl, by decide, by decide, by decide⟩
      · simp [h0, h1, h2]
  obtain ⟨e1, e2, e3, e4⟩ := e
  generalize Fr a = p at *
  generalize (Gl a).length = q at *
  simp (disch := omega) only [cJ, hP, aD, dP, fH, fR, gQ, gN, gI, gR, iR, gT, eC, fZ, fY, gB, fP, fB, gU, fM, gG, gS, gX, gM, eS, gZ, gP, gF, lG, lH, oZ, oR, oY, oX, oU, oT, oS, cW, Result.ok.injEq, Next.value.injEq, true_and, and_true, eM, gE, gY, gV, gW, iO, Int.toNat_natCast, fO, fG, fN, eZ, eD, dW, eU, eB, cY, cQ, if_true, if_false, Bool.false_eq_true, Nat.zero_add, Option.isNone_some, Option.isNone_none, Bool.not_true, Bool.not_false, List.getElem?_cons_succ, List.getElem?_cons_zero, cR, aZ, bU, bW, bV, bC, eA, dE, dH, cX, aI, eE, bO, aE, dJ, dK, dL, dD, bK, bN, cF, bA, cE, cI, bF, cM, cK, cV, cL, cC, bZ, cH, dQ, bY, cS, dU, bQ, dB, aX, cG, dV, bG, aQ, aN, aM, aJ, aP, aS, aC, cN, bE, cZ, bS, cD, cU, aR, aW, aV, aY, aU, aL, aH, aB, dA, aG, aF, bM, bB, bJ, dF, bD, cA, bH, bT, bR, aK, dT, aT, dN, dO, aO, cB, bX, dM, eT, e1]
  exact x1
end Go.Proofs.YtoepfjgekpdddaaDoor
namespace Go.Proofs.YtoepfjgekpdddaaDoor
open Go Go.En Go.Pu
set_option maxRecDepth 4000
set_option linter.unusedSimpArgs false
set_option linter.unusedVariables false
def Dp (a : Int) : Nat := if a = 1 then 5 else if a = 0 ∨ a = 2 then 6 else 0
def EE (a : Int) : List Int := if a = 0 then Ie else if a = 1 then Id else if a = 2 then Il else []
theorem GY {a : Int} (h : a = 0 ∨ a = 1 ∨ a = 2) : E0 (Dp a) (EE a) := by
  rcases h with rfl | rfl | rfl
  · exact ⟨by decide, by decide, by decide, by decide, by decide, by decide, by decide +kernel⟩
  · exact ⟨by decide, by decide, by decide, by decide, by decide, by decide, by decide +kernel⟩
  · exact ⟨by decide, by decide, by decide, by decide, by decide, by decide, by decide +kernel⟩
theorem HV {a : Int} {w : World} (hg : xA w) :
    gH pg oC #[.int .i64 a] w (fun r w' => ∃ v, r = .agg #[.int .i64 (Dp a : Nat), v] ∧ Sl w' v ((EE a).map (Value.int .i64)) ∧ gA w w' jQ) := by
  refine AW ?_
  unfold zT qF
  refine kK fun w1 o1 x1 s1 => ?_
  have hg1 := hg.ext x1
  have z1 := o1.lt
  by_cases h0 : a = 0
  · subst h0
    have n1 : ((0 : Int) == 0) = true := rfl
    have l1 := D8 (b := 0) (off := 0) (l := Ie.map (Value.int .i64)) rfl hg1.tl.ld
    simp (disch := omega) only [cJ, hP, aD, dP, fH, fR, gQ, gN, gI, gR, iR, gT, eC, fZ, fY, gB, fP, fB, gU, fM, gG, gS, gX, gM, eS, gZ, gP, gF, lG, lH, oZ, oR, oY, oX, oU, oT, oS, cW, Result.ok.injEq, Next.value.injEq, true_and, and_true, eM, gE, gY, gV, gW, iO, Int.toNat_natCast, fO, fG, fN, eZ, eD, dW, eU, eB, cY, cQ, if_true, if_false, Bool.false_eq_true, Nat.zero_add, Option.isNone_some, Option.isNone_none, Bool.not_true, Bool.not_false, List.getElem?_cons_succ, List.getElem?_cons_zero, cR, aZ, bU, bW, bV, bC, eA, dE, dH, cX, aI, eE, bO, aE, dJ, dK, dL, dD, bK, bN, cF, bA, cE, cI, bF, cM, cK, cV, cL, cC, bZ, cH, dQ, bY, cS, dU, bQ, dB, aX, cG, dV, bG, aQ, aN, aM, aJ, aP, aS, aC, cN, bE, cZ, bS, cD, cU, aR, aW, aV, aY, aU, aL, aH, aB, dA, aG, aF, bM, bB, bJ, dF, bD, cA, bH, bT, bR, aK, dT, aT, dN, dO, aO, cB, bX, dM, eT, n1, l1]
    refine EJ fun w2 o2 x2 s2 => ?_
    refine Eg o2 rfl (xV _) (by simp) fun w3 o3 x3 s3 => ?_
    have o3 : iE w3 w1.heap.size (Ie.map (Value.int .i64)) := by
      rw [List.toList_toArray, rJ Ie 36 rfl] at o3
      · exact o3
      · rfl
    have hsh : lC ⟨w1.heap.size, 0, none⟩ 36 0 1 = ⟨w1.heap.size, 0, none⟩ := sQ (by decide)
    have x13 : gA w1 w3 jQ := x2.new x3 (by omega)
    simp (disch := omega) only [cJ, hP, aD, dP, fH, fR, gQ, gN, gI, gR, iR, gT, eC, fZ, fY, gB, fP, fB, gU, fM, gG, gS, gX, gM, eS, gZ, gP, gF, lG, lH, oZ, oR, oY, oX, oU, oT, oS, cW, Result.ok.injEq, Next.value.injEq, true_and, and_true, eM, gE, gY, gV, gW, iO, Int.toNat_natCast, fO, fG, fN, eZ, eD, dW, eU, eB, cY, cQ, if_true, if_false, Bool.false_eq_true, Nat.zero_add, Option.isNone_some, Option.isNone_none, Bool.not_true, Bool.not_false, List.getElem?_cons_succ, List.getElem?_cons_zero, cR, aZ, bU, bW, bV, bC, eA, dE, dH, cX, aI, eE, bO, aE, dJ, dK, dL, dD, bK, bN, cF, bA, cE, cI, bF, cM, cK, cV, cL, cC, bZ, cH, dQ, bY, cS, dU, bQ, dB, aX, cG, dV, bG, aQ, aN, aM, aJ, aP, aS, aC, cN, bE, cZ, bS, cD, cU, aR, aW, aV, aY, aU, aL, aH, aB, dA, aG, aF, bM, bB, bJ, dF, bD, cA, bH, bT, bR, aK, dT, aT, dN, dO, aO, cB, bX, dM, eT, hsh]
    refine iA (o1.ext x13 (fun h => h)) rfl (by simp [one]) (by simp) fun w4 o4 x4 s4 => ?_
    refine iW o4 (by simp [gC]) ?_
    simp only [gC, List.set_cons_zero, List.set_cons_succ, List.drop_zero, List.take_succ_cons, List.take_zero]
    exact ⟨_, rfl, De (o3.ext x4 (by omega)) rfl, (x1.seq x13).new x4 (by omega)⟩
  have n1 : (a == 0) = false := beq_eq_false_iff_ne.2 h0
  by_cases h1 : a = 1
  · subst h1
    have n2 : ((1 : Int) == 1) = true := rfl
    have l1 := D6 (b := 1) (off := 0) (l := Id.map (Value.int .i64)) rfl hg1.to.ld
    simp (disch := omega) only [cJ, hP, aD, dP, fH, fR, gQ, gN, gI, gR, iR, gT, eC, fZ, fY, gB, fP, fB, gU, fM, gG, gS, gX, gM, eS, gZ, gP, gF, lG, lH, oZ, oR, oY, oX, oU, oT, oS, cW, Result.ok.injEq, Next.value.injEq, true_and, and_true, eM, gE, gY, gV, gW, iO, Int.toNat_natCast, fO, fG, fN, eZ, eD, dW, eU, eB, cY, cQ, if_true, if_false, Bool.false_eq_true, Nat.zero_add, Option.isNone_some, Option.isNone_none, Bool.not_true, Bool.not_false, List.getElem?_cons_succ, List.getElem?_cons_zero, cR, aZ, bU, bW, bV, bC, eA, dE, dH, cX, aI, eE, bO, aE, dJ, dK, dL, dD, bK, bN, cF, bA, cE, cI, bF, cM, cK, cV, cL, cC, bZ, cH, dQ, bY, cS, dU, bQ, dB, aX, cG, dV, bG, aQ, aN, aM, aJ, aP, aS, aC, cN, bE, cZ, bS, cD, cU, aR, aW, aV, aY, aU, aL, aH, aB, dA, aG, aF, bM, bB, bJ, dF, bD, cA, bH, bT, bR, aK, dT, aT, dN, dO, aO, cB, bX, dM, eT, n1, n2, l1]
    refine EG fun w2 o2 x2 s2 => ?_
    refine D5 o2 rfl (xV _) (by simp) fun w3 o3 x3 s3 => ?_
    have o3 : iE w3 w1.heap.size (Id.map (Value.int .i64)) := by
      rw [List.toList_toArray, rJ Id 29 rfl] at o3
      · exact o3
      · rfl
    have hsh : lC ⟨w1.heap.size, 0, none⟩ 29 0 1 = ⟨w1.heap.size, 0, none⟩ := sQ (by decide)
    have x13 : gA w1 w3 jQ := x2.new x3 (by omega)
    simp (disch := omega) only [cJ, hP, aD, dP, fH, fR, gQ, gN, gI, gR, iR, gT, eC, fZ, fY, gB, fP, fB, gU, fM, gG, gS, gX, gM, eS, gZ, gP, gF, lG, lH, oZ, oR, oY, oX, oU, oT, oS, cW, Result.ok.injEq, Next.value.injEq, true_and, and_true, eM, gE, gY, gV, gW, iO, Int.toNat_natCast, fO, fG, fN, eZ, eD, dW, eU, eB, cY, cQ, if_true, if_false, Bool.false_eq_true, Nat.zero_add, Option.isNone_some, Option.isNone_none, Bool.not_true, Bool.not_false, List.getElem?_cons_succ, List.getElem?_cons_zero, cR, aZ, bU, bW, bV, bC, eA, dE, dH, cX, aI, eE, bO, aE, dJ, dK, dL, dD, bK, bN, cF, bA, cE, cI, bF, cM, cK, cV, cL, cC, bZ, cH, dQ, bY, cS, dU, bQ, dB, aX, cG, dV, bG, aQ, aN, aM, aJ, aP, aS, aC, cN, bE, cZ, bS, cD, cU, aR, aW, aV, aY, aU, aL, aH, aB, dA, aG, aF, bM, bB, bJ, dF, bD, cA, bH, bT, bR, aK, dT, aT, dN, dO, aO, cB, bX, dM, eT, hsh]
    refine iA (o1.ext x13 (fun h => h)) rfl (by simp [one]) (by simp) fun w4 o4 x4 s4 => ?_
    refine iW o4 (by simp [gC]) ?_
    simp only [gC, List.set_cons_zero, List.set_cons_succ, List.drop_zero, List.take_succ_cons, List.take_zero]
    exact ⟨_, rfl, De (o3.ext x4 (by omega)) rfl, (x1.seq x13).new x4 (by omega)⟩
  have n2 : (a == 1) = false := beq_eq_false_iff_ne.2 h1
  by_cases h2 : a = 2
  · subst h2
    have n3 : ((2 : Int) == 2) = true := rfl
    have l1 := D7 (b := 2) (off := 0) (l := Il.map (Value.int .i64)) rfl hg1.tm.ld
    simp (disch := omega) only [cJ, hP, aD, dP, fH, fR, gQ, gN, gI, gR, iR, gT, eC, fZ, fY, gB, fP, fB, gU, fM, gG, gS, gX, gM, eS, gZ, gP, gF, lG, lH, oZ, oR, oY, oX, oU, oT, oS, cW, Result.ok.injEq, Next.value.injEq, true_and, and_true, eM, gE, gY, gV, gW, iO, Int.toNat_natCast, fO, fG, fN, eZ, eD, dW, eU, eB, cY, cQ, if_true, if_false, Bool.false_eq_true, Nat.zero_add, Option.isNone_some, Option.isNone_none, Bool.not_true, Bool.not_false, List.getElem?_cons_succ, List.getElem?_cons_zero, cR, aZ, bU, bW, bV, bC, eA, dE, dH, cX, aI, eE, bO, aE, dJ, dK, dL, dD, bK, bN, cF, bA, cE, cI, bF, cM, cK, cV, cL, cC, bZ, cH, dQ, bY, cS, dU, bQ, dB, aX, cG, dV, bG, aQ, aN, aM, aJ, aP, aS, aC, cN, bE, cZ, bS, cD, cU, aR, aW, aV, aY, aU, aL, aH, aB, dA, aG, aF, bM, bB, bJ, dF, bD, cA, bH, bT, bR, aK, dT, aT, dN, dO, aO, cB, bX, dM, eT, n1, n2, n3, l1]
    refine EK fun w2 o2 x2 s2 => ?_
    refine DP o2 rfl (xV _) (by simp) fun w3 o3 x3 s3 => ?_
    have o3 : iE w3 w1.heap.size (Il.map (Value.int .i64)) := by
      rw [List.toList_toArray, rJ Il 53 rfl] at o3
      · exact o3
      · rfl
    have hsh : lC ⟨w1.heap.size, 0, none⟩ 53 0 1 = ⟨w1.heap.size, 0, none⟩ := sQ (by decide)
    have x13 : gA w1 w3 jQ := x2.new x3 (by omega)
    simp (disch := omega) only [cJ, hP, aD, dP, fH, fR, gQ, gN, gI, gR, iR, gT, eC, fZ, fY, gB, fP, fB, gU, fM, gG, gS, gX, gM, eS, gZ, gP, gF, lG, lH, oZ, oR, oY, oX, oU, oT, oS, cW, Result.ok.injEq, Next.value.injEq, true_and, and_true, eM, gE, gY, gV, gW, iO, Int.toNat_natCast, fO, fG, fN, eZ, eD, dW, eU, eB, cY, cQ, if_true, if_false, Bool.false_eq_true, Nat.zero_add, Option.isNone_some, Option.isNone_none, Bool.not_true, Bool.not_false, List.getElem?_cons_succ, List.getElem?_cons_zero, cR, aZ, bU, bW, bV, bC, eA, dE, dH, cX, aI, eE, bO, aE, dJ, dK, dL, dD, bK, bN, cF, bA, cE, cI, bF, cM, cK, cV, cL, cC, bZ, cH, dQ, bY, cS, dU, bQ, dB, aX, cG, dV, bG, aQ, aN, aM, aJ, aP, aS, aC, cN, bE, cZ, bS, cD, cU, aR, aW, aV, aY, aU, aL, aH, aB, dA, aG, aF, bM, bB, bJ, dF, bD, cA, bH, bT, bR, aK, dT, aT, dN, dO, aO, cB, bX, dM, eT, hsh]
    refine iA (o1.ext x13 (fun h => h)) rfl (by simp [one]) (by simp) fun w4 o4 x4 s4 => ?_
    refine iW o4 (by simp [gC]) ?_
    simp only [gC, List.set_cons_zero, List.set_cons_succ, List.drop_zero, List.take_succ_cons, List.take_zero]
    exact ⟨_, rfl, De (o3.ext x4 (by omega)) rfl, (x1.seq x13).new x4 (by omega)⟩
  have n3 : (a == 2) = false := beq_eq_false_iff_ne.2 h2
  simp (disch := omega) only [cJ, hP, aD, dP, fH, fR, gQ, gN, gI, gR, iR, gT, eC, fZ, fY, gB, fP, fB, gU, fM, gG, gS, gX, gM, eS, gZ, gP, gF, lG, lH, oZ, oR, oY, oX, oU, oT, oS, cW, Result.ok.injEq, Next.value.injEq, true_and, and_true, eM, gE, gY, gV, gW, iO, Int.toNat_natCast, fO, fG, fN, eZ, eD, dW, eU, eB, cY, cQ, if_true, if_false, Bool.false_eq_true, Nat.zero_add, Option.isNone_some, Option.isNone_none, Bool.not_true, Bool.not_false, List.getElem?_cons_succ, List.getElem?_cons_zero, cR, aZ, bU, bW, bV, bC, eA, dE, dH, cX, aI, eE, bO, aE, dJ, dK, dL, dD, bK, bN, cF, bA, cE, cI, bF, cM, cK, cV, cL, cC, bZ, cH, dQ, bY, cS, dU, bQ, dB, aX, cG, dV, bG, aQ, aN, aM, aJ, aP, aS, aC, cN, bE, cZ, bS, cD, cU, aR, aW, aV, aY, aU, aL, aH, aB, dA, aG, aF, bM, bB, bJ, dF, bD, cA, bH, bT, bR, aK, dT, aT, dN, dO, aO, cB, bX, dM, eT, n1, n2, n3]
  refine iA o1 rfl (by simp [one]) (by simp) fun w4 o4 x4 s4 => ?_
  refine iW o4 (by simp [gC]) ?_
  simp only [gC, List.set_cons_zero, List.set_cons_succ, List.drop_zero, List.take_succ_cons, List.take_zero]
  unfold Dp EE
  rw [if_neg h1, if_neg (by omega), if_neg h0, if_neg h1, if_neg h2]
  exact ⟨_, rfl, Sl.nil _, x1.new x4 (by omega)⟩
def yS (w : World) (base : Nat) (o : Except Int (Nat × List T3)) (t : Value) (e : Int) : Prop := match o with
  | .error e' => t = .agg #[.int .i64 0, .slice none 0 0] ∧ e = e'
  | .ok (lg, L) => (∃ b, Hk w base b lg L t) ∧ e = 0
def AX (a : Int) : Except Int (Nat × List T3) := if a = 0 ∨ a = 1 ∨ a = 2 then .ok (Dp a, jI (Dp a) (EE a)) else .error 1
theorem yS.form {w : World} {base : Nat} {o : Except Int (Nat × List T3)} {t : Value} {e : Int} (h : yS w base o t e) : ∃ (x : Int) (a : Option Addr) (n c : Nat), t = .agg #[.int .i64 x, .slice a n c] := by
  unfold yS at h
  split at h
  · exact ⟨_, _, _, _, h.1⟩
  · obtain ⟨⟨b, h, _⟩, _⟩ := h
    exact ⟨_, _, _, _, h⟩
theorem yS.ext {w w' : World} {base : Nat} {o : Except Int (Nat × List T3)} {t : Value} {e : Int} {M : Nat → Prop} (h : yS w base o t e) (x : gA w w' M) (hM : ∀ b, base ≤ b → b < w.heap.size → ¬ M b) : yS w' base o t e := by
  unfold yS at *
  split at h
  · exact h
  · obtain ⟨⟨b, ht⟩, he⟩ := h
    have hb := ht.2.1
    have hl := ht.2.2.lt
    exact ⟨⟨b, ht.ext x (hM b hb hl)⟩, he⟩
theorem yG {a : Int} {w : World} (hg : xA w) :
    gH pg iT #[.int .i64 a] w (fun r w' => ∃ t e, r = .tuple #[t, .int .i64 e] ∧ yS w' w.heap.size (AX a) t e ∧ gA w w' jQ) := by
  refine yO ?_
  unfold xI oP
  refine hX fun w1 o1 x1 s1 => ?_
  have z1 := o1.lt
  refine (HV (hg.ext x1)).mono ?_
  rintro r w2 ⟨v, rfl, hs, x2⟩
  unfold AX
  have z2 := x2.size
  by_cases hk : a = 0 ∨ a = 1 ∨ a = 2
  · rw [if_pos hk]
    refine (FD (GY hk) hs).mono ?_
    rintro r w3 ⟨b, t, rfl, ⟨rfl, hb, ob⟩, x3⟩
    have z3 := x3.size
    simp (disch := omega) only [cJ, hP, aD, dP, fH, fR, gQ, gN, gI, gR, iR, gT, eC, fZ, fY, gB, fP, fB, gU, fM, gG, gS, gX, gM, eS, gZ, gP, gF, lG, lH, oZ, oR, oY, oX, oU, oT, oS, cW, Result.ok.injEq, Next.value.injEq, true_and, and_true, eM, gE, gY, gV, gW, iO, Int.toNat_natCast, fO, fG, fN, eZ, eD, dW, eU, eB, cY, cQ, if_true, if_false, Bool.false_eq_true, Nat.zero_add, Option.isNone_some, Option.isNone_none, Bool.not_true, Bool.not_false, List.getElem?_cons_succ, List.getElem?_cons_zero, cR, aZ, bU, bW, bV, bC, eA, dE, dH, cX, aI, eE, bO, aE, dJ, dK, dL, dD, bK, bN, cF, bA, cE, cI, bF, cM, cK, cV, cL, cC, bZ, cH, dQ, bY, cS, dU, bQ, dB, aX, cG, dV, bG, aQ, aN, aM, aJ, aP, aS, aC, cN, bE, cZ, bS, cD, cU, aR, aW, aV, aY, aU, aL, aH, aB, dA, aG, aF, bM, bB, bJ, dF, bD, cA, bH, bT, bR, aK, dT, aT, dN, dO, aO, cB, bX, dM, eT]
    have lb := ob.lt
    refine gK ((o1.ext x2 (fun h => h)).ext x3 (fun h => h)) rfl (by simp [one]) (by simp) fun w4 o4 x4 s4 => ?_
    refine kS o4 (by simp [gC]) ?_
    simp only [gC, List.set_cons_zero, List.set_cons_succ, List.drop_zero, List.take_succ_cons, List.take_zero]
    exact ⟨_, _, rfl, ⟨⟨b, rfl, by omega, ob.ext x4 (by omega)⟩, rfl⟩, ((x1.seq x2).seq x3).new x4 (by omega)⟩
  · rw [if_neg hk]
    have e1 : Dp a = 0 := by unfold Dp; rw [if_neg (by omega), if_neg (by omega)]
    have e2 : EE a = [] := by unfold EE; rw [if_neg (by omega), if_neg (by omega), if_neg (by omega)]
    rw [e1]
    rw [e2] at hs
    refine (F1 (log := 0) (ps := []) (by decide) hs (by simp)).mono ?_
    rintro r w3 ⟨rfl, x3⟩
    simp (disch := omega) only [cJ, hP, aD, dP, fH, fR, gQ, gN, gI, gR, iR, gT, eC, fZ, fY, gB, fP, fB, gU, fM, gG, gS, gX, gM, eS, gZ, gP, gF, lG, lH, oZ, oR, oY, oX, oU, oT, oS, cW, Result.ok.injEq, Next.value.injEq, true_and, and_true, eM, gE, gY, gV, gW, iO, Int.toNat_natCast, fO, fG, fN, eZ, eD, dW, eU, eB, cY, cQ, if_true, if_false, Bool.false_eq_true, Nat.zero_add, Option.isNone_some, Option.isNone_none, Bool.not_true, Bool.not_false, List.getElem?_cons_succ, List.getElem?_cons_zero, cR, aZ, bU, bW, bV, bC, eA, dE, dH, cX, aI, eE, bO, aE, dJ, dK, dL, dD, bK, bN, cF, bA, cE, cI, bF, cM, cK, cV, cL, cC, bZ, cH, dQ, bY, cS, dU, bQ, dB, aX, cG, dV, bG, aQ, aN, aM, aJ, aP, aS, aC, cN, bE, cZ, bS, cD, cU, aR, aW, aV, aY, aU, aL, aH, aB, dA, aG, aF, bM, bB, bJ, dF, bD, cA, bH, bT, bR, aK, dT, aT, dN, dO, aO, cB, bX, dM, eT]
    refine gK ((o1.ext x2 (fun h => h)).ext x3 (fun h => h)) rfl (by simp [one]) (by simp) fun w4 o4 x4 s4 => ?_
    refine kS o4 (by simp [gC]) ?_
    simp only [gC, List.set_cons_zero, List.set_cons_succ, List.drop_zero, List.take_succ_cons, List.take_zero]
    exact ⟨_, _, rfl, ⟨rfl, rfl⟩, ((x1.seq x2).seq x3).new x4 (by omega)⟩
def C6 (a : Int) : Int := if a = 0 ∨ a = 2 then 9 else if a = 1 then 8 else 0
theorem E3 (a : Int) (w : World) : gH pg kV #[.int .i64 a] w (fun r w' => r = .int .i64 (C6 a) ∧ w' = w) := by
  refine Bp ?_
  unfold B6 qI rU nR sF rN nL sB sP
  unfold C6
  by_cases h0 : a = 0
  · subst h0
    have n1 : ((0 : Int) == 0) = true := rfl
    unfold jE
    simp (disch := omega) only [cJ, hP, aD, dP, fH, fR, gQ, gN, gI, gR, iR, gT, eC, fZ, fY, gB, fP, fB, gU, fM, gG, gS, gX, gM, eS, gZ, gP, gF, lG, lH, oZ, oR, oY, oX, oU, oT, oS, cW, Result.ok.injEq, Next.value.injEq, true_and, and_true, eM, gE, gY, gV, gW, iO, Int.toNat_natCast, fO, fG, fN, eZ, eD, dW, eU, eB, cY, cQ, if_true, if_false, Bool.false_eq_true, Nat.zero_add, Option.isNone_some, Option.isNone_none, Bool.not_true, Bool.not_false, List.getElem?_cons_succ, List.getElem?_cons_zero, cR, aZ, bU, bW, bV, bC, eA, dE, dH, cX, aI, eE, bO, aE, dJ, dK, dL, dD, bK, bN, cF, bA, cE, cI, bF, cM, cK, cV, cL, cC, bZ, cH, dQ, bY, cS, dU, bQ, dB, aX, cG, dV, bG, aQ, aN, aM, aJ, aP, aS, aC, cN, bE, cZ, bS, cD, cU, aR, aW, aV, aY, aU, aL, aH, aB, dA, aG, aF, bM, bB, bJ, dF, bD, cA, bH, bT, bR, aK, dT, aT, dN, dO, aO, cB, bX, dM, eT, n1]
    rfl
  have n1 : (a == 0) = false := beq_eq_false_iff_ne.2 h0
  by_cases h2 : a = 2
  · subst h2
    have n2 : ((2 : Int) == 2) = true := rfl
    unfold jE
    simp (disch := omega) only [cJ, hP, aD, dP, fH, fR, gQ, gN, gI, gR, iR, gT, eC, fZ, fY, gB, fP, fB, gU, fM, gG, gS, gX, gM, eS, gZ, gP, gF, lG, lH, oZ, oR, oY, oX, oU, oT, oS, cW, Result.ok.injEq, Next.value.injEq, true_and, and_true, eM, gE, gY, gV, gW, iO, Int.toNat_natCast, fO, fG, fN, eZ, eD, dW, eU, eB, cY, cQ, if_true, if_false, Bool.false_eq_true, Nat.zero_add, Option.isNone_some, Option.isNone_none, Bool.not_true, Bool.not_false, List.getElem?_cons_succ, List.getElem?_cons_zero, cR, aZ, bU, bW, bV, bC, eA, dE, dH, cX, aI, eE, bO, aE, dJ, dK, dL, dD, bK, bN, cF, bA, cE, cI, bF, cM, cK, cV, cL, cC, bZ, cH, dQ, bY, cS, dU, bQ, dB, aX, cG, dV, bG, aQ, aN, aM, aJ, aP, aS, aC, cN, bE, cZ, bS, cD, cU, aR, aW, aV, aY, aU, aL, aH, aB, dA, aG, aF, bM, bB, bJ, dF, bD, cA, bH, bT, bR, aK, dT, aT, dN, dO, aO, cB, bX, dM, eT, n1, n2]
    rfl
  have n2 : (a == 2) = false := beq_eq_false_iff_ne.2 h2
  rw [if_neg (by omega)]
  by_cases h1 : a = 1
  · subst h1
    have n3 : ((1 : Int) == 1) = true := rfl
    unfold jE
    simp (disch := omega) only [cJ, hP, aD, dP, fH, fR, gQ, gN, gI, gR, iR, gT, eC, fZ, fY, gB, fP, fB, gU, fM, gG, gS, gX, gM, eS, gZ, gP, gF, lG, lH, oZ, oR, oY, oX, oU, oT, oS, cW, Result.ok.injEq, Next.value.injEq, true_and, and_true, eM, gE, gY, gV, gW, iO, Int.toNat_natCast, fO, fG, fN, eZ, eD, dW, eU, eB, cY, cQ, if_true, if_false, Bool.false_eq_true, Nat.zero_add, Option.isNone_some, Option.isNone_none, Bool.not_true, Bool.not_false, List.getElem?_cons_succ, List.getElem?_cons_zero, cR, aZ, bU, bW, bV, bC, eA, dE, dH, cX, aI, eE, bO, aE, dJ, dK, dL, dD, bK, bN, cF, bA, cE, cI, bF, cM, cK, cV, cL, cC, bZ, cH, dQ, bY, cS, dU, bQ, dB, aX, cG, dV, bG, aQ, aN, aM, aJ, aP, aS, aC, cN, bE, cZ, bS, cD, cU, aR, aW, aV, aY, aU, aL, aH, aB, dA, aG, aF, bM, bB, bJ, dF, bD, cA, bH, bT, bR, aK, dT, aT, dN, dO, aO, cB, bX, dM, eT, n1, n2, n3]
  have n3 : (a == 1) = false := beq_eq_false_iff_ne.2 h1
  rw [if_neg h1]
  unfold jE nF
  simp (disch := omega) only [cJ, hP, aD, dP, fH, fR, gQ, gN, gI, gR, iR, gT, eC, fZ, fY, gB, fP, fB, gU, fM, gG, gS, gX, gM, eS, gZ, gP, gF, lG, lH, oZ, oR, oY, oX, oU, oT, oS, cW, Result.ok.injEq, Next.value.injEq, true_and, and_true, eM, gE, gY, gV, gW, iO, Int.toNat_natCast, fO, fG, fN, eZ, eD, dW, eU, eB, cY, cQ, if_true, if_false, Bool.false_eq_true, Nat.zero_add, Option.isNone_some, Option.isNone_none, Bool.not_true, Bool.not_false, List.getElem?_cons_succ, List.getElem?_cons_zero, cR, aZ, bU, bW, bV, bC, eA, dE, dH, cX, aI, eE, bO, aE, dJ, dK, dL, dD, bK, bN, cF, bA, cE, cI, bF, cM, cK, cV, cL, cC, bZ, cH, dQ, bY, cS, dU, bQ, dB, aX, cG, dV, bG, aQ, aN, aM, aJ, aP, aS, aC, cN, bE, cZ, bS, cD, cU, aR, aW, aV, aY, aU, aL, aH, aB, dA, aG, aF, bM, bB, bJ, dF, bD, cA, bH, bT, bR, aK, dT, aT, dN, dO, aO, cB, bX, dM, eT, n1, n2, n3]
end Go.Proofs.YtoepfjgekpdddaaDoor
namespace Go.Pu
open Go Go.En
set_option linter.unusedVariables false
def Eo (c : UInt8) : List Bool := (List.range 8).map c.toNat.testBit
def fU : List UInt8 → List Bool
  | [] => []
  | c :: l => Eo c ++ fU l
def sI : List Bool → Nat
  | [] => 0
  | b :: l => b.toNat + 2 * sI l
theorem qY (c : UInt8) : (Eo c).length = 8 := by simp [Eo]
theorem mC : ∀ l : List UInt8, (fU l).length = 8 * l.length
  | [] => rfl
  | c :: l => by rw [fU, List.length_append, qY, mC l, List.length_cons]; omega
theorem FU (c : UInt8) {k : Nat} (h : k < 8) : (Eo c)[k]? = some (c.toNat.testBit k) := by
  unfold Eo
  rw [List.getElem?_map, List.getElem?_range h] <;> rfl
theorem DC : ∀ (l : List UInt8) (i : Nat) (h : i < 8 * l.length), (fU l)[i]? = some ((l[i / 8]'(by omega)).toNat.testBit (i % 8))
  | [], i, h => by simp at h
  | c :: l, i, h => by
    rw [fU]
    rcases Nat.lt_or_ge i 8 with h8 | h8
    · rw [List.getElem?_append_left (by rw [qY]; exact h8), FU c h8]
      have e : i / 8 = 0 := by omega
      have e2 : i % 8 = i := by omega
      simp [e, e2]
    · rw [List.getElem?_append_right (by rw [qY]; exact h8), qY, DC l (i - 8) (by simp at h; omega)]
      have e : i / 8 = (i - 8) / 8 + 1 := by omega
      have e2 : (i - 8) % 8 = i % 8 := by omega
      simp [e, e2]
theorem Ef : ∀ l : List Bool, sI l < 2 ^ l.length
  | [] => by simp [sI]
  | b :: l => by
    have := Ef l
    rw [sI, List.length_cons, Nat.pow_succ]
    have : b.toNat ≤ 1 := Bool.toNat_le b
    omega
theorem B8 : ∀ a b : List Bool, sI (a ++ b) = sI a + 2 ^ a.length * sI b
  | [], b => by simp [sI]
  | x :: a, b => by
    rw [List.cons_append, sI, sI, B8 a b, List.length_cons, Nat.pow_succ, Nat.mul_add, ← Nat.mul_assoc, ← Nat.add_assoc, Nat.mul_comm 2 (2 ^ a.length)]
theorem Gc (a : List Bool) (x : Bool) : sI (a ++ [x]) = sI a + 2 ^ a.length * x.toNat := by
  rw [B8]; simp [sI]
theorem Is {x i : Nat} (h : x < 2 ^ i) (b : Nat) : x ||| (b * 2 ^ i) = x + 2 ^ i * b := by
  rw [Nat.or_comm, Nat.mul_comm b, ← Nat.two_pow_add_eq_or_of_lt h b, Nat.add_comm]
theorem Hr {a b : Nat} (ha : a < 2 ^ 64) (hb : b < 2 ^ 64) : IU .u64 (a : Int) (b : Int) = ((a ||| b : Nat) : Int) := by
  have h := Nat.or_lt_two_pow ha hb
  unfold IU
  have e : IntKind.u64.bits = 64 := rfl
  rw [e, BitVec.ofInt_natCast, BitVec.ofInt_natCast, BitVec.toNat_or, BitVec.toNat_ofNat, BitVec.toNat_ofNat, Nat.mod_eq_of_lt ha, Nat.mod_eq_of_lt hb]
  exact gE (by omega) (by have : ((a ||| b : Nat) : Int) < ((2 ^ 64 : Nat) : Int) := by exact_mod_cast h
                          omega)
theorem Hu {a : Nat} (h : a < 2 ^ 8) : Hx .u8 (a : Int) 1 = ((a % 2 : Nat) : Int) := by
  have : ∀ k : Fin 256, Hx .u8 (k.val : Int) 1 = ((k.val % 2 : Nat) : Int) := by decide +kernel
  exact this ⟨a, h⟩
theorem Gh (x k : Nat) : (x.testBit k).toNat = x / 2 ^ k % 2 := by
  rw [Nat.testBit_eq_decide_div_mod_eq]
  have : x / 2 ^ k % 2 = 0 ∨ x / 2 ^ k % 2 = 1 := by omega
  rcases this with h | h <;> simp [h]
theorem Du {L : List Bool} {at' i : Nat} {b : Bool} (h : L[at' + i]? = some b) : (L.drop at').take (i + 1) = (L.drop at').take i ++ [b] := by
  rw [List.take_add_one, List.getElem?_drop, h] <;> rfl
end Go.Pu
namespace Go.Proofs.YtoepfjgekpdddaaDoor
open Go Go.En Go.Pu
set_option maxRecDepth 4000
set_option linter.unusedSimpArgs false
set_option linter.unusedVariables false
theorem H9 {l : List UInt8} {v : Value} {st n : Nat} {w : World} (h : Bs w v l) (hn : n ≤ 64) (hat : st + n ≤ 8 * l.length) (hl : l.length ≤ 1000000000) :
    gH pg sY #[v, .int .i64 st, .int .i64 n] w (fun r w' => r = .int .u64 (sI (((fU l).drop st).take n)) ∧ w' = w) := by
  refine CO ?_
  unfold DK vY vN qX vQ vP rB wB
  refine iV.rule (fun m (t : Value × Value) w' => ∃ i : Nat, m = n - i ∧ t = (.int .u64 (sI (((fU l).drop st).take i) : Nat), .int .i64 i) ∧ i ≤ n ∧ w' = w) n ⟨0, rfl, by simp [sI], by omega, rfl⟩ ?_
  rintro m t w1 ⟨i, rfl, rfl, hi, rfl⟩
  unfold qV
  by_cases hlt : i < n
  · have d1 : decide ((i : Int) < (n : Int)) = true := by simp; omega
    obtain ⟨b, off, c, rfl, hc, hcell⟩ := h.openV (by simp; omega)
    obtain ⟨q, hq⟩ : ∃ q, q = st + i := ⟨_, rfl⟩
    have e0 : (st : Int) + (i : Int) = (q : Int) := by omega
    have e1 : (q : Int).tdiv 8 = ((q / 8 : Nat) : Int) := by rw [Int.tdiv_eq_ediv_of_nonneg (by omega)]; omega
    have e2 : (q : Int).tmod 8 = ((q % 8 : Nat) : Int) := by rw [Int.tmod_eq_emod_of_nonneg (by omega)]; omega
    have hq8 : q / 8 < l.length := by omega
    have hb : (fU l)[st + i]? = some ((l[q / 8]'hq8).toNat.testBit (q % 8)) := by subst hq; exact DC l _ (by omega)
    have ht := Du hb
    have g1 := hcell (q / 8) (by simpa using hq8)
    simp only [List.getElem_map, Hm] at g1
    have hx : (l[q / 8]'hq8).toNat < 256 := UInt8.toNat_lt _
    generalize (l[q / 8]'hq8).toNat = x at *
    have e3 : (x : Int).fdiv (2 ^ (min (q % 8) IntKind.u8.bits)) = ((x / 2 ^ (q % 8) : Nat) : Int) := by
      rw [show min (q % 8) IntKind.u8.bits = q % 8 from Nat.min_eq_left (by have : IntKind.u8.bits = 8 := rfl
                                                                            omega), Int.fdiv_eq_ediv_of_nonneg _ (Int.pow_nonneg (by omega))]
      simp
    have hy : x / 2 ^ (q % 8) < 2 ^ 8 := by have := Nat.div_le_self x (2 ^ (q % 8)); omega
    have e4 := Hu hy
    rw [← Gh] at e4
    have hbt : (x.testBit (q % 8)).toNat ≤ 1 := Bool.toNat_le _
    have hlen : (((fU l).drop st).take i).length = i := by rw [List.length_take, List.length_drop, mC]; omega
    have hnb := Ef (((fU l).drop st).take i)
    have hsn := Gc (((fU l).drop st).take i) (x.testBit (q % 8))
    rw [← ht, hlen] at hsn
    rw [hlen] at hnb
    have hp : 2 ^ i < 2 ^ 64 := Nat.pow_lt_pow_right (by omega) (by omega)
    have hp2 : 2 ^ i ≤ 2 ^ 63 := Nat.pow_le_pow_right (by omega) (by omega)
    generalize (x.testBit (q % 8)).toNat = bt at *
    have hm : bt * 2 ^ i ≤ 2 ^ i := by
      have := Nat.mul_le_mul_right (2 ^ i) hbt
      omega
    have e5 : IntKind.u64.wrap ((bt : Int) * 2 ^ (min i IntKind.u64.bits)) = ((bt * 2 ^ i : Nat) : Int) := by
      rw [show min i IntKind.u64.bits = i from Nat.min_eq_left (by have : IntKind.u64.bits = 64 := rfl
                                                                   omega)]
      have e : (bt : Int) * 2 ^ i = ((bt * 2 ^ i : Nat) : Int) := by simp
      rw [e]
      exact gE (by omega) (by omega)
    have e6 := Hr (a := sI (((fU l).drop st).take i)) (b := bt * 2 ^ i) (by omega) (by omega)
    rw [Is hnb, ← hsn] at e6
    simp (disch := omega) only [cJ, fB, d1, fH, e0, eM, List.length_map, dD, gE, aD, gN, e1, gI, e2, dH, Int.toNat_natCast, eA, g1, cW, fY, e3, gR, e4, bX, fZ, e5, iR, e6, and_true, cY]
    exact ⟨n - (i + 1), by omega, i + 1, rfl, rfl, by omega⟩
  · have d1 : decide ((i : Int) < (n : Int)) = false := by simp; omega
    obtain rfl : i = n := by omega
    unfold qU
    simp (disch := omega) only [cJ, fB, d1, fH, eM, dD, gE, aD, gN, gI, true_and, cQ]
def E1 (w : World) (lo hi : Nat) (l : List UInt8) (st : Nat) : Prop := ∃ v, iE w hi [v, .int .i64 st] ∧ Bs w v l ∧ IB v lo hi
theorem E1.ext {w w' : World} {lo hi st : Nat} {l : List UInt8} {M : Nat → Prop} (h : E1 w lo hi l st) (hx : gA w w' M) (hM : ∀ b, lo ≤ b → b ≤ hi → ¬ M b) (hlh : lo ≤ hi) : E1 w' lo hi l st := by
  obtain ⟨v, h1, h2, h3⟩ := h
  exact ⟨v, h1.ext hx (hM _ hlh (Nat.le_refl _)), h2.ext hx (h3 M fun b hb hh => hM b hb (by omega)), h3⟩
theorem DX {v : Value} {l : List UInt8} {w : World} (h : Bs w v l) (hl : l.length ≤ 1000000000) :
    gH pg lD #[v] w (fun r w' => ∃ hi, r = .pointer (some ⟨hi, 0, none⟩) ∧ w.heap.size ≤ hi ∧ hi < w'.heap.size ∧ E1 w' w.heap.size hi l 0 ∧ gA w w' jQ) := by
  refine wZ ?_
  unfold wJ mY
  refine (Ht h hl).mono ?_
  rintro r w1 ⟨o1, x1⟩
  have hat := yL.atI o1
  have hs := o1.sl
  obtain ⟨a, c, rfl⟩ := o1.len
  simp (disch := omega) only [cJ, bM, aD]
  refine wC fun w2 o2 x2 s2 => ?_
  simp only [Value.cells] at o2
  exact ⟨_, rfl, x1.size, by omega, ⟨_, o2, hs.ext x2 (iM _), hat⟩, x1.seq x2⟩
theorem yD {l : List UInt8} {lo hi st n : Nat} {w : World} (h : E1 w lo hi l st) (hlh : lo ≤ hi) (hn : n ≤ 32) (hst : st ≤ 8 * l.length) (hl : l.length ≤ 1000000) :
    gH pg iH #[.pointer (some ⟨hi, 0, none⟩), .int .i64 n] w (fun r w' =>
      (8 * l.length < st + n ∧ r = .tuple #[.int .u64 0, .int .i64 10] ∧ E1 w' lo hi l st ∧ gA w w' jQ) ∨
      (st + n ≤ 8 * l.length ∧ r = .tuple #[.int .u64 (sI (((fU l).drop st).take n)), .int .i64 0] ∧ E1 w' lo hi l (st + n) ∧ gA w w' (fun y => y = hi))) := by
  refine vT ?_
  obtain ⟨v, o, hs, hat⟩ := h
  unfold sX lL
  have d1 : decide ((n : Int) < 0) = false := by simp
  have d2 : decide ((32 : Int) < (n : Int)) = false := by simp; omega
  have c0 := o.cell (off := 0)
  have c1 := o.cell (off := 1)
  simp only [List.getElem?_cons_zero, List.getElem?_cons_succ] at c0 c1
  obtain ⟨a, n', c, hv, hn', hc, hh⟩ := id hs
  rw [List.length_map] at hn'
  subst hn'
  by_cases hsh : 8 * l.length < st + n
  · have d3 : decide (8 * (l.length : Int) - (st : Int) < (n : Int)) = true := by simp; omega
    subst hv
    have od := jG o
    have c0d := od.cell (off := 0)
    have c1d := od.cell (off := 1)
    simp only [List.getElem?_cons_zero, List.getElem?_cons_succ] at c0d c1d
    simp (disch := omega) only [cJ, bB, Option.isNone_some, gF, true_and, aD, bD, Nat.zero_add, eE, bJ, dF, eZ, eS, Bool.false_eq_true, if_false, eD, fB, d1, fM, d2, c0d, cW, c1d, dE, gQ, eM, fR, d3, cY, cQ]
    exact .inl ⟨hsh, ⟨_, jG o, hs.ext (gA.dr _ jQ) (iM _), hat⟩, gA.dr _ _⟩
  · have d3 : decide (8 * (l.length : Int) - (st : Int) < (n : Int)) = false := by simp; omega
    subst hv
    have c0e := (jG o).cell (off := 0)
    have c1e := (jG o).cell (off := 1)
    have od := jG (jG o)
    have c0d := od.cell (off := 0)
    have c1d := od.cell (off := 1)
    simp only [List.getElem?_cons_zero, List.getElem?_cons_succ] at c0d c1d c0e c1e
    simp (disch := omega) only [cJ, bB, Option.isNone_some, gF, true_and, aD, bD, Nat.zero_add, eE, bJ, dF, eZ, eS, Bool.false_eq_true, if_false, eD, fB, d1, fM, d2, c0e, cW, c1e, c0d, c1d, dE, gQ, eM, fR, d3, cQ]
    refine (H9 (l := l) (st := st) (n := n) ((hs.ext (gA.dr _ jQ) (iM _)).ext (gA.dr _ jQ) (iM _)) (by omega) (by omega) (by omega)).mono ?_
    rintro r w1 ⟨rfl, rfl⟩
    simp (disch := omega) only [c1d, cW, true_and, aD, fH, eM]
    refine CM od rfl (by simp) fun w2 o2 x2 s2 => ?_
    simp only [List.set_cons_zero, List.set_cons_succ] at o2
    have e1 : (st : Int) + (n : Int) = ((st + n : Nat) : Int) := by omega
    rw [e1] at o2
    have x02 : gA w w2 (fun y => y = hi) := ((gA.dr _ _).seq (gA.dr _ _)).seq x2
    exact .inr ⟨by omega, ⟨_, o2, hs.ext x02 (hat _ fun b hb hh => by omega), hat⟩, x02⟩
theorem F8 {l : List UInt8} {lo hi st : Nat} {w : World} (h : E1 w lo hi l st) (hst : st ≤ 1000000000) :
    gH pg kG #[.pointer (some ⟨hi, 0, none⟩)] w (fun r w' => r = .int .i64 (((st + 7) / 8 : Nat)) ∧ w' = w) := by
  refine vV ?_
  obtain ⟨v, o, hs, hat⟩ := h
  have c1 := o.cell (off := 1)
  simp only [List.getElem?_cons_zero, List.getElem?_cons_succ] at c1
  have e1 : ((st : Int) + 7).tdiv 8 = (((st + 7) / 8 : Nat) : Int) := by rw [Int.tdiv_eq_ediv_of_nonneg (by omega)]; omega
  unfold sZ lR
  simp (disch := omega) only [cJ, bB, Option.isNone_some, gF, aD, bD, Nat.zero_add, eE, and_true, c1, cW, fH, eM, gN, e1, cQ]
end Go.Proofs.YtoepfjgekpdddaaDoor
namespace Go.Proofs.YtoepfjgekpdddaaDoor
open Go Go.En Go.Pu
set_option maxRecDepth 4000
set_option linter.unusedSimpArgs false
set_option linter.unusedVariables false
theorem IB.sub {a : Option Addr} {n c m c' k sz lo hi : Nat} (h : IB (.slice a n c) lo hi) (hm : m ≤ n) : IB (.slice (pH a c k sz) m c') lo hi := by
  intro M hM hin
  cases m with
  | zero => unfold Hh at hin; split at hin <;> simp_all
  | succ m =>
    obtain ⟨n', rfl⟩ : ∃ n', n = n' + 1 := ⟨n - 1, by omega⟩
    have h1 := h M hM
    cases a with
    | none => unfold pH at hin; split at hin <;> exact hin
    | some x =>
      unfold pH at hin
      have h2 : M x.block := by
        split at hin
        · exact hin
        · rw [Option.map_some] at hin
          have e : (x.add (k * sz)).block = x.block := by unfold Addr.add; split <;> rfl
          have h3 : M (x.add (k * sz)).block := hin
          rwa [e] at h3
      exact h1 h2
end Go.Proofs.YtoepfjgekpdddaaDoor
namespace Go.Pu
open Go Go.En
set_option linter.unusedVariables false
def kD (L : List Bool) (st n : Nat) : Nat := sI ((L.drop st).take n)
theorem xK (L : List Bool) (st n : Nat) : kD L st n < 2 ^ n := by
  have h := Ef ((L.drop st).take n)
  have : ((L.drop st).take n).length ≤ n := by rw [List.length_take]; omega
  exact Nat.lt_of_lt_of_le h (Nat.pow_le_pow_right (by omega) this)
def EN (L : List Bool) (st left : Nat) : Option (Nat × Nat) :=
  let n := bl (left + 1)
  if L.length < st + (n - 1) then none
  else
    let low := kD L st (n - 1)
    let free := 2 ^ n - 2 - left
    if low < free then some (low, st + (n - 1))
    else if L.length < st + (n - 1) + 1 then none
    else if kD L (st + (n - 1)) 1 = 0 then some (low, st + (n - 1) + 1)
    else some (low + 2 ^ (n - 1) - free, st + (n - 1) + 1)
def EZ (L : List Bool) : Nat → Nat → Option (Nat × Nat)
  | 0, _ => none
  | f + 1, st => if L.length < st + 2 then none else if kD L st 2 < 3 then some (kD L st 2, st + 2) else match EZ L f (st + 2) with
    | none => none
    | some (k, st') => some (3 + k, st')
def Ei (L : List Bool) (sym : Nat) : Nat → Nat → Nat → List Int → Except Int (List Int × Nat)
  | 0, _, _, _ => .error 10
  | f + 1, st, left, ps => if left = 0 then .ok (ps, st) else match EN L st left with
    | none => .error 10
    | some (v, st1) =>
      if v = 1 then match EZ L (L.length + 1) st1 with
        | none => .error 10
        | some (k, st2) => if sym < ps.length + 1 + k then .error 11 else Ei L sym f st2 left (ps ++ 0 :: List.replicate k 0)
      else if sym < ps.length + 1 then .error 11 else Ei L sym f st1 (left - (gD ((v : Int) - 1)).toNat) (ps ++ [(v : Int) - 1])
theorem Fz {L : List Bool} {st left v st1 : Nat} (h : EN L st left = some (v, st1)) (h0 : 0 < left) : st < st1 ∧ st1 ≤ L.length ∧ v ≤ left + 1 := by
  have hb1 := DR (k := left + 1) (by omega)
  have hb2 := EV (k := left + 1) (by omega)
  have hb3 := Ew (left + 1)
  have hn : 2 ≤ bl (left + 1) := by
    rcases Nat.lt_or_ge (bl (left + 1)) 2 with h | h
    · have : bl (left + 1) = 1 := by omega
      rw [this] at hb3; omega
    · exact h
  unfold EN at h
  simp only at h
  generalize bl (left + 1) = n at *
  obtain ⟨m, rfl⟩ : ∃ m, n = m + 1 := ⟨n - 1, by omega⟩
  rw [Nat.add_sub_cancel] at *
  rw [Nat.pow_succ] at *
  have hl := xK L st m
  generalize 2 ^ m = q at *
  generalize kD L st m = low at *
  split at h
  · cases h
  · split at h
    · obtain ⟨rfl, rfl⟩ := Prod.mk.inj (Option.some.inj h); omega
    · split at h
      · cases h
      · split at h
        · obtain ⟨rfl, rfl⟩ := Prod.mk.inj (Option.some.inj h); omega
        · obtain ⟨rfl, rfl⟩ := Prod.mk.inj (Option.some.inj h); omega
theorem Hc {L : List Bool} : ∀ {f st k st1 : Nat}, EZ L f st = some (k, st1) → st < st1 ∧ st1 ≤ L.length ∧ 2 * k ≤ 3 * (st1 - st)
  | 0, st, k, st1, h => by cases h
  | f + 1, st, k, st1, h => by
    rw [EZ] at h
    split at h
    · cases h
    · have hl := xK L st 2
      split at h
      · obtain ⟨rfl, rfl⟩ := Prod.mk.inj (Option.some.inj h); omega
      · cases hn : EZ L f (st + 2) with
        | none => rw [hn] at h; cases h
        | some x =>
          obtain ⟨k', st'⟩ := x
          rw [hn] at h
          obtain ⟨rfl, rfl⟩ := Prod.mk.inj (Option.some.inj h)
          have := Hc hn
          omega
def uT (L : List Bool) (most : Int) (sym : Nat) : Except Int (Nat × List Int × Nat) :=
  if L.length < 4 then .error 10
  else
    let log := kD L 0 4 + 5
    if most < log ∨ 15 < log then .error 12
    else match Ei L sym (L.length + 1) 4 (2 ^ log) [] with
      | .error e => .error e
      | .ok (ps, st) => .ok (log, ps, (st + 7) / 8)
theorem CP : ∀ k : Nat, vG (List.replicate k 0) = 0
  | 0 => rfl
  | k + 1 => by rw [List.replicate_succ, pF, CP k] <;> rfl
theorem BQ {L : List Bool} {sym : Nat} {out : List Int} {stE : Nat} {tot : Int} : ∀ {f st left : Nat} {ps : List Int}, Ei L sym f st left ps = .ok (out, stE) → (∀ p ∈ ps, -1 ≤ p) → vG ps + left = tot →
    (left = 0 → ps.length ≤ sym ∧ ps.getLast? ≠ some 0 ∧ 1 ≤ ps.length) → (∀ p ∈ out, -1 ≤ p) ∧ vG out = tot ∧ out.length ≤ sym ∧ out.getLast? ≠ some 0 ∧ 1 ≤ out.length
  | 0, st, left, ps, h, _, _, _ => by cases h
  | f + 1, st, left, ps, h, hlo, hs, hz => by
    rw [Ei] at h
    split at h
    · rename_i h0
      cases h
      obtain ⟨z1, z2, z3⟩ := hz h0
      exact ⟨hlo, by omega, z1, z2, z3⟩
    · rename_i h0
      cases hv : EN L st left with
      | none => rw [hv] at h; cases h
      | some x =>
        obtain ⟨v, st1⟩ := x
        obtain ⟨v1, v2, v3⟩ := Fz hv (by omega)
        rw [hv] at h
        simp only at h
        split at h
        · rename_i hv1
          cases hn : EZ L (L.length + 1) st1 with
          | none => rw [hn] at h; cases h
          | some y =>
            obtain ⟨k, st2⟩ := y
            rw [hn] at h
            simp only at h
            split at h
            · cases h
            · refine BQ h ?_ ?_ (fun h => absurd h h0)
              · intro p hp
                rcases List.mem_append.1 hp with hp | hp
                · exact hlo p hp
                · rcases List.mem_cons.1 hp with rfl | hp
                  · omega
                  · rw [List.eq_of_mem_replicate hp]; omega
              · rw [Ci, pF]
                have e := CP k
                rw [e]
                have : gD 0 = 0 := rfl
                omega
        · rename_i hv1
          split at h
          · cases h
          · have hp1 : -1 ≤ (v : Int) - 1 := by omega
            have hpn := kB hp1
            have hpl : gD ((v : Int) - 1) ≤ left := by unfold gD; split <;> omega
            refine BQ h ?_ ?_ ?_
            · intro p hp
              rcases List.mem_append.1 hp with hp | hp
              · exact hlo p hp
              · rw [List.mem_singleton.1 hp]; exact hp1
            · rw [Ci, pF]
              have e : vG [] = 0 := rfl
              rw [e]; omega
            · intro _
              rw [List.length_append, List.length_singleton, List.getLast?_concat]
              refine ⟨by omega, ?_, by omega⟩
              intro e
              have := Option.some.inj e
              omega
end Go.Pu
namespace Go.En
open Go
set_option linter.unusedVariables false
set_option linter.unusedSimpArgs false
section
variable {P : Program} {w : World} {t e : TypeId}
theorem Et {S : Nat → Prop} {sz n m : Nat} {i : TypeInfo} {z : Value} {ty t2 : TypeId} {k : IntKind} (hu : P.underlying t = some (.slice e)) (hu2 : P.underlying t2 = some (.int k)) (hi : P.info? e = some i) (hsz : i.size = sz) (hz : i.zero = some z) (hzs : z.cells.size = sz)
    {v : Value} {l : List Value} (h : IW w S sz v n l) (hsz0 : 0 < sz) (hone : ∀ y ∈ z.cells.toList, one y = true) (hb : ∀ b, w.heap.size ≤ b → S b)
    (hn : n + m ≤ 9223372036854775807) (hbytes : (n + m) * i.bytes ≤ 140737488355328) (hmb : m * i.bytes ≤ 140737488355328)
    {K : Value → World → Prop} (hk : ∀ v' w', IW w' S sz v' (n + m) (l ++ (Builtin.zeroCells z.cells m).toList) → gA w w' S → K v' w') : cJ P (mM .append #[t, t2] ty [v, .int k m]) w K := by
  generalize hnews : (Builtin.zeroCells z.cells m).toList = news at *
  have hnl : news.length = m * sz := by rw [← hnews, Array.length_toList, jC, hzs]
  have hone' : ∀ y ∈ news, one y = true := by
    intro y hy
    rw [← hnews] at hy
    simp only [Builtin.zeroCells, Array.toList_map, List.mem_map] at hy
    obtain ⟨j, _, rfl⟩ := hy
    refine hone _ ?_
    have : j % z.cells.size < z.cells.size := Nat.mod_lt _ (by omega)
    rw [getElem!_pos z.cells _ this]
    exact Array.getElem_mem_toList this
  have hmw : IntKind.i64.wrap ((m : Nat) : Int) = (m : Int) := eM (by omega) (by omega)
  have hm0 : ¬ ((m : Int) < 0) := by omega
  have hmx : ¬ ((m : Int) * (i.bytes : Nat) > 2 ^ 48) := by
    have : (m : Int) * (i.bytes : Nat) = ((m * i.bytes : Nat) : Int) := by simp
    rw [this]; omega
  have has : ∀ w, (asInt (.int k m)).run P w = .ok (m : Int) w := fun w => rfl
  have hz' : ∀ w, (zeroValue e).run P w = .ok z w := fun w => by simp [zeroValue, typeInfo, hi, hz]
  have hnw : ∀ w, (if m * sz = 0 then pure #[] else do pure (Builtin.zeroCells (← zeroValue e).cells m) : Sem (Array Value)).run P w = .ok news.toArray w := fun w => by
    by_cases h0 : m * sz = 0
    · rw [if_pos h0, Sem.run_pure]
      have : news = [] := List.length_eq_zero_iff.1 (by omega)
      rw [this]
    · rw [if_neg h0, Sem.run_bind, hz', Result.andThen_ok, Sem.run_pure, ← hnews, Array.toArray_toList]
  have hmax : IntKind.i64.max = 9223372036854775807 := by decide
  have hnot : ¬ (((n + m : Nat) : Int) > IntKind.i64.max) := by rw [hmax]; omega
  have hlen := h.1
  rcases h.2 with ⟨rfl, rfl⟩ | ⟨b, c, rest, rfl, h2, h3, h4, h5⟩
  · have hl0 : l = [] := List.length_eq_zero_iff.1 (by omega)
    subst hl0
    by_cases hm : m = 0
    · subst hm
      have hn0 : news = [] := List.length_eq_zero_iff.1 (by omega)
      subst hn0
      have : (mM .append #[t, t2] ty [.slice none 0 0, .int k (0 : Nat)]).run P w = .ok (.value (.slice none 0 0)) w := by
        unfold mM builtin
        simp only [Builtin.append_, List.getElem?_toArray, List.getElem?_cons_zero, List.getElem?_cons_succ]
        simp only [underlying, typeInfo, Sem.run_bind, run_program, Result.andThen_ok, hu, hu2, hi, Sem.run_pure, gO hi, hsz, has, hmw, hm0, hmx, if_true, if_false, Int.toNat_natCast, Bool.not_true, Bool.false_eq_true, Nat.le_refl, Nat.add_zero, hnw]
      unfold cJ
      rw [this]
      exact hk _ _ ⟨by simp, .inl ⟨rfl, by omega⟩⟩ (gA.refl _ _)
    · have hfit := growslice_fits (need := 0 + m) (old := 0) (bytes := i.bytes) (by omega) (by omega)
      have hfit' : ¬ (Builtin.nextslicecap (0 + m) 0 * i.bytes > 2 ^ 48) := by omega
      have hle : ¬ (0 + m ≤ 0) := by omega
      have hq : (Question.appendCap (0 + m) 0 e).forced = false := rfl
      obtain ⟨r, hr⟩ : ∃ r, (Question.appendCap (0 + m) 0 e).cut (w.tape w.drawn (.appendCap (0 + m) 0 e)) = m + r :=
        ⟨(w.tape w.drawn (.appendCap (0 + m) 0 e)) % (2 ^ 63 - (0 + m)), by simp only [Question.cut]; omega⟩
      have : (mM .append #[t, t2] ty [.slice none 0 0, .int k m]).run P w = .ok (.value (.slice (some ⟨w.heap.size, 0, none⟩) (0 + m) (m + r))) ((dr w).alloc (.cells (news ++ (Builtin.zeroCells z.cells (m + r - (0 + m))).toList).toArray e)) := by
        unfold mM builtin
        simp only [Builtin.append_, List.getElem?_toArray, List.getElem?_cons_zero, List.getElem?_cons_succ]
        simp only [underlying, typeInfo, Sem.run_bind, run_program, Result.andThen_ok, hu, hu2, hi, Sem.run_pure, gO hi, hsz, has, hmw, hm0, hmx, if_true, if_false, Int.toNat_natCast, Bool.not_true, Bool.false_eq_true, hle, hnot, false_and, hfit', run_choose, hq, hr, run_askRoom]
        change ((Sem.run P _ (dr w)).andThen _).andThen _ = _
        simp only [Sem.run_bind, hnw, run_firstCells_none, Result.andThen_ok, hz', Sem.run_pure, newRow, run_newObj]
        have e1 : (#[] ++ news.toArray ++ Builtin.zeroCells z.cells (m + r - (0 + m)) : Array Value) = (news ++ (Builtin.zeroCells z.cells (m + r - (0 + m))).toList).toArray := by
          apply Array.ext'; simp
        rw [e1]
        rfl
      unfold cJ
      rw [this]
      refine hk _ _ ⟨by simp only [List.nil_append]; rw [hnl, Nat.zero_add], .inr ⟨w.heap.size, m + r, (Builtin.zeroCells z.cells (m + r - (0 + m))).toList, by rw [Nat.zero_add], hb _ (Nat.le_refl _), iE.alloc (dr w) _ _, ?_, by omega⟩⟩ ((gA.dr w _).seq (gA.alloc _ _ _))
      simp only [List.nil_append, List.length_append, Array.length_toList, jC, hzs, hnl]
      rw [show m + r - (0 + m) = r from by omega, Nat.add_mul]
  · by_cases hc : n + m ≤ c
    · have hroom : news.length ≤ rest.length := by
        rw [List.length_append, hlen] at h4
        have : (n + m) * sz ≤ c * sz := Nat.mul_le_mul_right _ hc
        rw [Nat.add_mul] at this; omega
      obtain ⟨w', s1, s2, s3, s4, _⟩ := rK (P := P) (M := S) h2 news w (n * sz) 0 (l ++ rest) h3 (by rw [List.length_append, hlen]; omega) hone'
      have : (mM .append #[t, t2] ty [.slice (some ⟨b, 0, none⟩) n c, .int k m]).run P w = .ok (.value (.slice (some ⟨b, 0, none⟩) (n + m) c)) w' := by
        unfold mM builtin
        simp only [Builtin.append_, List.getElem?_toArray, List.getElem?_cons_zero, List.getElem?_cons_succ]
        simp only [underlying, typeInfo, Sem.run_bind, run_program, Result.andThen_ok, hu, hu2, hi, Sem.run_pure, gO hi, hsz, has, hmw, hm0, hmx, if_true, if_false, Int.toNat_natCast, Bool.not_true, Bool.false_eq_true, hc, hnw, tV, Nat.zero_add, s1]
      unfold cJ
      rw [this]
      rw [Nat.add_zero, ← hlen, tP _ _ _ hroom] at s2
      refine hk _ _ ⟨by rw [List.length_append, hlen, hnl, Nat.add_mul], .inr ⟨b, c, rest.drop news.length, rfl, h2, s2, ?_, hc⟩⟩ s3
      rw [← h4]; simp; omega
    · have hfit := growslice_fits (need := n + m) (old := c) (bytes := i.bytes) (by omega) hbytes
      have hfit' : ¬ (Builtin.nextslicecap (n + m) c * i.bytes > 2 ^ 48) := by omega
      have hq : (Question.appendCap (n + m) c e).forced = false := rfl
      obtain ⟨r, hr⟩ : ∃ r, (Question.appendCap (n + m) c e).cut (w.tape w.drawn (.appendCap (n + m) c e)) = n + m + r :=
        ⟨(w.tape w.drawn (.appendCap (n + m) c e)) % (2 ^ 63 - (n + m)), by simp only [Question.cut]⟩
      have hold : Cl (dr w) sz (.slice (some ⟨b, 0, none⟩) n c) n l := ⟨_, _, rfl, hlen, fun _ => ⟨b, 0, rfl, fun i hi => by
        show w.cell? _ = _
        rw [h3.cell, Nat.zero_add, List.getElem?_append_left hi]⟩⟩
      have : (mM .append #[t, t2] ty [.slice (some ⟨b, 0, none⟩) n c, .int k m]).run P w = .ok (.value (.slice (some ⟨w.heap.size, 0, none⟩) (n + m) (n + m + r))) ((dr w).alloc (.cells (l ++ news ++ (Builtin.zeroCells z.cells (n + m + r - (n + m))).toList).toArray e)) := by
        have hfo := mI (P := P) hold
        unfold mM builtin
        simp only [Builtin.append_, List.getElem?_toArray, List.getElem?_cons_zero, List.getElem?_cons_succ]
        simp only [underlying, typeInfo, Sem.run_bind, run_program, Result.andThen_ok, hu, hu2, hi, Sem.run_pure, gO hi, hsz, has, hmw, hm0, hmx, if_true, if_false, Int.toNat_natCast, Bool.not_true, Bool.false_eq_true, hc, hnot, false_and, hfit', run_choose, hq, hr, run_askRoom]
        change ((Sem.run P _ (dr w)).andThen _).andThen _ = _
        simp only [Sem.run_bind, hnw, hfo, Result.andThen_ok, hz', Sem.run_pure, newRow, run_newObj]
        have e1 : (l.toArray ++ news.toArray ++ Builtin.zeroCells z.cells (n + m + r - (n + m)) : Array Value) = (l ++ news ++ (Builtin.zeroCells z.cells (n + m + r - (n + m))).toList).toArray := by
          apply Array.ext'; simp
        rw [e1]
        rfl
      unfold cJ
      rw [this]
      refine hk _ _ ⟨by rw [List.length_append, hlen, hnl, Nat.add_mul], .inr ⟨w.heap.size, n + m + r, _, rfl, hb _ (Nat.le_refl _), iE.alloc (dr w) _ _, ?_, by omega⟩⟩ ((gA.dr w _).seq (gA.alloc _ _ _))
      simp only [List.length_append, Array.length_toList, jC, hzs, hnl, hlen]
      rw [show n + m + r - (n + m) = r from by omega, Nat.add_mul, Nat.add_mul]
end
end Go.En
namespace Go.Proofs.YtoepfjgekpdddaaDoor
open Go Go.En Go.Pu
set_option maxRecDepth 4000
set_option linter.unusedSimpArgs false
set_option linter.unusedVariables false
theorem FT {left : Nat} (h0 : 0 < left) (h1 : left ≤ 32768) : ∃ m, bl (left + 1) = m + 1 ∧ 1 ≤ m ∧ m ≤ 16 ∧ left + 1 < 2 ^ (m + 1) ∧ 2 ^ m ≤ left + 1 ∧ 2 ^ (m + 1) = 2 * 2 ^ m := by
  have hb2 := EV (k := left + 1) (by omega)
  have hb3 := Ew (left + 1)
  have hb4 := AM (k := left + 1) (n := 17) (by omega)
  have hn : 2 ≤ bl (left + 1) := by
    rcases Nat.lt_or_ge (bl (left + 1)) 2 with h | h
    · have hb1 := DR (k := left + 1) (by omega)
      have : bl (left + 1) = 1 := by omega
      rw [this] at hb3; omega
    · exact h
  obtain ⟨m, hm⟩ : ∃ m, bl (left + 1) = m + 1 := ⟨bl (left + 1) - 1, by omega⟩
  rw [hm] at hb2 hb3 hb4 hn ⊢
  exact ⟨m, rfl, by omega, by omega, hb3, hb2, by rw [Nat.pow_succ, Nat.mul_comm]⟩
theorem GP (L : List Bool) (f st : Nat) : EZ L (f + 1) st = if L.length < st + 2 then none else if kD L st 2 < 3 then some (kD L st 2, st + 2) else match EZ L f (st + 2) with
    | none => none
    | some (k, st') => some (3 + k, st') := by rw [EZ] <;> rfl
def HW (w : World) (lo hi : Nat) (l : List UInt8) (o : Option (Nat × Nat)) (r : Value) : Prop := match o with
  | none => r = .tuple #[.int .i64 0, .int .i64 10]
  | some (v, st) => r = .tuple #[.int .i64 v, .int .i64 0] ∧ E1 w lo hi l st
theorem HO {l : List UInt8} {lo hi st left : Nat} {w : World} (h : E1 w lo hi l st) (hlh : lo ≤ hi) (hst : st ≤ 8 * l.length) (hl : l.length ≤ 1000000) (h0 : 0 < left) (h1 : left ≤ 32768) :
    gH pg nC #[.pointer (some ⟨hi, 0, none⟩), .int .i64 left] w (fun r w' => HW w' lo hi l (EN (fU l) st left) r ∧ gA w w' (fun y => y = hi)) := by
  refine zZ ?_
  obtain ⟨m, hm, hm1, hm2, hf1, hf2, hf3⟩ := FT h0 h1
  unfold zV qL
  have e1 : (left : Int) + 1 = ((left + 1 : Nat) : Int) := by omega
  simp (disch := omega) only [cJ, fH, e1, eM, aD, dD, gE]
  refine (H1 (x := left + 1) (by omega) w).mono ?_
  rintro r w1 ⟨rfl, rfl⟩
  rw [hm]
  have e2 : ((m + 1 : Nat) : Int) - 1 = (m : Int) := by omega
  simp (disch := omega) only [fR, e2, eM, fZ, Int.toNat_natCast, aD]
  refine (yD (n := m) h hlh (by omega) hst hl).mono ?_
  have hbl := mC l
  unfold EN
  simp only [hm, Nat.add_sub_cancel]
  rintro r w2 (⟨hsh, rfl, hf, x2⟩ | ⟨hsh, rfl, hf, x2⟩)
  · have n1 : ((10 : Int) != 0) = true := rfl
    rw [if_pos (by omega)]
    simp (disch := omega) only [lG, lH, aD, fP, n1, cY]
    exact ⟨rfl, x2.mono fun _ _ h => h.elim⟩
  · have n1 : ((0 : Int) != 0) = false := rfl
    rw [if_neg (by omega)]
    have hlt := xK (fU l) st m
    have hnum : sI (((fU l).drop st).take m) = kD (fU l) st m := rfl
    rw [hnum]
    have hsh1 := H6 (n := m + 1) (by omega)
    have hsh0 := H6 (n := m) (by omega)
    have hp : 2 ^ m ≤ 2 ^ 16 := Nat.pow_le_pow_right (by omega) hm2
    generalize kD (fU l) st m = low at *
    rw [hf3] at *
    generalize hq : 2 ^ m = q at *
    have e3 : ((2 * q : Nat) : Int) - 2 - (left : Int) = ((2 * q - 2 - left : Nat) : Int) := by omega
    by_cases hfr : low < 2 * q - 2 - left
    · have d1 : decide ((low : Int) < ((2 * q - 2 - left : Nat) : Int)) = true := by simp only [decide_eq_true_eq]; omega
      rw [if_pos hfr]
      simp (disch := omega) only [lG, lH, hsh1, eM, e3, aD, fP, n1, cQ, cN, fH, fR, fB, d1, cY]
      exact ⟨⟨rfl, hf⟩, x2⟩
    · have d1 : decide ((low : Int) < ((2 * q - 2 - left : Nat) : Int)) = false := by simp only [decide_eq_false_iff_not]; omega
      rw [if_neg hfr]
      simp (disch := omega) only [lG, lH, hsh1, eM, e3, aD, fP, n1, cQ, cN, fH, fR, fB, d1]
      refine (yD (n := 1) hf hlh (by omega) hsh hl).mono ?_
      rintro r w3 (⟨hs3, rfl, hf3, x3⟩ | ⟨hs3, rfl, hf3, x3⟩)
      · have n1 : ((10 : Int) != 0) = true := rfl
        rw [if_pos (by omega)]
        simp (disch := omega) only [lG, lH, aD, fP, n1, cY]
        exact ⟨rfl, x2.seq (x3.mono fun _ _ h => h.elim)⟩
      · rw [if_neg (by omega)]
        have hnum : sI (((fU l).drop (st + m)).take 1) = kD (fU l) (st + m) 1 := rfl
        rw [hnum]
        by_cases hz : kD (fU l) (st + m) 1 = 0
        · have n2 : (((kD (fU l) (st + m) 1 : Nat) : Int) == 0) = true := by rw [hz] <;> rfl
          rw [if_pos hz]
          simp (disch := omega) only [lG, lH, aD, fP, n1, cQ, gB, n2, cY]
          exact ⟨⟨rfl, hf3⟩, x2.seq x3⟩
        · have n2 : (((kD (fU l) (st + m) 1 : Nat) : Int) == 0) = false := beq_eq_false_iff_ne.2 (by omega)
          have e4 : (low : Int) + (q : Int) - ((2 * q - 2 - left : Nat) : Int) = ((low + q - (2 * q - 2 - left) : Nat) : Int) := by omega
          rw [if_neg hz]
          simp (disch := omega) only [lG, lH, hsh0, e4, aD, fP, n1, cQ, gB, n2]
          exact ⟨⟨rfl, hf3⟩, x2.seq x3⟩
theorem Ge {l : List UInt8} {lo hi st : Nat} {w : World} (h : E1 w lo hi l st) (hlh : lo ≤ hi) (hst : st ≤ 8 * l.length) (hl : l.length ≤ 1000000) :
    gH pg mD #[.pointer (some ⟨hi, 0, none⟩)] w (fun r w' => HW w' lo hi l (EZ (fU l) ((fU l).length + 1) st) r ∧ gA w w' (fun y => y = hi)) := by
  refine yN ?_
  have hbl := mC l
  unfold xE mX nH lI nD oB lE nJ oQ
  refine iV.rule (fun m (t : Value) w' => ∃ k0 st' : Nat, t = .int .i64 k0 ∧ EZ (fU l) ((fU l).length + 1) st = (match EZ (fU l) m st' with | none => none | some (k, s) => some (k0 + k, s)) ∧ (fU l).length < 2 * m + st' ∧ st' ≤ 8 * l.length ∧ k0 ≤ 3 * st' ∧ E1 w' lo hi l st' ∧ gA w w' (fun y => y = hi)) ((fU l).length + 1)
    ⟨0, st, rfl, by cases EZ (fU l) ((fU l).length + 1) st with
      | none => rfl
      | some x => simp, by omega, hst, by omega, h, gA.refl _ _⟩ ?_
  rintro m t w1 ⟨k0, st', rfl, hr, hm, hs', hk0, hf, x1⟩
  obtain ⟨m, rfl⟩ : ∃ m', m = m' + 1 := ⟨m - 1, by omega⟩
  unfold lJ
  refine (yD (n := 2) hf hlh (by omega) hs' hl).mono ?_
  rw [GP (fU l) m st'] at hr
  rintro r w2 (⟨hsh, rfl, hf2, x2⟩ | ⟨hsh, rfl, hf2, x2⟩)
  · have n1 : ((10 : Int) != 0) = true := rfl
    rw [if_pos (by omega)] at hr
    rw [hr]
    simp (disch := omega) only [cJ, lG, lH, aD, fP, n1, cY]
    exact ⟨rfl, x1.seq (x2.mono fun _ _ h => h.elim)⟩
  · have n1 : ((0 : Int) != 0) = false := rfl
    rw [if_neg (by omega)] at hr
    have hlt := xK (fU l) st' 2
    have hnum : sI (((fU l).drop st').take 2) = kD (fU l) st' 2 := rfl
    rw [hnum]
    generalize kD (fU l) st' 2 = x at *
    have e1 : (k0 : Int) + (x : Int) = ((k0 + x : Nat) : Int) := by omega
    by_cases h3 : x < 3
    · have d1 : decide ((x : Int) < 3) = true := by simp; omega
      rw [if_pos h3] at hr
      rw [hr]
      unfold lK
      simp (disch := omega) only [cJ, lG, lH, aD, fP, n1, cQ, cN, eM, fB, d1, cY, fH, e1]
      exact ⟨⟨rfl, hf2⟩, x1.seq x2⟩
    · have d1 : decide ((x : Int) < 3) = false := by simp; omega
      rw [if_neg h3] at hr
      simp (disch := omega) only [cJ, lG, lH, aD, fP, n1, cQ, cN, eM, fB, d1, fH, e1]
      refine ⟨m, by omega, k0 + x, st' + 2, rfl, ?_, by omega, by omega, by omega, hf2, x1.seq x2⟩
      rw [hr]
      cases EZ (fU l) m (st' + 2) with
      | none => rfl
      | some y =>
        obtain ⟨k, s⟩ := y
        have : x = 3 := by omega
        subst this
        simp; omega
end Go.Proofs.YtoepfjgekpdddaaDoor
namespace Go.Proofs.YtoepfjgekpdddaaDoor
open Go Go.En Go.Pu
set_option maxRecDepth 4000
set_option linter.unusedSimpArgs false
set_option linter.unusedVariables false
theorem G6 (L : List Bool) (sym f st left : Nat) (ps : List Int) : Ei L sym (f + 1) st left ps = if left = 0 then .ok (ps, st) else match EN L st left with
    | none => .error 10
    | some (v, st1) =>
      if v = 1 then match EZ L (L.length + 1) st1 with
        | none => .error 10
        | some (k, st2) => if sym < ps.length + 1 + k then .error 11 else Ei L sym f st2 left (ps ++ 0 :: List.replicate k 0)
      else if sym < ps.length + 1 then .error 11 else Ei L sym f st1 (left - (gD ((v : Int) - 1)).toNat) (ps ++ [(v : Int) - 1]) := by rw [Ei] <;> rfl
theorem Ec (k : Nat) : (Builtin.zeroCells (Value.int .i64 0).cells k).toList = List.replicate k (Value.int .i64 0) := by
  apply List.ext_getElem
  · rw [Array.length_toList, jC, List.length_replicate]; simp [Value.cells]
  · intro i h1 h2
    simp [Builtin.zeroCells, Value.cells, Nat.mod_one]
theorem HA {n m base : Nat} {ty : TypeId} {w : World} {v : Value} {l : List Value} (h : yL w base 1 v n l) (hb : base ≤ w.heap.size) (hn : (n + m) * 8 ≤ 140737488355328) {K : Value → World → Prop}
    (hk : ∀ v' w', yL w' base 1 v' (n + m) (l ++ List.replicate m (.int .i64 0)) → gA w w' (fun y => base ≤ y) → K v' w') : cJ pg (mM .append #[30, 3] ty [v, .int .i64 m]) w K :=
  Et (i := Tryd.t3) (S := fun y => base ≤ y) Tryd.underlying30 Tryd.underlying3 rA rfl rfl rfl h (by decide) (by intro y hy; simp [Value.cells] at hy; subst hy; rfl) (fun b hbb => Nat.le_trans hb hbb) (by omega) (by rw [show Tryd.t3.bytes = 8 from rfl]; omega) (by rw [show Tryd.t3.bytes = 8 from rfl]; omega)
    (fun v' w' o x => hk v' w' (by rw [← Ec]; exact o) x)
def EF (w : World) (base : Nat) (o : Except Int (Nat × List Int × Nat)) (r : Value) : Prop := match o with
  | .error e => r = .tuple #[.agg #[.int .i64 0, .slice none 0 0], .int .i64 0, .int .i64 e]
  | .ok (log, ps, used) => ∃ v, r = .tuple #[.agg #[.int .i64 log, v], .int .i64 used, .int .i64 0] ∧ yL w base 1 v ps.length (ps.map (Value.int .i64))
theorem vU {p6 : Nat} {w0 w : World} {e : Int} (o6 : iE w p6 [.int .i64 0, .slice none 0 0]) (hx : gA w0 w jQ) (hp : w0.heap.size ≤ p6) {RR : Value → World → Prop}
    (hR : ∀ w', gA w0 w' jQ → RR (.tuple #[.agg #[.int .i64 0, .slice none 0 0], .int .i64 0, .int .i64 e]) w') :
    cJ pg (fC 51 (.pointer (some ⟨p6, 0, none⟩)) (.agg #[.int .i64 0, .slice none 0 0])) w fun _u w => zN pg 51 (.pointer (some ⟨p6, 0, none⟩)) w fun r0 => RR (.tuple #[r0, .int .i64 0, .int .i64 e]) w := by
  refine iA o6 rfl (by simp [one]) (by simp) fun w6 o6 x6 s6 => ?_
  refine iW o6 (by simp [gC]) ?_
  simp only [gC, List.set_cons_zero, List.set_cons_succ, List.drop_zero, List.take_succ_cons, List.take_zero]
  exact hR _ (hx.new x6 hp)
theorem F7 {l : List UInt8} {log lo hi p6 pc sym : Nat} {w0 w : World} {res : Except Int (List Int × Nat)} (hlh : lo ≤ hi) (hlp : w0.heap.size ≤ p6) (hl : l.length ≤ 1000000) (h6 : p6 < lo) (hhp : hi < pc) (hsym : sym ≤ 1000000) (hlog : log ≤ 15)
    (o6 : iE w p6 [.int .i64 0, .slice none 0 0]) (oc : iE w pc [.int .i64 log, .slice none 0 0]) (hf : E1 w lo hi l 4) (h4 : 4 ≤ 8 * l.length) (hx : gA w0 w jQ)
    (hres : Ei (fU l) sym ((fU l).length + 1) 4 (2 ^ log) [] = res)
    {RR : Value → World → Prop} (hE : ∀ e w', res = .error e → gA w0 w' jQ → RR (.tuple #[.agg #[.int .i64 0, .slice none 0 0], .int .i64 0, .int .i64 e]) w')
    (hO : ∀ ps st v w', res = .ok (ps, st) → yL w' w0.heap.size 1 v ps.length (ps.map (Value.int .i64)) → gA w0 w' jQ → RR (.tuple #[.agg #[.int .i64 log, v], .int .i64 (((st + 7) / 8 : Nat)), .int .i64 0]) w') :
    kQ RR (.int .i64 sym) (.pointer (some ⟨p6, 0, none⟩)) (.pointer (some ⟨hi, 0, none⟩)) (.pointer (some ⟨pc, 0, none⟩)) (.int .i64 (2 ^ log : Nat)) w := by
  have hbl := mC l
  have hp15 : 2 ^ log ≤ 2 ^ 15 := Nat.pow_le_pow_right (by omega) hlog
  unfold kQ sN sR
  have lpc := oc.lt
  refine iV.rule (fun m (t : Value) w' => ∃ (st left : Nat) (ps : List Int) (v : Value), t = .int .i64 left ∧ Ei (fU l) sym m st left ps = res ∧ (fU l).length < m + st ∧ st ≤ 8 * l.length ∧ left ≤ 32768 ∧ ps.length ≤ 1000000 ∧
      iE w' p6 [.int .i64 0, .slice none 0 0] ∧ iE w' pc [.int .i64 log, v] ∧ yL w' (pc + 1) 1 v ps.length (ps.map (Value.int .i64)) ∧ E1 w' lo hi l st ∧ gA w w' (fun y => y = hi ∨ pc ≤ y)) ((fU l).length + 1)
    ⟨4, 2 ^ log, [], _, rfl, hres, by omega, h4, by omega, by simp, o6, oc, yL.nil _ _ _, hf, gA.refl _ _⟩ ?_
  rintro m t w1 ⟨st, left, ps, v, rfl, hr, hm, hst, hleft, hpl, o61, oc1, ov, hf1, x1⟩
  have z1 := x1.size
  have hx0 := hx.size
  have hx1 : ∀ {w' : World}, gA w w' (fun y => y = hi ∨ pc ≤ y) → gA w0 w' jQ := fun h => hx.trans h fun b hb hh => by omega
  obtain ⟨m, rfl⟩ : ∃ m', m = m' + 1 := ⟨m - 1, by omega⟩
  rw [G6] at hr
  obtain ⟨av, cv, hv⟩ := ov.len
  unfold nU sS
  by_cases h0 : left = 0
  · have d1 : decide ((0 : Int) < (left : Int)) = false := by simp; omega
    rw [if_pos h0] at hr
    subst hv
    have lc := iJ (off := 0) (jG oc1) (by simp)
    have lc' := iJ (off := 0) oc1 (by simp)
    simp only [List.drop_zero, List.take_succ_cons, List.take_zero] at lc lc'
    unfold nV
    simp (disch := omega) only [cJ, fM, d1, hP, and_true, true_and, aD, lc, cQ]
    refine (F8 (hf1.ext (gA.dr w1 jQ) (fun _ _ _ h => h) hlh) (by omega)).mono ?_
    rintro r w2 ⟨rfl, rfl⟩
    simp (disch := omega) only [lc, true_and]
    refine iA (jG o61) rfl (by simp [one]) (by simp) fun w6 o6 x6 s6 => ?_
    refine iW o6 (by simp [gC]) ?_
    simp only [gC, List.set_cons_zero, List.set_cons_succ, List.drop_zero, List.take_succ_cons, List.take_zero]
    have x16 : gA w1 w6 (fun y => y = p6) := (gA.dr w1 _).seq x6
    have ov6 := ov.ext x16 (fun b hb h => by omega)
    refine hO ps st _ w6 hr.symm ⟨ov6.1, ?_⟩ ((hx1 x1).new x16 (by omega))
    rcases ov6.2 with h | ⟨b, c, rest, q1, q2, q3⟩
    · exact .inl h
    · exact .inr ⟨b, c, rest, q1, by omega, q3⟩
  · have d1 : decide ((0 : Int) < (left : Int)) = true := by simp; omega
    rw [if_neg h0] at hr
    simp (disch := omega) only [cJ, fM, d1, aD, cY]
    unfold oD rW sO
    refine (HO hf1 hlh hst hl (by omega) hleft).mono ?_
    rintro r w2 ⟨hv2, x2⟩
    have x12 : gA w w2 (fun y => y = hi ∨ pc ≤ y) := x1.seq (x2.mono fun y _ h => .inl h)
    have o62 := o61.ext x2 (by omega)
    have oc2 := oc1.ext x2 (by omega)
    have ov2 := ov.ext x2 (fun b hb h => by omega)
    have z2 := x2.size
    cases hval : EN (fU l) st left with
    | none =>
      rw [hval] at hr hv2
      obtain rfl := hv2
      have n1 : ((10 : Int) != 0) = true := rfl
      simp (disch := omega) only [cJ, lG, lH, bF, aD, aE, Nat.zero_add, dJ, fP, n1, cY]
      exact vU (RR := RR) (e := 10) o62 (hx1 x12) hlp fun w' h => hE _ _ hr.symm h
    | some y =>
      obtain ⟨x, st1⟩ := y
      rw [hval] at hr hv2
      simp only at hr
      obtain ⟨rfl, hf2⟩ := hv2
      obtain ⟨b1, b2, b3⟩ := Fz hval (by omega)
      have n1 : ((0 : Int) != 0) = false := rfl
      simp (disch := omega) only [cJ, lG, lH, bF, aD, aE, Nat.zero_add, dJ, fP, n1, cQ, fR, eM, gB]
      refine (DZ _ _).mono ?_
      rintro r w3 ⟨rfl, rfl⟩
      have c1 := oc2.cell (off := 1)
      simp only [List.getElem?_cons_zero, List.getElem?_cons_succ] at c1
      have hpp : gD ((x : Int) - 1) ≤ left := by unfold gD; split <;> omega
      have hpn := kB (p := (x : Int) - 1) (by omega)
      obtain ⟨pq, hpq⟩ : ∃ pq : Nat, gD ((x : Int) - 1) = pq := ⟨(gD ((x : Int) - 1)).toNat, by omega⟩
      rw [hpq] at hr hpp ⊢
      rw [Int.toNat_natCast] at hr
      have e1 : (left : Int) - (pq : Int) = ((left - pq : Nat) : Int) := by omega
      simp (disch := omega) only [fR, e1, eM, aD, c1, cW]
      refine DL (cells := #[.int .i64 ((x : Int) - 1)]) (by decide) (by decide) (by kernel_rfl) fun w4 o4 x4 s4 => ?_
      have z4 := x4.size
      refine BW (m := 1) (news := [.int .i64 ((x : Int) - 1)]) (ov2.ext x4 (fun _ _ h => h)) (o4.cl (off := 0) (l := [.int .i64 ((x : Int) - 1)]) (n := 1) rfl (fun i hi => by rw [Nat.zero_add])) (by simp [one]) (by omega) (by omega) fun v5 w5 o5 x5 => ?_
      have z5 := x5.size
      obtain ⟨av5, cv5, rfl⟩ := o5.len
      have oc5 := (oc2.ext x4 (fun h => h)).ext x5 (by omega)
      refine DI oc5 rfl (by simp) fun w6 oc6 x6 s6 => ?_
      simp only [List.set_cons_zero, List.set_cons_succ] at oc6
      have z6 := x6.size
      have ov6 := o5.ext x6 (fun b hb h => by omega)
      have x26 : gA w3 w6 (fun y => pc ≤ y) := ((x4.mono fun _ _ h => h.elim).seq (x5.mono fun y _ h => by omega)).seq (x6.mono fun y _ h => by omega)
      have x16 : gA w w6 (fun y => y = hi ∨ pc ≤ y) := x12.seq (x26.mono fun y _ h => .inr h)
      have o66 := o62.ext x26 (by omega)
      have hf6 := hf2.ext x26 (fun b _ _ => by omega) hlh
      have hsz : pc < w6.heap.size := oc6.lt
      rw [show (ps.map (Value.int .i64) ++ [Value.int .i64 ((x : Int) - 1)]) = (ps ++ [(x : Int) - 1]).map (Value.int .i64) from by simp] at ov6
      have hwl : IntKind.i64.wrap (left : Int) = left := eM (by omega) (by omega)
      have tail : ∀ (ps' : List Int) (st' left' : Nat) (a : Option Addr) (cc : Nat) (w' : World), (if sym < ps'.length then .error 11 else Ei (fU l) sym m st' left' ps') = res → ps'.length ≤ 10000000 → left' ≤ 32768 → st < st' → st' ≤ 8 * l.length →
          iE w' p6 [.int .i64 0, .slice none 0 0] → iE w' pc [.int .i64 log, .slice a ps'.length cc] → yL w' (pc + 1) 1 (.slice a ps'.length cc) ps'.length (ps'.map (Value.int .i64)) → E1 w' lo hi l st' → gA w w' (fun y => y = hi ∨ pc ≤ y) →
          lP (fun _ _ _ _ fV w'' => ∃ m', m' < m + 1 ∧ ∃ (st left : Nat) (ps : List Int) (v : Value), fV = .int .i64 left ∧ Ei (fU l) sym m' st left ps = res ∧ (fU l).length < m' + st ∧ st ≤ 8 * l.length ∧ left ≤ 32768 ∧ ps.length ≤ 1000000 ∧
            iE w'' p6 [.int .i64 0, .slice none 0 0] ∧ iE w'' pc [.int .i64 log, v] ∧ yL w'' (pc + 1) 1 v ps.length (ps.map (Value.int .i64)) ∧ E1 w'' lo hi l st ∧ gA w w'' (fun y => y = hi ∨ pc ≤ y)) RR
            (.int .i64 sym) (.pointer (some ⟨p6, 0, none⟩)) (.pointer (some ⟨hi, 0, none⟩)) (.pointer (some ⟨pc, 0, none⟩)) (.int .i64 left') w' := by
        intro ps' st' left' a cc w' q1 q2 q3 q4 q5 q6 q7 q8 q9 q10
        have c1 := q7.cell (off := 1)
        simp only [List.getElem?_cons_zero, List.getElem?_cons_succ] at c1
        unfold lP
        by_cases hgt : sym < ps'.length
        · have d1 : decide ((sym : Int) < (ps'.length : Int)) = true := by simp; omega
          rw [if_pos hgt] at q1
          simp (disch := omega) only [cJ, aE, Nat.zero_add, bF, aD, dJ, c1, cW, dK, fM, d1, fG, eS, if_true, cY, dW]
          exact vU (RR := RR) (e := 11) q6 (hx1 q10) hlp fun w' h => hE _ _ q1.symm h
        · have d1 : decide ((sym : Int) < (ps'.length : Int)) = false := by simp; omega
          have d2 : decide ((left' : Int) < 0) = false := by simp
          rw [if_neg hgt] at q1
          simp (disch := omega) only [cJ, aE, Nat.zero_add, bF, aD, dJ, c1, cW, dK, fM, d1, eZ, eS, Bool.false_eq_true, if_false, eD, fB, d2, cQ]
          exact ⟨m, by omega, st', left', ps', _, rfl, q1, by omega, q5, q3, by omega, q6, q7, q8, q9, q10⟩
      by_cases h1 : x = 1
      · subst h1
        have n2 : (((1 : Nat) : Int) - 1 == 0) = true := rfl
        obtain rfl : pq = 0 := by
          have : gD (((1 : Nat) : Int) - 1) = 0 := rfl
          omega
        rw [if_pos rfl] at hr
        simp (disch := omega) only [n2, cY]
        refine (Ge hf6 hlh (by omega) hl).mono ?_
        rintro r w7 ⟨hv7, x7⟩
        have x17 : gA w w7 (fun y => y = hi ∨ pc ≤ y) := x16.seq (x7.mono fun y _ h => .inl h)
        have o67 := o66.ext x7 (by omega)
        have oc7 := oc6.ext x7 (by omega)
        have ov7 := ov6.ext x7 (fun b hb h => by omega)
        have z7 := x7.size
        cases hno : EZ (fU l) ((fU l).length + 1) st1 with
        | none =>
          rw [hno] at hr hv7
          obtain rfl := hv7
          have n1 : ((10 : Int) != 0) = true := rfl
          simp (disch := omega) only [lG, lH, aD, fP, n1, cY]
          exact vU (RR := RR) (e := 10) o67 (hx1 x17) hlp fun w' h => hE _ _ hr.symm h
        | some y =>
          obtain ⟨k, st2⟩ := y
          rw [hno] at hr hv7
          simp only at hr
          obtain ⟨rfl, hf7⟩ := hv7
          obtain ⟨k1, k2, k3⟩ := Hc hno
          have n1 : ((0 : Int) != 0) = false := rfl
          by_cases hgt : sym < k
          · have d1 : decide ((sym : Int) < (k : Int)) = true := by simp; omega
            rw [if_pos (by omega)] at hr
            simp (disch := omega) only [lG, lH, aD, fP, n1, cQ, fM, d1, cY]
            exact vU (RR := RR) (e := 11) o67 (hx1 x17) hlp fun w' h => hE _ _ hr.symm h
          · have d1 : decide ((sym : Int) < (k : Int)) = false := by simp; omega
            have c7 := oc7.cell (off := 1)
            simp only [List.getElem?_cons_zero, List.getElem?_cons_succ] at c7
            simp (disch := omega) only [lG, lH, aD, fP, n1, cQ, fM, d1, c7, cW]
            refine HA (m := k) ov7 (by omega) (by omega) fun v8 w8 o8 x8 => ?_
            obtain ⟨av8, cv8, rfl⟩ := o8.len
            have z8 := x8.size
            refine DI (oc7.ext x8 (by omega)) rfl (by simp) fun w9 oc9 x9 s9 => ?_
            simp only [List.set_cons_zero, List.set_cons_succ] at oc9
            have z9 := x9.size
            have x79 : gA w7 w9 (fun y => pc ≤ y) := (x8.mono fun y _ h => by omega).seq (x9.mono fun y _ h => by omega)
            have ov9 := o8.ext x9 (fun b hb h => by omega)
            have hlk : ps.length + 1 + k = (ps ++ 0 :: List.replicate k 0).length := by simp; omega
            have hmk : List.map (Value.int .i64) (ps ++ [((1 : Nat) : Int) - 1]) ++ List.replicate k (Value.int .i64 0) = (ps ++ 0 :: List.replicate k 0).map (Value.int .i64) := by simp
            rw [hmk, hlk] at ov9
            rw [hlk] at hr oc9
            refine tail _ st2 left _ _ w9 hr (by rw [← hlk]; omega) hleft (by omega) (by omega) (o67.ext x79 (by omega)) oc9 ov9 (hf7.ext x79 (fun b _ _ => by omega) hlh) (x17.seq (x79.mono fun y _ h => .inr h))
      · have n2 : ((x : Int) - 1 == 0) = false := beq_eq_false_iff_ne.2 (by omega)
        rw [if_neg h1] at hr
        simp (disch := omega) only [n2, cQ]
        rw [show ps.length + 1 = (ps ++ [(x : Int) - 1]).length from by simp] at hr ov6 oc6
        exact tail _ st1 _ _ _ w6 hr (by simp; omega) (by omega) b1 (by omega) o66 oc6 ov6 hf6 x16
theorem Fq {bv : Value} {l : List UInt8} {most : Int} {sym : Nat} {w : World} (hb : Bs w bv l) (hl : l.length ≤ 1000000) (hsym : sym ≤ 1000000) :
    gH pg pZ #[bv, .int .i64 most, .int .i64 sym] w (fun r w' => EF w' w.heap.size (uT (fU l) most sym) r ∧ gA w w' jQ) := by
  refine BB ?_
  obtain ⟨RR, hRR⟩ : ∃ RR : Value → World → Prop, RR = fun r w' => EF w' w.heap.size (uT (fU l) most sym) r ∧ gA w w' jQ := ⟨_, rfl⟩
  rw [← hRR]
  have hbl := mC l
  unfold B9 qG qE
  refine kK fun w1 o1 x1 s1 => ?_
  refine (DX (hb.ext x1 (iM _)) (by omega)).mono ?_
  rintro r w2 ⟨hi, rfl, hi1, hi2, hf2, x2⟩
  have z1 := x1.size
  have z2 := x2.size
  simp (disch := omega) only [cJ, bF, aD]
  refine (yD (n := 4) hf2 hi1 (by omega) (by omega) hl).mono ?_
  rintro r w3 (⟨hsh, rfl, hf3, x3⟩ | ⟨hsh, rfl, hf3, x3⟩)
  · have n1 : ((10 : Int) != 0) = true := rfl
    have hrl : uT (fU l) most sym = .error 10 := by unfold uT; rw [if_pos (by omega)]
    rw [hrl] at hRR
    simp (disch := omega) only [lG, lH, aD, fP, n1, cY]
    exact vU (RR := RR) (e := 10) ((o1.ext x2 (fun h => h)).ext x3 (fun h => h)) ((x1.seq x2).seq x3) (Nat.le_refl _) fun w' h => by rw [hRR]; exact ⟨rfl, h⟩
  · have n1 : ((0 : Int) != 0) = false := rfl
    have hnum : sI (((fU l).drop 0).take 4) = kD (fU l) 0 4 := rfl
    have hlt := xK (fU l) 0 4
    have hrl : uT (fU l) most sym = (if most < ((kD (fU l) 0 4 + 5 : Nat) : Int) ∨ 15 < kD (fU l) 0 4 + 5 then .error 12 else match Ei (fU l) sym ((fU l).length + 1) 4 (2 ^ (kD (fU l) 0 4 + 5)) [] with
      | .error e => .error e
      | .ok (ps, st) => .ok (kD (fU l) 0 4 + 5, ps, (st + 7) / 8)) := by unfold uT; rw [if_neg (by omega)] <;> rfl
    rw [hrl] at hRR
    rw [hnum]
    generalize kD (fU l) 0 4 = x at *
    have e1 : (x : Int) + 5 = ((x + 5 : Nat) : Int) := by omega
    have x03 : gA w w3 jQ := (x1.seq x2).trans x3 fun b hb h => by omega
    have o13 := (o1.ext x2 (fun h => h)).ext x3 (by omega)
    simp (disch := omega) only [lG, lH, aD, fP, n1, cQ, cN, eM, fH, e1, bE]
    refine kK fun w4 o4 x4 s4 => ?_
    refine iA o4 rfl (by simp [one]) (by simp) fun w5 o5 x5 s5 => ?_
    simp only [gC, List.set_cons_zero, List.set_cons_succ] at o5
    have z3 := x3.size
    have z4 := x4.size
    have x05 : gA w w5 jQ := (x03.seq x4).new x5 (by omega)
    have x35 : gA w3 w5 jQ := x4.new x5 (by omega)
    have o15 := o13.ext x35 (fun h => h)
    have c5 := o5.cell (off := 0)
    simp only [List.getElem?_cons_zero, List.getElem?_cons_succ] at c5
    by_cases hmo : most < ((x + 5 : Nat) : Int)
    · have d1 : decide (most < ((x + 5 : Nat) : Int)) = true := by simpa using hmo
      rw [if_pos (.inl hmo)] at hRR
      simp (disch := omega) only [aI, aD, eE, c5, cW, fM, d1, fG, eS, if_true, cY, dW]
      exact vU (RR := RR) (e := 12) o15 x05 (Nat.le_refl _) fun w' h => by rw [hRR]; exact ⟨rfl, h⟩
    have d1 : decide (most < ((x + 5 : Nat) : Int)) = false := by simpa using hmo
    by_cases h15 : 15 < x + 5
    · have d2 : decide ((15 : Int) < ((x + 5 : Nat) : Int)) = true := by simp; omega
      rw [if_pos (.inr h15)] at hRR
      simp (disch := omega) only [aI, aD, eE, c5, cW, fM, d1, eZ, eS, Bool.false_eq_true, if_false, eD, d2, fZ, Int.toNat_natCast, cY]
      exact vU (RR := RR) (e := 12) o15 x05 (Nat.le_refl _) fun w' h => by rw [hRR]; exact ⟨rfl, h⟩
    have d2 : decide ((15 : Int) < ((x + 5 : Nat) : Int)) = false := by simp; omega
    rw [if_neg (by omega)] at hRR
    have hsh := H6 (n := x + 5) (by omega)
    simp (disch := omega) only [aI, aD, eE, c5, cW, fM, d1, eZ, eS, Bool.false_eq_true, if_false, eD, d2, fZ, Int.toNat_natCast, hsh, cQ]
    have hl5 := o5.lt
    refine F7 (l := l) (w0 := w) (log := x + 5) (res := Ei (fU l) sym ((fU l).length + 1) 4 (2 ^ (x + 5)) []) (lo := w1.heap.size) hi1 (Nat.le_refl _) hl (by omega) (by omega) hsym (by omega) o15 o5 (hf3.ext x35 (fun _ _ _ h => h) hi1) (by omega) x05 rfl ?_ ?_
    · intro e w' he hx
      rw [hRR, he]
      exact ⟨rfl, hx⟩
    · intro ps st v w' he ho hx
      rw [hRR, he]
      exact ⟨⟨v, rfl, ho⟩, hx⟩
end Go.Proofs.YtoepfjgekpdddaaDoor
namespace Go.Pu
open Go Go.En
set_option linter.unusedVariables false
theorem GI {L : List Bool} {most : Int} {sym log used : Nat} {ps : List Int} (h : uT L most sym = .ok (log, ps, used)) : (ps.length ≤ 256 → E0 log ps) ∧ (log : Int) ≤ most ∧ ps.length ≤ sym := by
  unfold uT at h
  split at h
  · cases h
  · simp only at h
    split at h
    · cases h
    · rename_i h1 h2
      have hpow : ((2 ^ (kD L 0 4 + 5) : Nat) : Int) = (2 : Int) ^ (kD L 0 4 + 5) := by simp
      have hp := Nat.two_pow_pos (kD L 0 4 + 5)
      cases hr : Ei L sym (L.length + 1) 4 (2 ^ (kD L 0 4 + 5)) [] with
      | error e => rw [hr] at h; cases h
      | ok x =>
        obtain ⟨p, st⟩ := x
        rw [hr] at h
        cases h
        have e0 : vG [] = 0 := rfl
        obtain ⟨q1, q2, q3, q4, q5⟩ := BQ (tot := (2 : Int) ^ (kD L 0 4 + 5)) hr (by simp) (by rw [e0, hpow]; omega) (fun h => by omega)
        exact ⟨fun hs => ⟨by omega, by omega, q5, hs, q4, q1, q2⟩, by omega, q3⟩
theorem DT {L : List Bool} {sym : Nat} {e : Int} : ∀ {f st left : Nat} {ps : List Int}, Ei L sym f st left ps = .error e → e = 10 ∨ e = 11
  | 0, st, left, ps, h => by cases h; exact .inl rfl
  | f + 1, st, left, ps, h => by
    rw [Ei] at h
    split at h
    · cases h
    · split at h
      · cases h; exact .inl rfl
      · split at h
        · split at h
          · cases h; exact .inl rfl
          · split at h
            · cases h; exact .inr rfl
            · exact DT h
        · split at h
          · cases h; exact .inr rfl
          · exact DT h
theorem Gb {L : List Bool} {most : Int} {sym : Nat} {e : Int} (h : uT L most sym = .error e) : e ≠ 0 := by
  unfold uT at h
  split at h
  · cases h; decide
  · simp only at h
    split at h
    · cases h; decide
    · split at h
      · rename_i hr
        cases h
        rcases DT hr with h | h <;> omega
      · cases h
end Go.Pu
namespace Go.Proofs.YtoepfjgekpdddaaDoor
open Go Go.En Go.Pu
set_option maxRecDepth 4000
set_option linter.unusedSimpArgs false
set_option linter.unusedVariables false
def A3 (w : World) (base : Nat) (T : Nat × List T3) (v : Value) : Prop := (T = (0, []) ∧ v = .agg #[.int .i64 0, .slice none 0 0]) ∨ ∃ b, Hk w base b T.1 T.2 v
theorem A3.nil (w : World) (base : Nat) : A3 w base (0, []) (.agg #[.int .i64 0, .slice none 0 0]) := .inl ⟨rfl, rfl⟩
theorem A3.form {w : World} {base : Nat} {T : Nat × List T3} {v : Value} (h : A3 w base T v) : ∃ a, v = .agg #[.int .i64 T.1, .slice a T.2.length T.2.length] := by
  rcases h with ⟨rfl, rfl⟩ | ⟨b, rfl, _⟩
  · exact ⟨_, rfl⟩
  · exact ⟨_, rfl⟩
theorem A3.ext {w w' : World} {base : Nat} {T : Nat × List T3} {v : Value} {M : Nat → Prop} (h : A3 w base T v) (x : gA w w' M) (hM : ∀ b, base ≤ b → b < w.heap.size → ¬ M b) : A3 w' base T v := by
  rcases h with h | ⟨b, h⟩
  · exact .inl h
  · have hb := h.2.1
    have hl := h.2.2.lt
    exact .inr ⟨b, h.ext x (hM b hb hl)⟩
def Ix (w : World) (base : Nat) (o : Except Int ((Nat × List T3) × Nat)) (r : Value) : Prop := match o with
  | .error e => r = .tuple #[.agg #[.int .i64 0, .slice none 0 0], .int .i64 0, .int .i64 e]
  | .ok (T, n) => ∃ t, r = .tuple #[t, .int .i64 n, .int .i64 0] ∧ A3 w base T t
def jJ (a mode : Int) (l : List UInt8) (old : Nat × List T3) : Except Int ((Nat × List T3) × Nat) :=
  if a < 0 ∨ 2 < a ∨ mode < 0 ∨ 3 < mode then .error 1
  else if mode = 0 then .ok ((Dp a, jI (Dp a) (EE a)), 0)
  else if mode = 1 then match l with
    | [] => .error 10
    | x :: _ => if nA a < (x.toNat : Int) then .error 11 else .ok ((0, [((x.toNat : Nat), 0, 0)]), 1)
  else if mode = 3 then if old.2 = [] then .error 11 else .ok (old, 0)
  else match uT (fU l) (C6 a) (nA a + 1).toNat with
    | .error e => .error e
    | .ok (lg, ps, u) => .ok ((lg, jI lg ps), u)
theorem rS {p : Nat} {w0 w : World} {x : Int} {a : Option Addr} {k c : Nat} {n e : Value} (o : iE w p [.int .i64 0, .slice none 0 0]) (hx : gA w0 w jQ) (hp : w0.heap.size ≤ p) {RR : Value → World → Prop}
    (hR : ∀ w', gA w0 w' jQ → gA w w' (fun y => y = p) → RR (.tuple #[.agg #[.int .i64 x, .slice a k c], n, e]) w') :
    cJ pg (fC 26 (.pointer (some ⟨p, 0, none⟩)) (.agg #[.int .i64 x, .slice a k c])) w fun _u w => zN pg 26 (.pointer (some ⟨p, 0, none⟩)) w fun r0 => RR (.tuple #[r0, n, e]) w := by
  refine gK o rfl (by simp [one]) (by simp) fun w6 o6 x6 s6 => ?_
  refine kS o6 (by simp [gC]) ?_
  simp only [gC, List.set_cons_zero, List.set_cons_succ, List.drop_zero, List.take_succ_cons, List.take_zero]
  exact hR _ (hx.new x6 hp) x6
theorem GO {a : Int} (h : 0 ≤ a ∧ a ≤ 2) : 28 ≤ nA a ∧ nA a ≤ 60 := by
  unfold nA
  split
  · omega
  · split
    · omega
    · rw [if_pos (by omega)]; omega
theorem Hb {a : Int} (h : ¬ (0 ≤ a ∧ a ≤ 2)) : nA a = -1 := by
  unfold nA
  rw [if_neg (by omega), if_neg (by omega), if_neg (by omega)]
theorem DY {a mode : Int} {bv ov : Value} {l : List UInt8} {T : Nat × List T3} {base : Nat} {w : World} (hg : xA w) (hb : Bs w bv l) (hl : mode = 2 → l.length ≤ 1000000) (ho : A3 w base T ov) (hbase : base ≤ w.heap.size) (hlb : l.length ≤ 9223372036854775807) (hT : T.2.length ≤ 1000000) :
    gH pg kR #[.int .i64 a, .int .i64 mode, bv, ov] w (fun r w' => Ix w' base (jJ a mode l T) r ∧ gA w w' jQ) := by
  refine BE ?_
  obtain ⟨RR, hRR⟩ : ∃ RR : Value → World → Prop, RR = fun r w' => Ix w' base (jJ a mode l T) r ∧ gA w w' jQ := ⟨_, rfl⟩
  rw [← hRR]
  obtain ⟨oa, rfl⟩ := ho.form
  obtain ⟨ba, bc, rfl, _⟩ := hb.len
  rw [List.length_map] at hb
  rw [List.length_map]
  unfold Ca rM
  refine wC fun w1 o1 x1 s1 => ?_
  simp only [Value.cells] at o1
  refine hX fun w2 o2 x2 s2 => ?_
  have x12 := x1.seq x2
  have z2 := x12.size
  refine (It (hg.ext x12)).mono ?_
  rintro r w3 ⟨rfl, x3⟩
  have o1 := (o1.ext x2 (fun h => h)).ext x3 (fun h => h)
  have o2 := o2.ext x3 (fun h => h)
  have x13 := x12.seq x3
  have z3 := x3.size
  have hg3 := hg.ext x13
  have err : ∀ {e : Int} {w' : World}, jJ a mode l T = .error e → gA w w' jQ → RR (.tuple #[.agg #[.int .i64 0, .slice none 0 0], .int .i64 0, .int .i64 e]) w' := fun h x => by
    rw [hRR]; refine ⟨?_, x⟩; rw [h] <;> rfl
  have good : ∀ {T' : Nat × List T3} {n : Nat} {w' : World} {t : Value}, jJ a mode l T = .ok (T', n) → A3 w' base T' t → gA w w' jQ → RR (.tuple #[t, .int .i64 n, .int .i64 0]) w' := fun h ht x => by
    rw [hRR]; refine ⟨?_, x⟩; rw [h]; exact ⟨_, rfl, ht⟩
  by_cases ha : 0 ≤ a ∧ a ≤ 2
  rotate_left
  · have d1 : decide (nA a < 0) = true := by rw [Hb ha] <;> rfl
    have hE : jJ a mode l T = .error 1 := by unfold jJ; rw [if_pos (by omega)]
    simp (disch := omega) only [cJ, hP, aD, dP, fH, fR, gQ, gN, gI, gR, iR, gT, eC, fZ, fY, gB, fP, fB, gU, fM, gG, gS, gX, gM, eS, gZ, gP, gF, lG, lH, oZ, oR, oY, oX, oU, oT, oS, cW, Result.ok.injEq, Next.value.injEq, true_and, and_true, eM, gE, gY, gV, gW, iO, Int.toNat_natCast, fO, fG, fN, eZ, eD, dW, eU, eB, cY, cQ, if_true, if_false, Bool.false_eq_true, Nat.zero_add, Option.isNone_some, Option.isNone_none, Bool.not_true, Bool.not_false, List.getElem?_cons_succ, List.getElem?_cons_zero, cR, aZ, bU, bW, bV, bC, eA, dE, dH, cX, aI, eE, bO, aE, dJ, dK, dL, dD, bK, bN, cF, bA, cE, cI, bF, cM, cK, cV, cL, cC, bZ, cH, dQ, bY, cS, dU, bQ, dB, aX, cG, dV, bG, aQ, aN, aM, aJ, aP, aS, aC, cN, bE, cZ, bS, cD, cU, aR, aW, aV, aY, aU, aL, aH, aB, dA, aG, aF, bM, bB, bJ, dF, bD, cA, bH, bT, bR, aK, dT, aT, dN, dO, aO, cB, bX, dM, eT, d1]
    exact rS o2 x13 (by omega) fun w' x _ => err hE x
  obtain ⟨hl1, hl2⟩ := GO ha
  have d1 : decide (nA a < 0) = false := by simp; omega
  by_cases hm0 : mode < 0
  · have d2 : decide (mode < 0) = true := by simp; omega
    have hE : jJ a mode l T = .error 1 := by unfold jJ; rw [if_pos (by omega)]
    simp (disch := omega) only [cJ, hP, aD, dP, fH, fR, gQ, gN, gI, gR, iR, gT, eC, fZ, fY, gB, fP, fB, gU, fM, gG, gS, gX, gM, eS, gZ, gP, gF, lG, lH, oZ, oR, oY, oX, oU, oT, oS, cW, Result.ok.injEq, Next.value.injEq, true_and, and_true, eM, gE, gY, gV, gW, iO, Int.toNat_natCast, fO, fG, fN, eZ, eD, dW, eU, eB, cY, cQ, if_true, if_false, Bool.false_eq_true, Nat.zero_add, Option.isNone_some, Option.isNone_none, Bool.not_true, Bool.not_false, List.getElem?_cons_succ, List.getElem?_cons_zero, cR, aZ, bU, bW, bV, bC, eA, dE, dH, cX, aI, eE, bO, aE, dJ, dK, dL, dD, bK, bN, cF, bA, cE, cI, bF, cM, cK, cV, cL, cC, bZ, cH, dQ, bY, cS, dU, bQ, dB, aX, cG, dV, bG, aQ, aN, aM, aJ, aP, aS, aC, cN, bE, cZ, bS, cD, cU, aR, aW, aV, aY, aU, aL, aH, aB, dA, aG, aF, bM, bB, bJ, dF, bD, cA, bH, bT, bR, aK, dT, aT, dN, dO, aO, cB, bX, dM, eT, d1, d2]
    exact rS o2 x13 (by omega) fun w' x _ => err hE x
  have d2 : decide (mode < 0) = false := by simp; omega
  by_cases hm3 : 3 < mode
  · have d3 : decide (3 < mode) = true := by simp; omega
    have hE : jJ a mode l T = .error 1 := by unfold jJ; rw [if_pos (by omega)]
    simp (disch := omega) only [cJ, hP, aD, dP, fH, fR, gQ, gN, gI, gR, iR, gT, eC, fZ, fY, gB, fP, fB, gU, fM, gG, gS, gX, gM, eS, gZ, gP, gF, lG, lH, oZ, oR, oY, oX, oU, oT, oS, cW, Result.ok.injEq, Next.value.injEq, true_and, and_true, eM, gE, gY, gV, gW, iO, Int.toNat_natCast, fO, fG, fN, eZ, eD, dW, eU, eB, cY, cQ, if_true, if_false, Bool.false_eq_true, Nat.zero_add, Option.isNone_some, Option.isNone_none, Bool.not_true, Bool.not_false, List.getElem?_cons_succ, List.getElem?_cons_zero, cR, aZ, bU, bW, bV, bC, eA, dE, dH, cX, aI, eE, bO, aE, dJ, dK, dL, dD, bK, bN, cF, bA, cE, cI, bF, cM, cK, cV, cL, cC, bZ, cH, dQ, bY, cS, dU, bQ, dB, aX, cG, dV, bG, aQ, aN, aM, aJ, aP, aS, aC, cN, bE, cZ, bS, cD, cU, aR, aW, aV, aY, aU, aL, aH, aB, dA, aG, aF, bM, bB, bJ, dF, bD, cA, bH, bT, bR, aK, dT, aT, dN, dO, aO, cB, bX, dM, eT, d1, d2, d3]
    exact rS o2 x13 (by omega) fun w' x _ => err hE x
  have d3 : decide (3 < mode) = false := by simp; omega
  have hno : ¬ (a < 0 ∨ 2 < a ∨ mode < 0 ∨ 3 < mode) := by omega
  by_cases m0 : mode = 0
  · subst m0
    have n1 : ((0 : Int) == 0) = true := rfl
    have hE : jJ a 0 l T = .ok ((Dp a, jI (Dp a) (EE a)), 0) := by unfold jJ; rw [if_neg hno, if_pos rfl]
    simp (disch := omega) only [cJ, hP, aD, dP, fH, fR, gQ, gN, gI, gR, iR, gT, eC, fZ, fY, gB, fP, fB, gU, fM, gG, gS, gX, gM, eS, gZ, gP, gF, lG, lH, oZ, oR, oY, oX, oU, oT, oS, cW, Result.ok.injEq, Next.value.injEq, true_and, and_true, eM, gE, gY, gV, gW, iO, Int.toNat_natCast, fO, fG, fN, eZ, eD, dW, eU, eB, cY, cQ, if_true, if_false, Bool.false_eq_true, Nat.zero_add, Option.isNone_some, Option.isNone_none, Bool.not_true, Bool.not_false, List.getElem?_cons_succ, List.getElem?_cons_zero, cR, aZ, bU, bW, bV, bC, eA, dE, dH, cX, aI, eE, bO, aE, dJ, dK, dL, dD, bK, bN, cF, bA, cE, cI, bF, cM, cK, cV, cL, cC, bZ, cH, dQ, bY, cS, dU, bQ, dB, aX, cG, dV, bG, aQ, aN, aM, aJ, aP, aS, aC, cN, bE, cZ, bS, cD, cU, aR, aW, aV, aY, aU, aL, aH, aB, dA, aG, aF, bM, bB, bJ, dF, bD, cA, bH, bT, bR, aK, dT, aT, dN, dO, aO, cB, bX, dM, eT, d1, d2, d3, n1]
    refine (yG hg3).mono ?_
    rintro r w4 ⟨t, e, rfl, ht, x4⟩
    unfold yS AX at ht
    rw [if_pos (by omega)] at ht
    obtain ⟨⟨b, ht, hb1, ob⟩, rfl⟩ := ht
    subst ht
    have z4 := x4.size
    simp (disch := omega) only [cJ, hP, aD, dP, fH, fR, gQ, gN, gI, gR, iR, gT, eC, fZ, fY, gB, fP, fB, gU, fM, gG, gS, gX, gM, eS, gZ, gP, gF, lG, lH, oZ, oR, oY, oX, oU, oT, oS, cW, Result.ok.injEq, Next.value.injEq, true_and, and_true, eM, gE, gY, gV, gW, iO, Int.toNat_natCast, fO, fG, fN, eZ, eD, dW, eU, eB, cY, cQ, if_true, if_false, Bool.false_eq_true, Nat.zero_add, Option.isNone_some, Option.isNone_none, Bool.not_true, Bool.not_false, List.getElem?_cons_succ, List.getElem?_cons_zero, cR, aZ, bU, bW, bV, bC, eA, dE, dH, cX, aI, eE, bO, aE, dJ, dK, dL, dD, bK, bN, cF, bA, cE, cI, bF, cM, cK, cV, cL, cC, bZ, cH, dQ, bY, cS, dU, bQ, dB, aX, cG, dV, bG, aQ, aN, aM, aJ, aP, aS, aC, cN, bE, cZ, bS, cD, cU, aR, aW, aV, aY, aU, aL, aH, aB, dA, aG, aF, bM, bB, bJ, dF, bD, cA, bH, bT, bR, aK, dT, aT, dN, dO, aO, cB, bX, dM, eT]
    refine hX fun w5 o5 x5 s5 => ?_
    refine gK o5 rfl (by simp [one]) (by simp) fun w6 o6 x6 s6 => ?_
    have l1 := mK (off := 0) o6 (by simp [gC])
    simp only [gC, List.set_cons_zero, List.set_cons_succ, List.drop_zero, List.take_succ_cons, List.take_zero] at l1
    have hbl := ob.lt
    simp (disch := omega) only [cJ, hP, aD, dP, fH, fR, gQ, gN, gI, gR, iR, gT, eC, fZ, fY, gB, fP, fB, gU, fM, gG, gS, gX, gM, eS, gZ, gP, gF, lG, lH, oZ, oR, oY, oX, oU, oT, oS, cW, Result.ok.injEq, Next.value.injEq, true_and, and_true, eM, gE, gY, gV, gW, iO, Int.toNat_natCast, fO, fG, fN, eZ, eD, dW, eU, eB, cY, cQ, if_true, if_false, Bool.false_eq_true, Nat.zero_add, Option.isNone_some, Option.isNone_none, Bool.not_true, Bool.not_false, List.getElem?_cons_succ, List.getElem?_cons_zero, cR, aZ, bU, bW, bV, bC, eA, dE, dH, cX, aI, eE, bO, aE, dJ, dK, dL, dD, bK, bN, cF, bA, cE, cI, bF, cM, cK, cV, cL, cC, bZ, cH, dQ, bY, cS, dU, bQ, dB, aX, cG, dV, bG, aQ, aN, aM, aJ, aP, aS, aC, cN, bE, cZ, bS, cD, cU, aR, aW, aV, aY, aU, aL, aH, aB, dA, aG, aF, bM, bB, bJ, dF, bD, cA, bH, bT, bR, aK, dT, aT, dN, dO, aO, cB, bX, dM, eT, l1]
    have x46 : gA w3 w6 jQ := x4.seq (x5.new x6 (Nat.le_refl _))
    refine rS (o2.ext x46 (fun h => h)) (x13.seq x46) (by omega) fun w' x x7 => good hE (.inr ⟨b, rfl, by omega, ?_⟩) x
    exact ((ob.ext x5 (fun h => h)).ext x6 (by omega)).ext x7 (by omega)
  have n1 : (mode == 0) = false := beq_eq_false_iff_ne.2 m0
  by_cases m1 : mode = 1
  · subst m1
    have n2 : ((1 : Int) == 1) = true := rfl
    cases l with
    | nil =>
      have hE : jJ a 1 [] T = .error 10 := by unfold jJ; rw [if_neg hno, if_neg (by omega), if_pos rfl]
      have n3 : ((0 : Int) == 0) = true := rfl
      have e0 : ((([] : List UInt8).length : Nat) : Int) = 0 := rfl
      simp (disch := omega) only [cJ, hP, aD, dP, fH, fR, gQ, gN, gI, gR, iR, gT, eC, fZ, fY, gB, fP, fB, gU, fM, gG, gS, gX, gM, eS, gZ, gP, gF, lG, lH, oZ, oR, oY, oX, oU, oT, oS, cW, Result.ok.injEq, Next.value.injEq, true_and, and_true, eM, gE, gY, gV, gW, iO, Int.toNat_natCast, fO, fG, fN, eZ, eD, dW, eU, eB, cY, cQ, if_true, if_false, Bool.false_eq_true, Nat.zero_add, Option.isNone_some, Option.isNone_none, Bool.not_true, Bool.not_false, List.getElem?_cons_succ, List.getElem?_cons_zero, cR, aZ, bU, bW, bV, bC, eA, dE, dH, cX, aI, eE, bO, aE, dJ, dK, dL, dD, bK, bN, cF, bA, cE, cI, bF, cM, cK, cV, cL, cC, bZ, cH, dQ, bY, cS, dU, bQ, dB, aX, cG, dV, bG, aQ, aN, aM, aJ, aP, aS, aC, cN, bE, cZ, bS, cD, cU, aR, aW, aV, aY, aU, aL, aH, aB, dA, aG, aF, bM, bB, bJ, dF, bD, cA, bH, bT, bR, aK, dT, aT, dN, dO, aO, cB, bX, dM, eT, d1, d2, d3, n1, n2, e0, n3]
      exact rS o2 x13 (by omega) fun w' x _ => err hE x
    | cons y l =>
      have n3 : ((((y :: l).length : Nat) : Int) == 0) = false := by simp; omega
      obtain ⟨b, off, c, hv, _, hcell⟩ := (hb.ext x13 (iM _)).openV (by simp)
      have g1 := hcell 0 (by simp)
      simp only [List.map_cons, List.getElem_cons_zero, Nat.add_zero] at g1
      simp only [List.length_map, Value.slice.injEq] at hv
      obtain ⟨rfl, _, rfl⟩ := hv
      have t0 : (0 : Int).toNat = 0 := rfl
      have g0 : (w3.cell? ⟨b, off, none⟩) = some (.int .u8 (y.toNat : Nat)) := g1
      have hy := y.toNat_lt
      have hpos : (0 : Int) < ((y :: l).length : Nat) := by rw [List.length_cons]; omega
      by_cases hyl : nA a < (y.toNat : Int)
      · have d4 : decide (nA a < (y.toNat : Int)) = true := by simpa using hyl
        have hE : jJ a 1 (y :: l) T = .error 11 := by unfold jJ; rw [if_neg hno, if_neg (by omega), if_pos rfl]; exact if_pos hyl
        simp (disch := omega) only [cJ, hP, aD, dP, fH, fR, gQ, gN, gI, gR, iR, gT, eC, fZ, fY, gB, fP, fB, gU, fM, gG, gS, gX, gM, eS, gZ, gP, gF, lG, lH, oZ, oR, oY, oX, oU, oT, oS, cW, Result.ok.injEq, Next.value.injEq, true_and, and_true, eM, gE, gY, gV, gW, iO, Int.toNat_natCast, fO, fG, fN, eZ, eD, dW, eU, eB, cY, cQ, if_true, if_false, Bool.false_eq_true, Nat.zero_add, Option.isNone_some, Option.isNone_none, Bool.not_true, Bool.not_false, List.getElem?_cons_succ, List.getElem?_cons_zero, cR, aZ, bU, bW, bV, bC, eA, dE, dH, cX, aI, eE, bO, aE, dJ, dK, dL, dD, bK, bN, cF, bA, cE, cI, bF, cM, cK, cV, cL, cC, bZ, cH, dQ, bY, cS, dU, bQ, dB, aX, cG, dV, bG, aQ, aN, aM, aJ, aP, aS, aC, cN, bE, cZ, bS, cD, cU, aR, aW, aV, aY, aU, aL, aH, aB, dA, aG, aF, bM, bB, bJ, dF, bD, cA, bH, bT, bR, aK, dT, aT, dN, dO, aO, cB, bX, dM, eT, d1, d2, d3, n1, n2, n3, t0, Nat.add_zero, g0, d4, hpos]
        exact rS o2 x13 (by omega) fun w' x _ => err hE x
      · have d4 : decide (nA a < (y.toNat : Int)) = false := by simpa using hyl
        have hE : jJ a 1 (y :: l) T = .ok ((0, [((y.toNat : Nat), 0, 0)]), 1) := by unfold jJ; rw [if_neg hno, if_neg (by omega), if_pos rfl]; exact if_neg hyl
        simp (disch := omega) only [cJ, hP, aD, dP, fH, fR, gQ, gN, gI, gR, iR, gT, eC, fZ, fY, gB, fP, fB, gU, fM, gG, gS, gX, gM, eS, gZ, gP, gF, lG, lH, oZ, oR, oY, oX, oU, oT, oS, cW, Result.ok.injEq, Next.value.injEq, true_and, and_true, eM, gE, gY, gV, gW, iO, Int.toNat_natCast, fO, fG, fN, eZ, eD, dW, eU, eB, cY, cQ, if_true, if_false, Bool.false_eq_true, Nat.zero_add, Option.isNone_some, Option.isNone_none, Bool.not_true, Bool.not_false, List.getElem?_cons_succ, List.getElem?_cons_zero, cR, aZ, bU, bW, bV, bC, eA, dE, dH, cX, aI, eE, bO, aE, dJ, dK, dL, dD, bK, bN, cF, bA, cE, cI, bF, cM, cK, cV, cL, cC, bZ, cH, dQ, bY, cS, dU, bQ, dB, aX, cG, dV, bG, aQ, aN, aM, aJ, aP, aS, aC, cN, bE, cZ, bS, cD, cU, aR, aW, aV, aY, aU, aL, aH, aB, dA, aG, aF, bM, bB, bJ, dF, bD, cA, bH, bT, bR, aK, dT, aT, dN, dO, aO, cB, bX, dM, eT, d1, d2, d3, n1, n2, n3, t0, Nat.add_zero, g0, d4, hpos]
        refine (Iy (y.toNat : Nat) _).mono ?_
        rintro r w4 ⟨b, ⟨rfl, hb1, ob⟩, x4⟩
        have z4 := x4.size
        have hbl := ob.lt
        refine rS (o2.ext x4 (fun h => h)) (x13.seq x4) (by omega) fun w' x x7 => good hE (.inr ⟨b, rfl, by omega, ?_⟩) x
        exact ob.ext x7 (by omega)
  have n2 : (mode == 1) = false := beq_eq_false_iff_ne.2 m1
  by_cases m3 : mode = 3
  · subst m3
    have n3 : ((3 : Int) == 3) = true := rfl
    have c1 := o1.cell (off := 1)
    simp only [List.getElem?_cons_zero, List.getElem?_cons_succ] at c1
    have l1 := mK (off := 0) o1 (by simp)
    simp only [List.drop_zero, List.take_succ_cons, List.take_zero] at l1
    by_cases h0 : T.2 = []
    · have n4 : (((T.2.length : Nat) : Int) == 0) = true := by rw [h0] <;> rfl
      have hE : jJ a 3 l T = .error 11 := by unfold jJ; rw [if_neg hno, if_neg (by omega), if_neg (by omega), if_pos rfl, if_pos h0]
      simp (disch := omega) only [cJ, hP, aD, dP, fH, fR, gQ, gN, gI, gR, iR, gT, eC, fZ, fY, gB, fP, fB, gU, fM, gG, gS, gX, gM, eS, gZ, gP, gF, lG, lH, oZ, oR, oY, oX, oU, oT, oS, cW, Result.ok.injEq, Next.value.injEq, true_and, and_true, eM, gE, gY, gV, gW, iO, Int.toNat_natCast, fO, fG, fN, eZ, eD, dW, eU, eB, cY, cQ, if_true, if_false, Bool.false_eq_true, Nat.zero_add, Option.isNone_some, Option.isNone_none, Bool.not_true, Bool.not_false, List.getElem?_cons_succ, List.getElem?_cons_zero, cR, aZ, bU, bW, bV, bC, eA, dE, dH, cX, aI, eE, bO, aE, dJ, dK, dL, dD, bK, bN, cF, bA, cE, cI, bF, cM, cK, cV, cL, cC, bZ, cH, dQ, bY, cS, dU, bQ, dB, aX, cG, dV, bG, aQ, aN, aM, aJ, aP, aS, aC, cN, bE, cZ, bS, cD, cU, aR, aW, aV, aY, aU, aL, aH, aB, dA, aG, aF, bM, bB, bJ, dF, bD, cA, bH, bT, bR, aK, dT, aT, dN, dO, aO, cB, bX, dM, eT, d1, d2, d3, n1, n2, n3, c1, n4]
      exact rS o2 x13 (by omega) fun w' x _ => err hE x
    · have n4 : (((T.2.length : Nat) : Int) == 0) = false := by
        have := List.length_pos_iff.2 h0
        simp; exact h0
      have hE : jJ a 3 l T = .ok (T, 0) := by unfold jJ; rw [if_neg hno, if_neg (by omega), if_neg (by omega), if_pos rfl, if_neg h0]
      simp (disch := omega) only [cJ, hP, aD, dP, fH, fR, gQ, gN, gI, gR, iR, gT, eC, fZ, fY, gB, fP, fB, gU, fM, gG, gS, gX, gM, eS, gZ, gP, gF, lG, lH, oZ, oR, oY, oX, oU, oT, oS, cW, Result.ok.injEq, Next.value.injEq, true_and, and_true, eM, gE, gY, gV, gW, iO, Int.toNat_natCast, fO, fG, fN, eZ, eD, dW, eU, eB, cY, cQ, if_true, if_false, Bool.false_eq_true, Nat.zero_add, Option.isNone_some, Option.isNone_none, Bool.not_true, Bool.not_false, List.getElem?_cons_succ, List.getElem?_cons_zero, cR, aZ, bU, bW, bV, bC, eA, dE, dH, cX, aI, eE, bO, aE, dJ, dK, dL, dD, bK, bN, cF, bA, cE, cI, bF, cM, cK, cV, cL, cC, bZ, cH, dQ, bY, cS, dU, bQ, dB, aX, cG, dV, bG, aQ, aN, aM, aJ, aP, aS, aC, cN, bE, cZ, bS, cD, cU, aR, aW, aV, aY, aU, aL, aH, aB, dA, aG, aF, bM, bB, bJ, dF, bD, cA, bH, bT, bR, aK, dT, aT, dN, dO, aO, cB, bX, dM, eT, d1, d2, d3, n1, n2, n3, c1, n4, l1]
      refine rS o2 x13 (by omega) fun w' x x7 => good hE ?_ x
      rcases ho with ⟨e, _⟩ | ⟨b, e, hb1, ob⟩
      · rw [e] at h0; exact absurd rfl h0
      · have hbl := ob.lt
        exact .inr ⟨b, e, hb1, (ob.ext x13 (fun h => h)).ext x7 (by omega)⟩
  have n3 : (mode == 3) = false := beq_eq_false_iff_ne.2 m3
  have m2 : mode = 2 := by omega
  have hl2 := hl m2
  simp (disch := omega) only [cJ, hP, aD, dP, fH, fR, gQ, gN, gI, gR, iR, gT, eC, fZ, fY, gB, fP, fB, gU, fM, gG, gS, gX, gM, eS, gZ, gP, gF, lG, lH, oZ, oR, oY, oX, oU, oT, oS, cW, Result.ok.injEq, Next.value.injEq, true_and, and_true, eM, gE, gY, gV, gW, iO, Int.toNat_natCast, fO, fG, fN, eZ, eD, dW, eU, eB, cY, cQ, if_true, if_false, Bool.false_eq_true, Nat.zero_add, Option.isNone_some, Option.isNone_none, Bool.not_true, Bool.not_false, List.getElem?_cons_succ, List.getElem?_cons_zero, cR, aZ, bU, bW, bV, bC, eA, dE, dH, cX, aI, eE, bO, aE, dJ, dK, dL, dD, bK, bN, cF, bA, cE, cI, bF, cM, cK, cV, cL, cC, bZ, cH, dQ, bY, cS, dU, bQ, dB, aX, cG, dV, bG, aQ, aN, aM, aJ, aP, aS, aC, cN, bE, cZ, bS, cD, cU, aR, aW, aV, aY, aU, aL, aH, aB, dA, aG, aF, bM, bB, bJ, dF, bD, cA, bH, bT, bR, aK, dT, aT, dN, dO, aO, cB, bX, dM, eT, d1, d2, d3, n1, n2, n3]
  refine (E3 a _).mono ?_
  rintro r w4 ⟨rfl, hw⟩
  rw [hw]
  clear hw w4
  have e1 : nA a + 1 = ((nA a + 1).toNat : Int) := by omega
  rw [e1]
  refine (Fq (hb.ext x13 (iM _)) hl2 (by omega)).mono ?_
  rintro r w4 ⟨hr, x4⟩
  have z4 := x4.size
  have hsym : (nA a + 1).toNat ≤ 61 := by omega
  have hE0 : jJ a mode l T = match uT (fU l) (C6 a) (nA a + 1).toNat with
    | .error e => .error e
    | .ok (lg, ps, u) => .ok ((lg, jI lg ps), u) := by unfold jJ; rw [if_neg hno, if_neg m0, if_neg m1, if_neg m3]
  cases hrl : uT (fU l) (C6 a) (nA a + 1).toNat with
  | error e =>
    rw [hrl] at hr hE0
    have hr : r = _ := hr
    subst hr
    have he := Gb hrl
    have n4 : (e != 0) = true := by simpa using he
    have hE : jJ a mode l T = .error e := hE0
    simp (disch := omega) only [cJ, hP, aD, dP, fH, fR, gQ, gN, gI, gR, iR, gT, eC, fZ, fY, gB, fP, fB, gU, fM, gG, gS, gX, gM, eS, gZ, gP, gF, lG, lH, oZ, oR, oY, oX, oU, oT, oS, cW, Result.ok.injEq, Next.value.injEq, true_and, and_true, eM, gE, gY, gV, gW, iO, Int.toNat_natCast, fO, fG, fN, eZ, eD, dW, eU, eB, cY, cQ, if_true, if_false, Bool.false_eq_true, Nat.zero_add, Option.isNone_some, Option.isNone_none, Bool.not_true, Bool.not_false, List.getElem?_cons_succ, List.getElem?_cons_zero, cR, aZ, bU, bW, bV, bC, eA, dE, dH, cX, aI, eE, bO, aE, dJ, dK, dL, dD, bK, bN, cF, bA, cE, cI, bF, cM, cK, cV, cL, cC, bZ, cH, dQ, bY, cS, dU, bQ, dB, aX, cG, dV, bG, aQ, aN, aM, aJ, aP, aS, aC, cN, bE, cZ, bS, cD, cU, aR, aW, aV, aY, aU, aL, aH, aB, dA, aG, aF, bM, bB, bJ, dF, bD, cA, bH, bT, bR, aK, dT, aT, dN, dO, aO, cB, bX, dM, eT]
    refine kK fun w5 o5 x5 s5 => ?_
    refine iA o5 rfl (by simp [one]) (by simp) fun w6 o6 x6 s6 => ?_
    simp (disch := omega) only [cJ, hP, aD, dP, fH, fR, gQ, gN, gI, gR, iR, gT, eC, fZ, fY, gB, fP, fB, gU, fM, gG, gS, gX, gM, eS, gZ, gP, gF, lG, lH, oZ, oR, oY, oX, oU, oT, oS, cW, Result.ok.injEq, Next.value.injEq, true_and, and_true, eM, gE, gY, gV, gW, iO, Int.toNat_natCast, fO, fG, fN, eZ, eD, dW, eU, eB, cY, cQ, if_true, if_false, Bool.false_eq_true, Nat.zero_add, Option.isNone_some, Option.isNone_none, Bool.not_true, Bool.not_false, List.getElem?_cons_succ, List.getElem?_cons_zero, cR, aZ, bU, bW, bV, bC, eA, dE, dH, cX, aI, eE, bO, aE, dJ, dK, dL, dD, bK, bN, cF, bA, cE, cI, bF, cM, cK, cV, cL, cC, bZ, cH, dQ, bY, cS, dU, bQ, dB, aX, cG, dV, bG, aQ, aN, aM, aJ, aP, aS, aC, cN, bE, cZ, bS, cD, cU, aR, aW, aV, aY, aU, aL, aH, aB, dA, aG, aF, bM, bB, bJ, dF, bD, cA, bH, bT, bR, aK, dT, aT, dN, dO, aO, cB, bX, dM, eT, n4]
    have x46 : gA w3 w6 jQ := x4.seq (x5.new x6 (Nat.le_refl _))
    exact rS (o2.ext x46 (fun h => h)) (x13.seq x46) (by omega) fun w' x _ => err hE x
  | ok y =>
    obtain ⟨lg, ps, u⟩ := y
    rw [hrl] at hr hE0
    obtain ⟨v, rfl, hv⟩ := hr
    obtain ⟨hmay, hlg, hpl⟩ := GI hrl
    have hm := hmay (by omega)
    have hE : jJ a mode l T = .ok ((lg, jI lg ps), u) := hE0
    obtain ⟨va, vc, rfl⟩ := hv.len
    have hs := hv.sl
    have n4 : ((0 : Int) != 0) = false := rfl
    simp (disch := omega) only [cJ, hP, aD, dP, fH, fR, gQ, gN, gI, gR, iR, gT, eC, fZ, fY, gB, fP, fB, gU, fM, gG, gS, gX, gM, eS, gZ, gP, gF, lG, lH, oZ, oR, oY, oX, oU, oT, oS, cW, Result.ok.injEq, Next.value.injEq, true_and, and_true, eM, gE, gY, gV, gW, iO, Int.toNat_natCast, fO, fG, fN, eZ, eD, dW, eU, eB, cY, cQ, if_true, if_false, Bool.false_eq_true, Nat.zero_add, Option.isNone_some, Option.isNone_none, Bool.not_true, Bool.not_false, List.getElem?_cons_succ, List.getElem?_cons_zero, cR, aZ, bU, bW, bV, bC, eA, dE, dH, cX, aI, eE, bO, aE, dJ, dK, dL, dD, bK, bN, cF, bA, cE, cI, bF, cM, cK, cV, cL, cC, bZ, cH, dQ, bY, cS, dU, bQ, dB, aX, cG, dV, bG, aQ, aN, aM, aJ, aP, aS, aC, cN, bE, cZ, bS, cD, cU, aR, aW, aV, aY, aU, aL, aH, aB, dA, aG, aF, bM, bB, bJ, dF, bD, cA, bH, bT, bR, aK, dT, aT, dN, dO, aO, cB, bX, dM, eT]
    refine kK fun w5 o5 x5 s5 => ?_
    refine iA o5 rfl (by simp [one]) (by simp) fun w6 o6 x6 s6 => ?_
    have l1 := iJ (off := 0) o6 (by simp [gC])
    simp only [gC, List.set_cons_zero, List.set_cons_succ, List.drop_zero, List.take_succ_cons, List.take_zero] at l1
    have x46 : gA w4 w6 jQ := x5.new x6 (Nat.le_refl _)
    have z6 := x46.size
    simp (disch := omega) only [cJ, hP, aD, dP, fH, fR, gQ, gN, gI, gR, iR, gT, eC, fZ, fY, gB, fP, fB, gU, fM, gG, gS, gX, gM, eS, gZ, gP, gF, lG, lH, oZ, oR, oY, oX, oU, oT, oS, cW, Result.ok.injEq, Next.value.injEq, true_and, and_true, eM, gE, gY, gV, gW, iO, Int.toNat_natCast, fO, fG, fN, eZ, eD, dW, eU, eB, cY, cQ, if_true, if_false, Bool.false_eq_true, Nat.zero_add, Option.isNone_some, Option.isNone_none, Bool.not_true, Bool.not_false, List.getElem?_cons_succ, List.getElem?_cons_zero, cR, aZ, bU, bW, bV, bC, eA, dE, dH, cX, aI, eE, bO, aE, dJ, dK, dL, dD, bK, bN, cF, bA, cE, cI, bF, cM, cK, cV, cL, cC, bZ, cH, dQ, bY, cS, dU, bQ, dB, aX, cG, dV, bG, aQ, aN, aM, aJ, aP, aS, aC, cN, bE, cZ, bS, cD, cU, aR, aW, aV, aY, aU, aL, aH, aB, dA, aG, aF, bM, bB, bJ, dF, bD, cA, bH, bT, bR, aK, dT, aT, dN, dO, aO, cB, bX, dM, eT, n4, l1]
    refine (FD hm (hs.ext x46 (iM _))).mono ?_
    rintro r w7 ⟨b, t, rfl, ⟨rfl, hb1, ob⟩, x7⟩
    have z7 := x7.size
    have hbl := ob.lt
    simp (disch := omega) only [cJ, hP, aD, dP, fH, fR, gQ, gN, gI, gR, iR, gT, eC, fZ, fY, gB, fP, fB, gU, fM, gG, gS, gX, gM, eS, gZ, gP, gF, lG, lH, oZ, oR, oY, oX, oU, oT, oS, cW, Result.ok.injEq, Next.value.injEq, true_and, and_true, eM, gE, gY, gV, gW, iO, Int.toNat_natCast, fO, fG, fN, eZ, eD, dW, eU, eB, cY, cQ, if_true, if_false, Bool.false_eq_true, Nat.zero_add, Option.isNone_some, Option.isNone_none, Bool.not_true, Bool.not_false, List.getElem?_cons_succ, List.getElem?_cons_zero, cR, aZ, bU, bW, bV, bC, eA, dE, dH, cX, aI, eE, bO, aE, dJ, dK, dL, dD, bK, bN, cF, bA, cE, cI, bF, cM, cK, cV, cL, cC, bZ, cH, dQ, bY, cS, dU, bQ, dB, aX, cG, dV, bG, aQ, aN, aM, aJ, aP, aS, aC, cN, bE, cZ, bS, cD, cU, aR, aW, aV, aY, aU, aL, aH, aB, dA, aG, aF, bM, bB, bJ, dF, bD, cA, bH, bT, bR, aK, dT, aT, dN, dO, aO, cB, bX, dM, eT]
    refine hX fun w8 o8 x8 s8 => ?_
    refine gK o8 rfl (by simp [one]) (by simp) fun w9 o9 x9 s9 => ?_
    have l2 := mK (off := 0) o9 (by simp [gC])
    simp only [gC, List.set_cons_zero, List.set_cons_succ, List.drop_zero, List.take_succ_cons, List.take_zero] at l2
    simp (disch := omega) only [cJ, hP, aD, dP, fH, fR, gQ, gN, gI, gR, iR, gT, eC, fZ, fY, gB, fP, fB, gU, fM, gG, gS, gX, gM, eS, gZ, gP, gF, lG, lH, oZ, oR, oY, oX, oU, oT, oS, cW, Result.ok.injEq, Next.value.injEq, true_and, and_true, eM, gE, gY, gV, gW, iO, Int.toNat_natCast, fO, fG, fN, eZ, eD, dW, eU, eB, cY, cQ, if_true, if_false, Bool.false_eq_true, Nat.zero_add, Option.isNone_some, Option.isNone_none, Bool.not_true, Bool.not_false, List.getElem?_cons_succ, List.getElem?_cons_zero, cR, aZ, bU, bW, bV, bC, eA, dE, dH, cX, aI, eE, bO, aE, dJ, dK, dL, dD, bK, bN, cF, bA, cE, cI, bF, cM, cK, cV, cL, cC, bZ, cH, dQ, bY, cS, dU, bQ, dB, aX, cG, dV, bG, aQ, aN, aM, aJ, aP, aS, aC, cN, bE, cZ, bS, cD, cU, aR, aW, aV, aY, aU, aL, aH, aB, dA, aG, aF, bM, bB, bJ, dF, bD, cA, bH, bT, bR, aK, dT, aT, dN, dO, aO, cB, bX, dM, eT, n4, l2]
    have x49 : gA w3 w9 jQ := ((x4.seq x46).seq x7).seq (x8.new x9 (Nat.le_refl _))
    refine rS (o2.ext x49 (fun h => h)) (x13.seq x49) (by omega) fun w' x x10 => good hE (.inr ⟨b, rfl, by omega, ?_⟩) x
    exact ((ob.ext x8 (fun h => h)).ext x9 (by omega)).ext x10 (by omega)
end Go.Proofs.YtoepfjgekpdddaaDoor
namespace Go.Proofs.YtoepfjgekpdddaaDoor
open Go Go.En Go.Pu
set_option maxRecDepth 4000
set_option linter.unusedSimpArgs false
set_option linter.unusedVariables false
theorem A3.tbl {w : World} {base : Nat} {T : Nat × List T3} {v : Value} (h : A3 w base T v) (hne : T.2 ≠ []) : ∃ b, Hk w base b T.1 T.2 v := by
  rcases h with ⟨rfl, _⟩ | h
  · exact absurd rfl hne
  · exact h
theorem F6 {w : World} (hg : xA w) : gH pg pY #[] w (fun r w' => r = .bool true ∧ gA w w' jQ) := by
  refine Bt ?_
  unfold Cb rV sT
  refine Eu (cells := #[.int .u8 7]) (by decide) (by decide) (by kernel_rfl) fun w1 o1 x1 s1 => ?_
  have hb : Bs w1 (.slice (some ⟨w.heap.size, 0, none⟩) 1 1) [7] := iE.whole (l := [7]) (c := 1) o1 (by simp)
  have hE : jJ 0 1 [7] (0, []) = .ok ((0, [(7, 0, 0)]), 1) := by rfl
  simp (disch := omega) only [cJ, hP, aD, dP, fH, fR, gQ, gN, gI, gR, iR, gT, eC, fZ, fY, gB, fP, fB, gU, fM, gG, gS, gX, gM, eS, gZ, gP, gF, lG, lH, oZ, oR, oY, oX, oU, oT, oS, cW, Result.ok.injEq, Next.value.injEq, true_and, and_true, eM, gE, gY, gV, gW, iO, Int.toNat_natCast, fO, fG, fN, eZ, eD, dW, eU, eB, cY, cQ, if_true, if_false, Bool.false_eq_true, Nat.zero_add, Option.isNone_some, Option.isNone_none, Bool.not_true, Bool.not_false, List.getElem?_cons_succ, List.getElem?_cons_zero, cR, aZ, bU, bW, bV, bC, eA, dE, dH, cX, aI, eE, bO, aE, dJ, dK, dL, dD, bK, bN, cF, bA, cE, cI, bF, cM, cK, cV, cL, cC, bZ, cH, dQ, bY, cS, dU, bQ, dB, aX, cG, dV, bG, aQ, aN, aM, aJ, aP, aS, aC, cN, bE, cZ, bS, cD, cU, aR, aW, aV, aY, aU, aL, aH, aB, dA, aG, aF, bM, bB, bJ, dF, bD, cA, bH, bT, bR, aK, dT, aT, dN, dO, aO, cB, bX, dM, eT]
  refine (DY (a := 0) (mode := 1) (l := [7]) (T := (0, [])) (base := w.heap.size) (hg.ext x1) hb (by omega) (A3.nil _ _) (by omega) (by simp) (by simp)).mono ?_
  rintro r w2 ⟨hr, x2⟩
  rw [hE] at hr
  obtain ⟨t, rfl, ht⟩ := hr
  obtain ⟨b, ht, hb1, ob⟩ := ht.tbl (by simp)
  subst ht
  have lb := ob.lt
  have z1 := x1.size
  have z2 := x2.size
  simp (disch := omega) only [cJ, hP, aD, dP, fH, fR, gQ, gN, gI, gR, iR, gT, eC, fZ, fY, gB, fP, fB, gU, fM, gG, gS, gX, gM, eS, gZ, gP, gF, lG, lH, oZ, oR, oY, oX, oU, oT, oS, cW, Result.ok.injEq, Next.value.injEq, true_and, and_true, eM, gE, gY, gV, gW, iO, Int.toNat_natCast, fO, fG, fN, eZ, eD, dW, eU, eB, cY, cQ, if_true, if_false, Bool.false_eq_true, Nat.zero_add, Option.isNone_some, Option.isNone_none, Bool.not_true, Bool.not_false, List.getElem?_cons_succ, List.getElem?_cons_zero, cR, aZ, bU, bW, bV, bC, eA, dE, dH, cX, aI, eE, bO, aE, dJ, dK, dL, dD, bK, bN, cF, bA, cE, cI, bF, cM, cK, cV, cL, cC, bZ, cH, dQ, bY, cS, dU, bQ, dB, aX, cG, dV, bG, aQ, aN, aM, aJ, aP, aS, aC, cN, bE, cZ, bS, cD, cU, aR, aW, aV, aY, aU, aL, aH, aB, dA, aG, aF, bM, bB, bJ, dF, bD, cA, bH, bT, bR, aK, dT, aT, dN, dO, aO, cB, bX, dM, eT]
  refine hX fun w3 o3 x3 s3 => ?_
  refine gK o3 rfl (by simp [one]) (by simp) fun w4 o4 x4 s4 => ?_
  simp only [gC, List.set_cons_zero, List.set_cons_succ] at o4
  have x24 : gA w2 w4 jQ := x3.new x4 (Nat.le_refl _)
  have x04 := (x1.seq x2).seq x24
  have z4 := x24.size
  have ob4 := (ob.ext x3 (fun h => h)).ext x4 (by omega)
  refine (yG (a := 2) (hg.ext x04)).mono ?_
  rintro r w5 ⟨t, e, rfl, ht, x5⟩
  obtain ⟨⟨b5, ht, hb5, ob5⟩, rfl⟩ : (∃ b, Hk w5 w4.heap.size b (Dp 2) (jI (Dp 2) (EE 2)) t) ∧ e = 0 := ht
  subst ht
  have z5 := x5.size
  simp (disch := omega) only [cJ, hP, aD, dP, fH, fR, gQ, gN, gI, gR, iR, gT, eC, fZ, fY, gB, fP, fB, gU, fM, gG, gS, gX, gM, eS, gZ, gP, gF, lG, lH, oZ, oR, oY, oX, oU, oT, oS, cW, Result.ok.injEq, Next.value.injEq, true_and, and_true, eM, gE, gY, gV, gW, iO, Int.toNat_natCast, fO, fG, fN, eZ, eD, dW, eU, eB, cY, cQ, if_true, if_false, Bool.false_eq_true, Nat.zero_add, Option.isNone_some, Option.isNone_none, Bool.not_true, Bool.not_false, List.getElem?_cons_succ, List.getElem?_cons_zero, cR, aZ, bU, bW, bV, bC, eA, dE, dH, cX, aI, eE, bO, aE, dJ, dK, dL, dD, bK, bN, cF, bA, cE, cI, bF, cM, cK, cV, cL, cC, bZ, cH, dQ, bY, cS, dU, bQ, dB, aX, cG, dV, bG, aQ, aN, aM, aJ, aP, aS, aC, cN, bE, cZ, bS, cD, cU, aR, aW, aV, aY, aU, aL, aH, aB, dA, aG, aF, bM, bB, bJ, dF, bD, cA, bH, bT, bR, aK, dT, aT, dN, dO, aO, cB, bX, dM, eT]
  refine hX fun w6 o6 x6 s6 => ?_
  refine gK o6 rfl (by simp [one]) (by simp) fun w7 o7 x7 s7 => ?_
  simp only [gC, List.set_cons_zero, List.set_cons_succ] at o7
  have x57 : gA w5 w7 jQ := x6.new x7 (Nat.le_refl _)
  have z7 := x57.size
  refine (yG (a := 3) (hg.ext ((x04.seq x5).seq x57))).mono ?_
  rintro r w8 ⟨t, e, rfl, ht, x8⟩
  obtain ⟨rfl, rfl⟩ : t = .agg #[.int .i64 0, .slice none 0 0] ∧ e = 1 := ht
  have z8 := x8.size
  simp (disch := omega) only [cJ, hP, aD, dP, fH, fR, gQ, gN, gI, gR, iR, gT, eC, fZ, fY, gB, fP, fB, gU, fM, gG, gS, gX, gM, eS, gZ, gP, gF, lG, lH, oZ, oR, oY, oX, oU, oT, oS, cW, Result.ok.injEq, Next.value.injEq, true_and, and_true, eM, gE, gY, gV, gW, iO, Int.toNat_natCast, fO, fG, fN, eZ, eD, dW, eU, eB, cY, cQ, if_true, if_false, Bool.false_eq_true, Nat.zero_add, Option.isNone_some, Option.isNone_none, Bool.not_true, Bool.not_false, List.getElem?_cons_succ, List.getElem?_cons_zero, cR, aZ, bU, bW, bV, bC, eA, dE, dH, cX, aI, eE, bO, aE, dJ, dK, dL, dD, bK, bN, cF, bA, cE, cI, bF, cM, cK, cV, cL, cC, bZ, cH, dQ, bY, cS, dU, bQ, dB, aX, cG, dV, bG, aQ, aN, aM, aJ, aP, aS, aC, cN, bE, cZ, bS, cD, cU, aR, aW, aV, aY, aU, aL, aH, aB, dA, aG, aF, bM, bB, bJ, dF, bD, cA, bH, bT, bR, aK, dT, aT, dN, dO, aO, cB, bX, dM, eT]
  refine hX fun w9 o9 x9 s9 => ?_
  refine gK o9 rfl (by simp [one]) (by simp) fun wa oa xa sa => ?_
  have x8a : gA w8 wa jQ := x9.new xa (Nat.le_refl _)
  have x4a : gA w4 wa jQ := ((x5.seq x57).seq x8).seq x8a
  have c1 := (o4.ext x4a (fun h => h)).cell (off := 1)
  have c2 := ((o7.ext x8 (fun h => h)).ext x8a (fun h => h)).cell (off := 1)
  have c3 := (ob4.ext x4a (fun h => h)).cell (off := 0)
  simp only [List.getElem?_cons_zero, List.getElem?_cons_succ, fe] at c1 c2 c3
  have hlen : (jI (Dp 2) (EE 2)).length = 64 := by rw [kT] <;> rfl
  have n1 : (((([(7, 0, 0)] : List T3).length : Nat) : Int) == 1) = true := rfl
  have n1' : ((((1 : Nat)) : Int) == 1) = true := rfl
  have n2 : ((7 : Int) == 7) = true := rfl
  have n3 : ((1 : Int) == 1) = true := rfl
  have n4 : ((0 : Int) == 0) = true := rfl
  have n5 : ((((jI (Dp 2) (EE 2)).length : Nat) : Int) == 64) = true := by rw [hlen] <;> rfl
  have n6 : (C6 1 == 8) = true := rfl
  have n7 : (C6 7 == 0) = true := rfl
  have t0 : (0 : Int).toNat = 0 := rfl
  have hl1 : (([(7, 0, 0)] : List T3).length) = 1 := rfl
  unfold nP rY nM
  simp (disch := omega) only [cJ, hP, aD, dP, fH, fR, gQ, gN, gI, gR, iR, gT, eC, fZ, fY, gB, fP, fB, gU, fM, gG, gS, gX, gM, eS, gZ, gP, gF, lG, lH, oZ, oR, oY, oX, oU, oT, oS, cW, Result.ok.injEq, Next.value.injEq, true_and, and_true, eM, gE, gY, gV, gW, iO, Int.toNat_natCast, fO, fG, fN, eZ, eD, dW, eU, eB, cY, cQ, if_true, if_false, Bool.false_eq_true, Nat.zero_add, Option.isNone_some, Option.isNone_none, Bool.not_true, Bool.not_false, List.getElem?_cons_succ, List.getElem?_cons_zero, cR, aZ, bU, bW, bV, bC, eA, dE, dH, cX, aI, eE, bO, aE, dJ, dK, dL, dD, bK, bN, cF, bA, cE, cI, bF, cM, cK, cV, cL, cC, bZ, cH, dQ, bY, cS, dU, bQ, dB, aX, cG, dV, bG, aQ, aN, aM, aJ, aP, aS, aC, cN, bE, cZ, bS, cD, cU, aR, aW, aV, aY, aU, aL, aH, aB, dA, aG, aF, bM, bB, bJ, dF, bD, cA, bH, bT, bR, aK, dT, aT, dN, dO, aO, cB, bX, dM, eT, c1, c2, c3, t0, hl1, Nat.zero_mul, n1, n1', n2, n3, n4, n5]
  refine (E3 1 _).mono ?_
  rintro r wb ⟨rfl, hw⟩
  rw [hw]
  clear hw wb
  simp (disch := omega) only [cJ, hP, aD, dP, fH, fR, gQ, gN, gI, gR, iR, gT, eC, fZ, fY, gB, fP, fB, gU, fM, gG, gS, gX, gM, eS, gZ, gP, gF, lG, lH, oZ, oR, oY, oX, oU, oT, oS, cW, Result.ok.injEq, Next.value.injEq, true_and, and_true, eM, gE, gY, gV, gW, iO, Int.toNat_natCast, fO, fG, fN, eZ, eD, dW, eU, eB, cY, cQ, if_true, if_false, Bool.false_eq_true, Nat.zero_add, Option.isNone_some, Option.isNone_none, Bool.not_true, Bool.not_false, List.getElem?_cons_succ, List.getElem?_cons_zero, cR, aZ, bU, bW, bV, bC, eA, dE, dH, cX, aI, eE, bO, aE, dJ, dK, dL, dD, bK, bN, cF, bA, cE, cI, bF, cM, cK, cV, cL, cC, bZ, cH, dQ, bY, cS, dU, bQ, dB, aX, cG, dV, bG, aQ, aN, aM, aJ, aP, aS, aC, cN, bE, cZ, bS, cD, cU, aR, aW, aV, aY, aU, aL, aH, aB, dA, aG, aF, bM, bB, bJ, dF, bD, cA, bH, bT, bR, aK, dT, aT, dN, dO, aO, cB, bX, dM, eT, n6]
  refine (E3 7 _).mono ?_
  rintro r wb ⟨rfl, hw⟩
  rw [hw]
  clear hw wb
  simp (disch := omega) only [cJ, hP, aD, dP, fH, fR, gQ, gN, gI, gR, iR, gT, eC, fZ, fY, gB, fP, fB, gU, fM, gG, gS, gX, gM, eS, gZ, gP, gF, lG, lH, oZ, oR, oY, oX, oU, oT, oS, cW, Result.ok.injEq, Next.value.injEq, true_and, and_true, eM, gE, gY, gV, gW, iO, Int.toNat_natCast, fO, fG, fN, eZ, eD, dW, eU, eB, cY, cQ, if_true, if_false, Bool.false_eq_true, Nat.zero_add, Option.isNone_some, Option.isNone_none, Bool.not_true, Bool.not_false, List.getElem?_cons_succ, List.getElem?_cons_zero, cR, aZ, bU, bW, bV, bC, eA, dE, dH, cX, aI, eE, bO, aE, dJ, dK, dL, dD, bK, bN, cF, bA, cE, cI, bF, cM, cK, cV, cL, cC, bZ, cH, dQ, bY, cS, dU, bQ, dB, aX, cG, dV, bG, aQ, aN, aM, aJ, aP, aS, aC, cN, bE, cZ, bS, cD, cU, aR, aW, aV, aY, aU, aL, aH, aB, dA, aG, aF, bM, bB, bJ, dF, bD, cA, bH, bT, bR, aK, dT, aT, dN, dO, aO, cB, bX, dM, eT, n7]
  exact x04.seq x4a
end Go.Proofs.YtoepfjgekpdddaaDoor
namespace Go.Proofs.YtoepfjgekpdddaaDoor
open Go Go.En
set_option linter.unusedSimpArgs false
set_option linter.unusedVariables false
theorem HF {ox oy : Operand} (a b c a' b' c' : Int) (w : World) : (dY .neq 32 ox oy (.agg #[.int .u8 a, .int .i64 b, .int .i64 c]) (.agg #[.int .u8 a', .int .i64 b', .int .i64 c'])).run pg w = .ok (.value (.bool (!(a == a' && b == b' && c == c')))) w := by
  have a3 : ∀ w, (isAgg 3).run pg w = .ok false w := fun w => by kernel_rfl
  have a5 : ∀ w, (isAgg 5).run pg w = .ok false w := fun w => by kernel_rfl
  have u3 := Tryd.underlying3
  have u5 := Tryd.underlying5
  have g0 : pg.eqGuardType pg.depth 32 = false := by kernel_rfl
  have g1 : pg.underlying 32 = some (.struct (pg.fieldsOf 32)) := by kernel_rfl
  have g2 : pg.stoodInHeld 32 = false := by kernel_rfl
  unfold dY
  simp only [tJ, kN, Sem.run_bind, run_eqGuard_agg w .neq 32 ox oy _ _ g0, Result.andThen_ok, run_neq_struct]
  rw [run_equalIn_agg w 9999 32 _ _ g1 g2]
  simp only [Program.fieldsOf, Tryd.underlying32, Op.eqFields]
  simp [part, a3, a5, run_equalIn_int w 9998 3 _ _ _ _ u3, run_equalIn_int w 9998 5 _ _ _ _ u5]
  by_cases h1 : a = a' <;> by_cases h2 : b = b' <;> by_cases h3 : c = c' <;> simp [h1, h2, h3]
end Go.Proofs.YtoepfjgekpdddaaDoor
namespace Go.Proofs.YtoepfjgekpdddaaDoor
open Go Go.En Go.Pu
set_option maxRecDepth 4000
set_option linter.unusedSimpArgs false
set_option linter.unusedVariables false
theorem Gk {k : Nat} (hk : k < 3) (s : Nat) : ((jI (Dp k) (EE k)).any fun e => e.1 == (s : Int)) = decide ((s : Int) ≤ ([35, 28, 52] : List Int).getD k 0) := by
  have hm := GY (a := k) (by omega)
  have hlen : (((EE k).length : Nat) : Int) = ([35, 28, 52] : List Int).getD k 0 + 1 := by
    rcases (show k = 0 ∨ k = 1 ∨ k = 2 by omega) with rfl | rfl | rfl <;> rfl
  have hnz : ∀ x ∈ EE k, x ≠ 0 := by
    rcases (show k = 0 ∨ k = 1 ∨ k = 2 by omega) with rfl | rfl | rfl <;> decide
  by_cases hs : (s : Int) ≤ ([35, 28, 52] : List Int).getD k 0
  · rw [decide_eq_true hs, List.any_eq_true]
    obtain ⟨i, hi, e⟩ := Fm hm (s := s) (by omega) (hnz _ (List.getElem_mem _))
    exact ⟨_, List.getElem_mem hi, by rw [e]; simp⟩
  · rw [decide_eq_false hs, List.any_eq_false]
    intro e he
    obtain ⟨i, hi, rfl⟩ := List.getElem_of_mem he
    have h2 : i < 2 ^ Dp k := by rw [kT] at hi; exact hi
    rw [CN _ _ h2]
    obtain ⟨q, hq, e, _⟩ := GW hm (zK hm 0) h2
    rw [e]
    simp only [beq_iff_eq]
    omega
theorem Hg {L : List T3} {s : Int} {i : Nat} (h : i < L.length) : ((L.take (i + 1)).any fun e => e.1 == s) = (((L.take i).any fun e => e.1 == s) || (L[i].1 == s)) := by
  rw [List.take_add_one, List.getElem?_eq_getElem h, List.any_append]; simp
theorem Ho {p b : Nat} {log : Nat} {L : List T3} {sy v2 v8 v10 v11 : Value} {s : Int} {w : World} (hl : L.length ≤ 1000000) (o : iE w p [.int .i64 log, .slice (some ⟨b, 0, none⟩) L.length L.length]) (ob : iE w b (fe .u8 L)) (hsy : sy = .int .u8 s) {kn : Value → Value → Value → Value → Value → Value → Value → World → Prop}
    (hK : kn sy v2 v8 (.pointer (some ⟨p, 0, none⟩)) v10 v11 (.bool (L.any fun e => e.1 == s)) w) :
    jN kn sy v2 v8 (.pointer (some ⟨p, 0, none⟩)) v10 v11 (.bool false) w := by
  subst hsy
  unfold jN kY jL lB
  refine iV.rule (fun m (t : Value × Value) w' => ∃ i : Nat, m = L.length - i ∧ t = (.bool ((L.take i).any fun e => e.1 == s), .int .i64 i) ∧ i ≤ L.length ∧ w' = w) L.length ⟨0, rfl, rfl, by omega, rfl⟩ ?_
  rintro m t w1 ⟨i, rfl, rfl, hi, rfl⟩
  unfold jO
  have c1 := o.cell (off := 1)
  simp only [List.getElem?_cons_zero, List.getElem?_cons_succ] at c1
  by_cases hlt : i < L.length
  · have d3 : decide ((i : Int) < (L.length : Int)) = true := by simp; omega
    have q1 := ob.cell (off := i * 3)
    rw [(C4 .u8 L i hlt).1] at q1
    have hst := Hg (s := s) hlt
    cases hh : (L.take i).any fun e => e.1 == s with
    | true =>
      rw [hh] at hst
      simp (disch := omega) only [cJ, hP, aD, dP, fH, fR, gQ, gN, gI, gR, iR, gT, eC, fZ, fY, gB, fP, fB, gU, fM, gG, gS, gX, gM, eS, gZ, gP, gF, lG, lH, oZ, oR, oY, oX, oU, oT, oS, cW, Result.ok.injEq, Next.value.injEq, true_and, and_true, eM, gE, gY, gV, gW, iO, Int.toNat_natCast, fO, fG, fN, eZ, eD, dW, eU, eB, cY, cQ, if_true, if_false, Bool.false_eq_true, Nat.zero_add, Option.isNone_some, Option.isNone_none, Bool.not_true, Bool.not_false, List.getElem?_cons_succ, List.getElem?_cons_zero, cR, aZ, bU, bW, bV, bC, eA, dE, dH, cX, aI, eE, bO, aE, dJ, dK, dL, dD, bK, bN, cF, bA, cE, cI, bF, cM, cK, cV, cL, cC, bZ, cH, dQ, bY, cS, dU, bQ, dB, aX, cG, dV, bG, aQ, aN, aM, aJ, aP, aS, aC, cN, bE, cZ, bS, cD, cU, aR, aW, aV, aY, aU, aL, aH, aB, dA, aG, aF, bM, bB, bJ, dF, bD, cA, bH, bT, bR, aK, dT, aT, dN, dO, aO, cB, bX, dM, eT, c1, d3, hh]
      exact ⟨L.length - (i + 1), by omega, i + 1, rfl, by rw [hst] <;> rfl, by omega⟩
    | false =>
      rw [hh] at hst
      simp (disch := omega) only [cJ, hP, aD, dP, fH, fR, gQ, gN, gI, gR, iR, gT, eC, fZ, fY, gB, fP, fB, gU, fM, gG, gS, gX, gM, eS, gZ, gP, gF, lG, lH, oZ, oR, oY, oX, oU, oT, oS, cW, Result.ok.injEq, Next.value.injEq, true_and, and_true, eM, gE, gY, gV, gW, iO, Int.toNat_natCast, fO, fG, fN, eZ, eD, dW, eU, eB, cY, cQ, if_true, if_false, Bool.false_eq_true, Nat.zero_add, Option.isNone_some, Option.isNone_none, Bool.not_true, Bool.not_false, List.getElem?_cons_succ, List.getElem?_cons_zero, cR, aZ, bU, bW, bV, bC, eA, dE, dH, cX, aI, eE, bO, aE, dJ, dK, dL, dD, bK, bN, cF, bA, cE, cI, bF, cM, cK, cV, cL, cC, bZ, cH, dQ, bY, cS, dU, bQ, dB, aX, cG, dV, bG, aQ, aN, aM, aJ, aP, aS, aC, cN, bE, cZ, bS, cD, cU, aR, aW, aV, aY, aU, aL, aH, aB, dA, aG, aF, bM, bB, bJ, dF, bD, cA, bH, bT, bR, aK, dT, aT, dN, dO, aO, cB, bX, dM, eT, c1, d3, q1, hh]
      exact ⟨L.length - (i + 1), by omega, i + 1, rfl, by rw [hst] <;> rfl, by omega⟩
  · have d3 : decide ((i : Int) < (L.length : Int)) = false := by simp; omega
    obtain rfl : i = L.length := by omega
    rw [List.take_of_length_le (Nat.le_refl _)]
    simp (disch := omega) only [cJ, hP, aD, dP, fH, fR, gQ, gN, gI, gR, iR, gT, eC, fZ, fY, gB, fP, fB, gU, fM, gG, gS, gX, gM, eS, gZ, gP, gF, lG, lH, oZ, oR, oY, oX, oU, oT, oS, cW, Result.ok.injEq, Next.value.injEq, true_and, and_true, eM, gE, gY, gV, gW, iO, Int.toNat_natCast, fO, fG, fN, eZ, eD, dW, eU, eB, cY, cQ, if_true, if_false, Bool.false_eq_true, Nat.zero_add, Option.isNone_some, Option.isNone_none, Bool.not_true, Bool.not_false, List.getElem?_cons_succ, List.getElem?_cons_zero, cR, aZ, bU, bW, bV, bC, eA, dE, dH, cX, aI, eE, bO, aE, dJ, dK, dL, dD, bK, bN, cF, bA, cE, cI, bF, cM, cK, cV, cL, cC, bZ, cH, dQ, bY, cS, dU, bQ, dB, aX, cG, dV, bG, aQ, aN, aM, aJ, aP, aS, aC, cN, bE, cZ, bS, cD, cU, aR, aW, aV, aY, aU, aL, aH, aB, dA, aG, aF, bM, bB, bJ, dF, bD, cA, bH, bT, bR, aK, dT, aT, dN, dO, aO, cB, bX, dM, eT, c1, d3]
    exact hK
theorem Dq {kind sym : Nat} {bv : Value} {l : List UInt8} {w : World} (hg : xA w) (hk : kind < 256) (hs : sym < 256) (hb : Bs w bv l) (hl : l.length ≤ 9223372036854775807) :
    gH pg mF #[.int .u8 kind, .int .u8 sym, bv] w (fun r w' => r = .bool true ∧ gA w w' jQ) := by
  refine vX ?_
  unfold tA kZ kX
  refine (F6 hg).mono ?_
  rintro r w1 ⟨rfl, x1⟩
  have z1 := x1.size
  have e1 : (kind : Int).tmod 3 = ((kind % 3 : Nat) : Int) := by rw [Int.tmod_eq_emod_of_nonneg (by omega)]; omega
  have hk3 : kind % 3 < 3 := Nat.mod_lt _ (by omega)
  generalize kind % 3 = k at *
  simp (disch := omega) only [cJ, hP, aD, dP, fH, fR, gQ, gN, gI, gR, iR, gT, eC, fZ, fY, gB, fP, fB, gU, fM, gG, gS, gX, gM, eS, gZ, gP, gF, lG, lH, oZ, oR, oY, oX, oU, oT, oS, cW, Result.ok.injEq, Next.value.injEq, true_and, and_true, eM, gE, gY, gV, gW, iO, Int.toNat_natCast, fO, fG, fN, eZ, eD, dW, eU, eB, cY, cQ, if_true, if_false, Bool.false_eq_true, Nat.zero_add, Option.isNone_some, Option.isNone_none, Bool.not_true, Bool.not_false, List.getElem?_cons_succ, List.getElem?_cons_zero, cR, aZ, bU, bW, bV, bC, eA, dE, dH, cX, aI, eE, bO, aE, dJ, dK, dL, dD, bK, bN, cF, bA, cE, cI, bF, cM, cK, cV, cL, cC, bZ, cH, dQ, bY, cS, dU, bQ, dB, aX, cG, dV, bG, aQ, aN, aM, aJ, aP, aS, aC, cN, bE, cZ, bS, cD, cU, aR, aW, aV, aY, aU, aL, aH, aB, dA, aG, aF, bM, bB, bJ, dF, bD, cA, bH, bT, bR, aK, dT, aT, dN, dO, aO, cB, bX, dM, eT, e1]
  refine (yG (a := (k : Nat)) (hg.ext x1)).mono ?_
  rintro r w2 ⟨t, e, rfl, ht, x2⟩
  unfold yS AX at ht
  rw [if_pos (by omega)] at ht
  obtain ⟨⟨b, ht, hb1, ob⟩, rfl⟩ := ht
  subst ht
  have z2 := x2.size
  have lb := ob.lt
  have hhas := Gk hk3 sym
  have hll : (jI (Dp k) (EE k)).length ≤ 100 ∧ 0 < (jI (Dp k) (EE k)).length := by
    rw [kT]
    rcases (show k = 0 ∨ k = 1 ∨ k = 2 by omega) with rfl | rfl | rfl <;> decide
  generalize jI (Dp k) (EE k) = L at *
  generalize Dp k = lg at *
  simp (disch := omega) only [cJ, hP, aD, dP, fH, fR, gQ, gN, gI, gR, iR, gT, eC, fZ, fY, gB, fP, fB, gU, fM, gG, gS, gX, gM, eS, gZ, gP, gF, lG, lH, oZ, oR, oY, oX, oU, oT, oS, cW, Result.ok.injEq, Next.value.injEq, true_and, and_true, eM, gE, gY, gV, gW, iO, Int.toNat_natCast, fO, fG, fN, eZ, eD, dW, eU, eB, cY, cQ, if_true, if_false, Bool.false_eq_true, Nat.zero_add, Option.isNone_some, Option.isNone_none, Bool.not_true, Bool.not_false, List.getElem?_cons_succ, List.getElem?_cons_zero, cR, aZ, bU, bW, bV, bC, eA, dE, dH, cX, aI, eE, bO, aE, dJ, dK, dL, dD, bK, bN, cF, bA, cE, cI, bF, cM, cK, cV, cL, cC, bZ, cH, dQ, bY, cS, dU, bQ, dB, aX, cG, dV, bG, aQ, aN, aM, aJ, aP, aS, aC, cN, bE, cZ, bS, cD, cU, aR, aW, aV, aY, aU, aL, aH, aB, dA, aG, aF, bM, bB, bJ, dF, bD, cA, bH, bT, bR, aK, dT, aT, dN, dO, aO, cB, bX, dM, eT]
  refine hX fun w3 o3 x3 s3 => ?_
  refine gK o3 rfl (by simp [one]) (by simp) fun w4 o4 x4 s4 => ?_
  simp only [gC, List.set_cons_zero, List.set_cons_succ] at o4
  have x24 : gA w2 w4 jQ := x3.new x4 (Nat.le_refl _)
  have z4 := x24.size
  have ob4 := (ob.ext x3 (fun h => h)).ext x4 (by omega)
  refine DL (cells := #[.int .i64 35, .int .i64 28, .int .i64 52]) (by decide) (by decide) (by kernel_rfl) fun w5 o5 x5 s5 => ?_
  have z5 := x5.size
  have ck := o5.cell (off := k)
  have hck : (#[Value.int .i64 35, Value.int .i64 28, Value.int .i64 52] : Array Value).toList[k]? = some (.int .i64 (([35, 28, 52] : List Int).getD k 0)) := by
    rcases (show k = 0 ∨ k = 1 ∨ k = 2 by omega) with rfl | rfl | rfl <;> rfl
  rw [hck] at ck
  generalize hlast : ([35, 28, 52] : List Int).getD k 0 = last at *
  simp (disch := omega) only [cJ, hP, aD, dP, fH, fR, gQ, gN, gI, gR, iR, gT, eC, fZ, fY, gB, fP, fB, gU, fM, gG, gS, gX, gM, eS, gZ, gP, gF, lG, lH, oZ, oR, oY, oX, oU, oT, oS, cW, Result.ok.injEq, Next.value.injEq, true_and, and_true, eM, gE, gY, gV, gW, iO, Int.toNat_natCast, fO, fG, fN, eZ, eD, dW, eU, eB, cY, cQ, if_true, if_false, Bool.false_eq_true, Nat.zero_add, Option.isNone_some, Option.isNone_none, Bool.not_true, Bool.not_false, List.getElem?_cons_succ, List.getElem?_cons_zero, cR, aZ, bU, bW, bV, bC, eA, dE, dH, cX, aI, eE, bO, aE, dJ, dK, dL, dD, bK, bN, cF, bA, cE, cI, bF, cM, cK, cV, cL, cC, bZ, cH, dQ, bY, cS, dU, bQ, dB, aX, cG, dV, bG, aQ, aN, aM, aJ, aP, aS, aC, cN, bE, cZ, bS, cD, cU, aR, aW, aV, aY, aU, aL, aH, aB, dA, aG, aF, bM, bB, bJ, dF, bD, cA, bH, bT, bR, aK, dT, aT, dN, dO, aO, cB, bX, dM, eT, ck]
  have x05 := ((x1.seq x2).seq x24).seq x5
  have o4 := o4.ext x5 (fun h => h)
  have ob5 := ob4.ext x5 (fun h => h)
  unfold jP
  refine Ho (by omega) o4 ob5 rfl ?_
  rw [hhas]
  unfold jK lA
  have l1 := mK (off := 0) o4 (by simp)
  simp only [List.drop_zero, List.take_succ_cons, List.take_zero] at l1
  have hne : L ≠ [] := fun h => by rw [h] at hll; simp at hll
  have hkk : ¬ ((k : Int) < 0 ∨ 2 < (k : Int) ∨ (3 : Int) < 0 ∨ (3 : Int) < 3) := by omega
  simp (disch := omega) only [cJ, hP, aD, dP, fH, fR, gQ, gN, gI, gR, iR, gT, eC, fZ, fY, gB, fP, fB, gU, fM, gG, gS, gX, gM, eS, gZ, gP, gF, lG, lH, oZ, oR, oY, oX, oU, oT, oS, cW, Result.ok.injEq, Next.value.injEq, true_and, and_true, eM, gE, gY, gV, gW, iO, Int.toNat_natCast, fO, fG, fN, eZ, eD, dW, eU, eB, cY, cQ, if_true, if_false, Bool.false_eq_true, Nat.zero_add, Option.isNone_some, Option.isNone_none, Bool.not_true, Bool.not_false, List.getElem?_cons_succ, List.getElem?_cons_zero, cR, aZ, bU, bW, bV, bC, eA, dE, dH, cX, aI, eE, bO, aE, dJ, dK, dL, dD, bK, bN, cF, bA, cE, cI, bF, cM, cK, cV, cL, cC, bZ, cH, dQ, bY, cS, dU, bQ, dB, aX, cG, dV, bG, aQ, aN, aM, aJ, aP, aS, aC, cN, bE, cZ, bS, cD, cU, aR, aW, aV, aY, aU, aL, aH, aB, dA, aG, aF, bM, bB, bJ, dF, bD, cA, bH, bT, bR, aK, dT, aT, dN, dO, aO, cB, bX, dM, eT, l1]
  refine (DY (a := (k : Nat)) (mode := 3) (T := (lg, L)) (base := w1.heap.size) (hg.ext x05) (hb.ext x05 (iM _)) (by omega) (.inr ⟨b, rfl, by omega, ob5⟩) (by omega) hl (by show L.length ≤ _; omega)).mono ?_
  rintro r w6 ⟨hr, x6⟩
  have z6 := x6.size
  have hE : jJ (k : Nat) 3 l (lg, L) = .ok ((lg, L), 0) := by unfold jJ; rw [if_neg hkk, if_neg (by omega), if_neg (by omega), if_pos rfl, if_neg hne]
  rw [hE] at hr
  obtain ⟨t, rfl, ht⟩ := hr
  obtain ⟨b2, ht, hb2, ob2⟩ := ht.tbl hne
  subst ht
  have lb2 := ob2.lt
  have ob2 : iE w6 b2 (fe .u8 L) := ob2
  simp (disch := omega) only [cJ, hP, aD, dP, fH, fR, gQ, gN, gI, gR, iR, gT, eC, fZ, fY, gB, fP, fB, gU, fM, gG, gS, gX, gM, eS, gZ, gP, gF, lG, lH, oZ, oR, oY, oX, oU, oT, oS, cW, Result.ok.injEq, Next.value.injEq, true_and, and_true, eM, gE, gY, gV, gW, iO, Int.toNat_natCast, fO, fG, fN, eZ, eD, dW, eU, eB, cY, cQ, if_true, if_false, Bool.false_eq_true, Nat.zero_add, Option.isNone_some, Option.isNone_none, Bool.not_true, Bool.not_false, List.getElem?_cons_succ, List.getElem?_cons_zero, cR, aZ, bU, bW, bV, bC, eA, dE, dH, cX, aI, eE, bO, aE, dJ, dK, dL, dD, bK, bN, cF, bA, cE, cI, bF, cM, cK, cV, cL, cC, bZ, cH, dQ, bY, cS, dU, bQ, dB, aX, cG, dV, bG, aQ, aN, aM, aJ, aP, aS, aC, cN, bE, cZ, bS, cD, cU, aR, aW, aV, aY, aU, aL, aH, aB, dA, aG, aF, bM, bB, bJ, dF, bD, cA, bH, bT, bR, aK, dT, aT, dN, dO, aO, cB, bX, dM, eT]
  refine hX fun w7 o7 x7 s7 => ?_
  refine gK o7 rfl (by simp [one]) (by simp) fun w8 o8 x8 s8 => ?_
  simp only [gC, List.set_cons_zero, List.set_cons_succ] at o8
  have x68 : gA w6 w8 jQ := x7.new x8 (Nat.le_refl _)
  have x08 := (x05.seq x6).seq x68
  have ob8 := (ob2.ext x7 (fun h => h)).ext x8 (by omega)
  refine (DY (a := (k : Nat)) (mode := 3) (T := (0, [])) (base := w1.heap.size) (hg.ext x08) (hb.ext x08 (iM _)) (by omega) (A3.nil _ _) (by have := x08.size; omega) hl (by simp)).mono ?_
  rintro r w9 ⟨hr, x9⟩
  have hE : jJ (k : Nat) 3 l (0, []) = .error 11 := by unfold jJ; rw [if_neg hkk, if_neg (by omega), if_neg (by omega), if_pos rfl, if_pos rfl]
  rw [hE] at hr
  have hr : r = _ := hr
  subst hr
  simp (disch := omega) only [cJ, hP, aD, dP, fH, fR, gQ, gN, gI, gR, iR, gT, eC, fZ, fY, gB, fP, fB, gU, fM, gG, gS, gX, gM, eS, gZ, gP, gF, lG, lH, oZ, oR, oY, oX, oU, oT, oS, cW, Result.ok.injEq, Next.value.injEq, true_and, and_true, eM, gE, gY, gV, gW, iO, Int.toNat_natCast, fO, fG, fN, eZ, eD, dW, eU, eB, cY, cQ, if_true, if_false, Bool.false_eq_true, Nat.zero_add, Option.isNone_some, Option.isNone_none, Bool.not_true, Bool.not_false, List.getElem?_cons_succ, List.getElem?_cons_zero, cR, aZ, bU, bW, bV, bC, eA, dE, dH, cX, aI, eE, bO, aE, dJ, dK, dL, dD, bK, bN, cF, bA, cE, cI, bF, cM, cK, cV, cL, cC, bZ, cH, dQ, bY, cS, dU, bQ, dB, aX, cG, dV, bG, aQ, aN, aM, aJ, aP, aS, aC, cN, bE, cZ, bS, cD, cU, aR, aW, aV, aY, aU, aL, aH, aB, dA, aG, aF, bM, bB, bJ, dF, bD, cA, bH, bT, bR, aK, dT, aT, dN, dO, aO, cB, bX, dM, eT]
  refine hX fun wa oa xa sa => ?_
  refine gK oa rfl (by simp [one]) (by simp) fun wb o2b xb sb => ?_
  have x9b : gA w8 wb jQ := x9.seq (xa.new xb (Nat.le_refl _))
  have x5b := (x6.seq x68).seq x9b
  have xx := x08.seq x9b
  have p1 := o4.ext x5b (fun h => h)
  have p2 := ob5.ext x5b (fun h => h)
  have p3 := o8.ext x9b (fun h => h)
  have p4 := ob8.ext x9b (fun h => h)
  have c1 := p1.cell (off := 1)
  have c3 := p3.cell (off := 1)
  simp only [List.getElem?_cons_zero, List.getElem?_cons_succ] at c1 c3
  have n1 : (((L.length : Nat) : Int) != ((L.length : Nat) : Int)) = false := by simp
  have n2 : ((0 : Int) != 0) = false := rfl
  have n2' : (((0 : Nat) : Int) != 0) = false := rfl
  have n3 : ((11 : Int) != 11) = false := rfl
  unfold jS lY
  simp (disch := omega) only [cJ, hP, aD, dP, fH, fR, gQ, gN, gI, gR, iR, gT, eC, fZ, fY, gB, fP, fB, gU, fM, gG, gS, gX, gM, eS, gZ, gP, gF, lG, lH, oZ, oR, oY, oX, oU, oT, oS, cW, Result.ok.injEq, Next.value.injEq, true_and, and_true, eM, gE, gY, gV, gW, iO, Int.toNat_natCast, fO, fG, fN, eZ, eD, dW, eU, eB, cY, cQ, if_true, if_false, Bool.false_eq_true, Nat.zero_add, Option.isNone_some, Option.isNone_none, Bool.not_true, Bool.not_false, List.getElem?_cons_succ, List.getElem?_cons_zero, cR, aZ, bU, bW, bV, bC, eA, dE, dH, cX, aI, eE, bO, aE, dJ, dK, dL, dD, bK, bN, cF, bA, cE, cI, bF, cM, cK, cV, cL, cC, bZ, cH, dQ, bY, cS, dU, bQ, dB, aX, cG, dV, bG, aQ, aN, aM, aJ, aP, aS, aC, cN, bE, cZ, bS, cD, cU, aR, aW, aV, aY, aU, aL, aH, aB, dA, aG, aF, bM, bB, bJ, dF, bD, cA, bH, bT, bR, aK, dT, aT, dN, dO, aO, cB, bX, dM, eT, c1, c3, n1, n2, n2', n3]
  unfold jZ mB lM jV mA
  refine iV.rule (fun m (t : Value) w' => ∃ i : Nat, m = L.length - i ∧ t = .int .i64 i ∧ i ≤ L.length ∧ gA wb w' jQ) L.length ⟨0, rfl, rfl, by omega, gA.refl _ _⟩ ?_
  rintro m t w' ⟨i, rfl, rfl, hi, xl⟩
  have c1 := (p1.ext xl (fun h => h)).cell (off := 1)
  have c3 := (p3.ext xl (fun h => h)).cell (off := 1)
  simp only [List.getElem?_cons_zero, List.getElem?_cons_succ] at c1 c3
  unfold jW
  by_cases hlt : i < L.length
  · have d3 : decide ((i : Int) < (L.length : Int)) = true := by simp; omega
    have c1d := (jG (p1.ext xl (fun h => h))).cell (off := 1)
    have c3d := (jG (p3.ext xl (fun h => h))).cell (off := 1)
    simp only [List.getElem?_cons_zero, List.getElem?_cons_succ] at c1d c3d
    have q2 := pK (off := i * 3) (p2.ext xl (fun h => h)) (by rw [mE]; omega)
    have q4 := pK (off := i * 3) (p4.ext xl (fun h => h)) (by rw [mE]; omega)
    have q2d := pK (off := i * 3) (jG (p2.ext xl (fun h => h))) (by rw [mE]; omega)
    have q4d := pK (off := i * 3) (jG (p4.ext xl (fun h => h))) (by rw [mE]; omega)
    rw [Hy hlt] at q2 q4 q2d q4d
    have nn : ∀ a c d : Int, (!(a == a && c == c && d == d)) = false := fun a c d => by simp
    simp (disch := omega) only [cJ, hP, aD, dP, fH, fR, gQ, gN, gI, gR, iR, gT, eC, fZ, fY, gB, fP, fB, gU, fM, gG, gS, gX, gM, eS, gZ, gP, gF, lG, lH, oZ, oR, oY, oX, oU, oT, oS, cW, Result.ok.injEq, Next.value.injEq, true_and, and_true, eM, gE, gY, gV, gW, iO, Int.toNat_natCast, fO, fG, fN, eZ, eD, dW, eU, eB, cY, cQ, if_true, if_false, Bool.false_eq_true, Nat.zero_add, Option.isNone_some, Option.isNone_none, Bool.not_true, Bool.not_false, List.getElem?_cons_succ, List.getElem?_cons_zero, cR, aZ, bU, bW, bV, bC, eA, dE, dH, cX, aI, eE, bO, aE, dJ, dK, dL, dD, bK, bN, cF, bA, cE, cI, bF, cM, cK, cV, cL, cC, bZ, cH, dQ, bY, cS, dU, bQ, dB, aX, cG, dV, bG, aQ, aN, aM, aJ, aP, aS, aC, cN, bE, cZ, bS, cD, cU, aR, aW, aV, aY, aU, aL, aH, aB, dA, aG, aF, bM, bB, bJ, dF, bD, cA, bH, bT, bR, aK, dT, aT, dN, dO, aO, cB, bX, dM, eT, d3, c1, c3, c1d, c3d, q2, q4, q2d, q4d, HF, nn]
    exact ⟨L.length - (i + 1), by omega, i + 1, rfl, rfl, by omega, xl.seq (gA.dr _ _)⟩
  · have d3 : decide ((i : Int) < (L.length : Int)) = false := by simp; omega
    have n4 : ((0 : Int) == 0) = true := rfl
    have wy : IntKind.i64.wrap (sym : Int) = (sym : Int) := eM (by omega) (by omega)
    have bq := @Hd
    unfold jT
    simp (disch := omega) only [cJ, hP, aD, dP, fH, fR, gQ, gN, gI, gR, iR, gT, eC, fZ, fY, gB, fP, fB, gU, fM, gG, gS, gX, gM, eS, gZ, gP, gF, lG, lH, oZ, oR, oY, oX, oU, oT, oS, cW, Result.ok.injEq, Next.value.injEq, true_and, and_true, eM, gE, gY, gV, gW, iO, Int.toNat_natCast, fO, fG, fN, eZ, eD, dW, eU, eB, cY, cQ, if_true, if_false, Bool.false_eq_true, Nat.zero_add, Option.isNone_some, Option.isNone_none, Bool.not_true, Bool.not_false, List.getElem?_cons_succ, List.getElem?_cons_zero, cR, aZ, bU, bW, bV, bC, eA, dE, dH, cX, aI, eE, bO, aE, dJ, dK, dL, dD, bK, bN, cF, bA, cE, cI, bF, cM, cK, cV, cL, cC, bZ, cH, dQ, bY, cS, dU, bQ, dB, aX, cG, dV, bG, aQ, aN, aM, aJ, aP, aS, aC, cN, bE, cZ, bS, cD, cU, aR, aW, aV, aY, aU, aL, aH, aB, dA, aG, aF, bM, bB, bJ, dF, bD, cA, bH, bT, bR, aK, dT, aT, dN, dO, aO, cB, bX, dM, eT, d3, c1, n4, wy]
    rw [beq_self_eq_true]
    exact ⟨rfl, xx.seq xl⟩
end Go.Proofs.YtoepfjgekpdddaaDoor
