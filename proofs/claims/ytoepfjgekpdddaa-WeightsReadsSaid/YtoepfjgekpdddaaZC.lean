/- Parts of the proof of WeightsReads: merged and given short names by a program of ours. -/
import Derived.Laws.Strings
import Derived.Test.YtoepfjgekpdddaaZB
namespace Go.En
open Go
def Cl (w : World) (sz : Nat) (v : Value) (n : Nat) (l : List Value) : Prop :=
  ∃ a c, v = .slice a n c ∧ l.length = n * sz ∧ (0 < n → ∃ b off, a = some ⟨b, off, none⟩ ∧ ∀ i, i < l.length → w.cell? ⟨b, off + i, none⟩ = l[i]?)
def nG (w : World) (base sz : Nat) (v : Value) (n : Nat) (l : List Value) : Prop :=
  l.length = n * sz ∧ ((v = .slice none 0 0 ∧ n = 0) ∨
    ∃ b c rest, v = .slice (some ⟨b, 0, none⟩) n c ∧ base ≤ b ∧ fA w b (l ++ rest) ∧ (l ++ rest).length = c * sz ∧ n ≤ c)
def OSS (w : World) (S : Nat → Prop) (sz : Nat) (v : Value) (n : Nat) (l : List Value) : Prop :=
  l.length = n * sz ∧ ((v = .slice none 0 0 ∧ n = 0) ∨
    ∃ b c rest, v = .slice (some ⟨b, 0, none⟩) n c ∧ S b ∧ fA w b (l ++ rest) ∧ (l ++ rest).length = c * sz ∧ n ≤ c)
theorem Sl.cl {w : World} {v : Value} {l : List Value} (h : Sl w v l) : Cl w 1 v l.length l := by
  obtain ⟨a, n, c, rfl, rfl, hc, h⟩ := h
  exact ⟨a, c, rfl, by omega, fun h0 => h h0⟩
theorem fA.cl {w : World} {b sz n c off : Nat} {cs l : List Value} (h : fA w b cs) (hl : l.length = n * sz) (hcs : ∀ i, i < l.length → cs[off + i]? = l[i]?) : Cl w sz (.slice (some ⟨b, off, none⟩) n c) n l :=
  ⟨_, _, rfl, hl, fun _ => ⟨b, off, rfl, fun i hi => by rw [h.cell, hcs i hi]⟩⟩
theorem nG.nil (w : World) (base sz : Nat) : nG w base sz (.slice none 0 0) 0 [] := ⟨by simp, .inl ⟨rfl, rfl⟩⟩
theorem nG.ext {w w' : World} {base sz n : Nat} {v : Value} {l : List Value} {M : Nat → Prop} (h : nG w base sz v n l) (hx : bZ w w' M) (hM : ∀ b, base ≤ b → ¬ M b) : nG w' base sz v n l := by
  refine ⟨h.1, ?_⟩
  rcases h.2 with h2 | ⟨b, c, rest, h1, h2, h3, h4, h5⟩
  · exact .inl h2
  · exact .inr ⟨b, c, rest, h1, h2, h3.ext hx (hM b h2), h4, h5⟩
theorem nG.cl {w : World} {base sz n : Nat} {v : Value} {l : List Value} (h : nG w base sz v n l) : Cl w sz v n l := by
  rcases h.2 with ⟨rfl, rfl⟩ | ⟨b, c, rest, rfl, h2, h3, h4, h5⟩
  · exact ⟨_, _, rfl, h.1, fun h => by omega⟩
  · refine ⟨_, _, rfl, h.1, fun _ => ⟨b, 0, rfl, fun i hi => ?_⟩⟩
    rw [h3.cell, Nat.zero_add, List.getElem?_append_left hi]
theorem nG.sl {w : World} {base n : Nat} {v : Value} {l : List Value} (h : nG w base 1 v n l) : Sl w v l := by
  have hl := h.1
  rcases h.2 with ⟨rfl, rfl⟩ | ⟨b, c, rest, rfl, h2, h3, h4, h5⟩
  · exact ⟨_, _, _, rfl, by omega, by omega, fun h => by omega⟩
  · refine ⟨_, _, _, rfl, by omega, h5, fun _ => ⟨b, 0, rfl, fun i hi => ?_⟩⟩
    rw [h3.cell, Nat.zero_add, List.getElem?_append_left (by omega)]
section
variable {P : Program} {w : World} {t e : TypeId}
theorem Xs {b off : Nat} {l : List Value} (h : ∀ i, i < l.length → w.cell? ⟨b, off + i, none⟩ = l[i]?) : (loadCells ⟨b, off, none⟩ l.length).run P w = .ok l.toArray w := by
  have := Xw (P := P) h l.length (Nat.le_refl _)
  rwa [List.take_length] at this
theorem vE {sz n : Nat} {v : Value} {l : List Value} (h : Cl w sz v n l) : (Builtin.firstCells sz n v).run P w = .ok l.toArray w := by
  obtain ⟨x, c, rfl, hl, hh⟩ := h
  cases x with
  | none =>
    have : n = 0 := by
      rcases Nat.eq_zero_or_pos n with h | h
      · exact h
      · obtain ⟨b, off, e, _⟩ := hh h; cases e
    subst this
    have : l = [] := List.length_eq_zero_iff.1 (by omega)
    subst this
    simp [Builtin.firstCells]
  | some x =>
    simp only [Builtin.firstCells]
    rw [← hl]
    by_cases h0 : 0 < n
    · obtain ⟨b, off, e, h2⟩ := hh h0
      have e := Option.some.inj e; subst e
      exact Xs h2
    · have : n = 0 := by omega
      subst this
      have : l = [] := List.length_eq_zero_iff.1 (by omega)
      subst this
      simp [loadCells, loadCellsFrom]
theorem lL (zs : Array Value) (n : Nat) : (Builtin.zeroCells zs n).size = n * zs.size := by simp [Builtin.zeroCells]
theorem MU (vs : List Value) : ∀ (ajV rest : List Value), vs.length ≤ rest.length → cY (ajV ++ rest) ajV.length vs = ajV ++ vs ++ rest.drop vs.length := by
  induction vs with
  | nil => intro ajV rest _; simp [cY]
  | cons v vs ih =>
    intro ajV rest h
    cases rest with
    | nil => simp at h
    | cons r rest =>
      have := ih (ajV ++ [v]) rest (by simpa using h)
      simp only [cY, List.length_append, List.length_cons, List.length_nil, List.append_assoc, List.cons_append, List.nil_append] at this ⊢
      rw [List.drop_succ_cons, ← this, List.set_append_right _ _ (Nat.le_refl _), Nat.sub_self, List.set_cons_zero, Nat.zero_add]
theorem TI {S : Nat → Prop} {sz n m : Nat} {i : TypeInfo} {z : Value} {ty t2 e2 : TypeId} (hu : P.underlying t = some (.slice e)) (hu2 : P.underlying t2 = some (.slice e2)) (hi : P.info? e = some i) (hsz : i.size = sz) (hz : i.zero = some z) (hzs : z.cells.size = sz)
    {v x : Value} {l news : List Value} (h : OSS w S sz v n l) (hx : Cl w sz x m news) (hone : ∀ y ∈ news, one y = true) (hb : ∀ b, w.heap.size ≤ b → S b)
    (hn : n + m ≤ 9223372036854775807) (hbytes : (n + m) * i.bytes ≤ 140737488355328) (_hpos : i.bytes ≠ 0)
    {K : Value → World → Prop} (hk : ∀ v' w', OSS w' S sz v' (n + m) (l ++ news) → bZ w w' S → K v' w') : aD P (iJ .append #[t, t2] ty [v, x]) w K := by
  have hlx : (Builtin.lenOf x).run P w = .ok m w := by
    obtain ⟨a, c, rfl, _⟩ := hx; simp [Builtin.lenOf]
  have hnl := hx.choose_spec.choose_spec.2.1
  have hfx := vE (P := P) hx
  have hmax : IntKind.i64.max = 9223372036854775807 := by decide
  have hnot : ¬ (((n + m : Nat) : Int) > IntKind.i64.max ∧ (False ∨ i.bytes = 0)) := by rw [hmax]; omega
  have hz' : ∀ w, (zeroValue e).run P w = .ok z w := fun w => by simp [zeroValue, typeInfo, hi, hz]
  have hlen := h.1
  rcases h.2 with ⟨rfl, rfl⟩ | ⟨b, c, rest, rfl, h2, h3, h4, h5⟩
  ·
    have hl0 : l = [] := List.length_eq_zero_iff.1 (by omega)
    subst hl0
    by_cases hm : m = 0
    · subst hm
      have hn0 : news = [] := List.length_eq_zero_iff.1 (by omega)
      subst hn0
      have : (iJ .append #[t, t2] ty [.slice none 0 0, x]).run P w = .ok (.value (.slice none 0 0)) w := by
        unfold iJ builtin
        simp only [Builtin.append_, List.getElem?_toArray, List.getElem?_cons_zero, List.getElem?_cons_succ]
        simp only [underlying, Sem.run_bind, run_program, Result.andThen_ok, hu, hu2, Sem.run_pure, gV hi, hsz, Bool.false_eq_true, if_false, hlx, Nat.le_refl, Nat.add_zero, if_true, Bool.not_false, hfx]
      unfold aD
      rw [this]
      exact hk _ _ ⟨by simp, .inl ⟨rfl, by omega⟩⟩ (bZ.refl _ _)
    · have hfit := growslice_fits (need := 0 + m) (old := 0) (bytes := i.bytes) (by omega) (by omega)
      have hfit' : ¬ (Builtin.nextslicecap (0 + m) 0 * i.bytes > 2 ^ 48) := by omega
      have hle : ¬ (0 + m ≤ 0) := by omega
      have hq : (Question.appendCap (0 + m) 0 e).forced = false := rfl
      obtain ⟨r, hr⟩ : ∃ r, (Question.appendCap (0 + m) 0 e).cut (w.tape w.drawn (.appendCap (0 + m) 0 e)) = m + r :=
        ⟨(w.tape w.drawn (.appendCap (0 + m) 0 e)) % (2 ^ 63 - (0 + m)), by simp only [Question.cut]; omega⟩
      have : (iJ .append #[t, t2] ty [.slice none 0 0, x]).run P w = .ok (.value (.slice (some ⟨w.heap.size, 0, none⟩) (0 + m) (m + r))) ((dr w).alloc (.cells (news ++ (Builtin.zeroCells z.cells (m + r - (0 + m))).toList).toArray e)) := by
        have hfx' := vE (P := P) (w := dr w) hx
        unfold iJ builtin
        simp only [Builtin.append_, List.getElem?_toArray, List.getElem?_cons_zero, List.getElem?_cons_succ]
        simp only [underlying, typeInfo, Sem.run_bind, run_program, Result.andThen_ok, hu, hu2, hi, Sem.run_pure, gV hi, hsz, Bool.false_eq_true, if_false, hlx, hle, Bool.not_false, if_true, hnot, hfit', run_choose, hq, hr, run_askRoom]
        change ((Sem.run P _ (dr w)).andThen _).andThen _ = _
        simp only [Sem.run_bind, hfx', run_firstCells_none, Result.andThen_ok, hz', Sem.run_pure, newRow, run_newObj]
        have e1 : (#[] ++ news.toArray ++ Builtin.zeroCells z.cells (m + r - (0 + m)) : Array Value) = (news ++ (Builtin.zeroCells z.cells (m + r - (0 + m))).toList).toArray := by
          apply Array.ext'; simp
        rw [e1]
        rfl
      unfold aD
      rw [this]
      refine hk _ _ ⟨by simp only [List.nil_append]; rw [hnl, Nat.zero_add], .inr ⟨w.heap.size, m + r, (Builtin.zeroCells z.cells (m + r - (0 + m))).toList, by rw [Nat.zero_add], hb _ (Nat.le_refl _), fA.alloc (dr w) _ _, ?_, by omega⟩⟩ ((bZ.dr w _).seq (bZ.alloc _ _ _))
      simp only [List.nil_append, List.length_append, Array.length_toList, lL, hzs, hnl]
      rw [show m + r - (0 + m) = r from by omega, Nat.add_mul]
  · by_cases hc : n + m ≤ c
    ·
      have hroom : news.length ≤ rest.length := by
        rw [List.length_append, hlen] at h4
        have : (n + m) * sz ≤ c * sz := Nat.mul_le_mul_right _ hc
        rw [Nat.add_mul] at this; omega
      obtain ⟨w', s1, s2, s3, s4, _⟩ := Fq (P := P) (M := S) h2 news w (n * sz) 0 (l ++ rest) h3 (by rw [List.length_append, hlen]; omega) hone
      have : (iJ .append #[t, t2] ty [.slice (some ⟨b, 0, none⟩) n c, x]).run P w = .ok (.value (.slice (some ⟨b, 0, none⟩) (n + m) c)) w' := by
        unfold iJ builtin
        simp only [Builtin.append_, List.getElem?_toArray, List.getElem?_cons_zero, List.getElem?_cons_succ]
        simp only [underlying, Sem.run_bind, run_program, Result.andThen_ok, hu, hu2, Sem.run_pure, gV hi, hsz, Bool.false_eq_true, if_false, hlx, hc, if_true, Bool.not_false, hfx, EL, Nat.zero_add, s1]
      unfold aD
      rw [this]
      rw [Nat.add_zero, ← hlen, MU _ _ _ hroom] at s2
      refine hk _ _ ⟨by rw [List.length_append, hlen, hnl, Nat.add_mul], .inr ⟨b, c, rest.drop news.length, rfl, h2, s2, ?_, hc⟩⟩ s3
      rw [← h4]; simp; omega
    ·
      have hfit := growslice_fits (need := n + m) (old := c) (bytes := i.bytes) (by omega) hbytes
      have hfit' : ¬ (Builtin.nextslicecap (n + m) c * i.bytes > 2 ^ 48) := by omega
      have hq : (Question.appendCap (n + m) c e).forced = false := rfl
      obtain ⟨r, hr⟩ : ∃ r, (Question.appendCap (n + m) c e).cut (w.tape w.drawn (.appendCap (n + m) c e)) = n + m + r :=
        ⟨(w.tape w.drawn (.appendCap (n + m) c e)) % (2 ^ 63 - (n + m)), by simp only [Question.cut]⟩
      have hold : Cl (dr w) sz (.slice (some ⟨b, 0, none⟩) n c) n l := ⟨_, _, rfl, hlen, fun _ => ⟨b, 0, rfl, fun i hi => by
        show w.cell? _ = _
        rw [h3.cell, Nat.zero_add, List.getElem?_append_left hi]⟩⟩
      have : (iJ .append #[t, t2] ty [.slice (some ⟨b, 0, none⟩) n c, x]).run P w = .ok (.value (.slice (some ⟨w.heap.size, 0, none⟩) (n + m) (n + m + r))) ((dr w).alloc (.cells (l ++ news ++ (Builtin.zeroCells z.cells (n + m + r - (n + m))).toList).toArray e)) := by
        have hfx' := vE (P := P) (w := dr w) hx
        have hfo := vE (P := P) hold
        unfold iJ builtin
        simp only [Builtin.append_, List.getElem?_toArray, List.getElem?_cons_zero, List.getElem?_cons_succ]
        simp only [underlying, typeInfo, Sem.run_bind, run_program, Result.andThen_ok, hu, hu2, hi, Sem.run_pure, gV hi, hsz, Bool.false_eq_true, if_false, hlx, hc, Bool.not_false, if_true, hnot, hfit', run_choose, hq, hr, run_askRoom]
        change ((Sem.run P _ (dr w)).andThen _).andThen _ = _
        simp only [Sem.run_bind, hfx', hfo, Result.andThen_ok, hz', Sem.run_pure, newRow, run_newObj]
        have e1 : (l.toArray ++ news.toArray ++ Builtin.zeroCells z.cells (n + m + r - (n + m)) : Array Value) = (l ++ news ++ (Builtin.zeroCells z.cells (n + m + r - (n + m))).toList).toArray := by
          apply Array.ext'; simp
        rw [e1]
        rfl
      unfold aD
      rw [this]
      refine hk _ _ ⟨by rw [List.length_append, hlen, hnl, Nat.add_mul], .inr ⟨w.heap.size, n + m + r, _, rfl, hb _ (Nat.le_refl _), fA.alloc (dr w) _ _, ?_, by omega⟩⟩ ((bZ.dr w _).seq (bZ.alloc _ _ _))
      simp only [List.length_append, Array.length_toList, lL, hzs, hnl, hlen]
      rw [show n + m + r - (n + m) = r from by omega, Nat.add_mul, Nat.add_mul]
theorem IN {base sz n m : Nat} {i : TypeInfo} {z : Value} {ty t2 e2 : TypeId} (hu : P.underlying t = some (.slice e)) (hu2 : P.underlying t2 = some (.slice e2)) (hi : P.info? e = some i) (hsz : i.size = sz) (hz : i.zero = some z) (hzs : z.cells.size = sz)
    {v x : Value} {l news : List Value} (h : nG w base sz v n l) (hx : Cl w sz x m news) (hone : ∀ y ∈ news, one y = true) (hb : base ≤ w.heap.size)
    (hn : n + m ≤ 9223372036854775807) (hbytes : (n + m) * i.bytes ≤ 140737488355328) (_hpos : i.bytes ≠ 0)
    {K : Value → World → Prop} (hk : ∀ v' w', nG w' base sz v' (n + m) (l ++ news) → bZ w w' (fun y => base ≤ y) → K v' w') : aD P (iJ .append #[t, t2] ty [v, x]) w K :=
  TI (S := fun y => base ≤ y) hu hu2 hi hsz hz hzs h hx hone (fun _ h => Nat.le_trans hb h) hn hbytes _hpos hk
end
end Go.En
namespace Go.En
open Go
section
variable {P : Program} {w : World} {t e : TypeId}
theorem Eo {i : TypeInfo} {z : Value} {n : Nat} {ps : List (Nat × Value)} {cells : Array Value} (hu : P.underlying t = some (.slice e)) (hi : P.info? e = some i) (hz : i.zero = some z)
    (h1 : ¬ n * i.size > 2 ^ 24) (h0 : ¬ n * i.size = 0) (hf : Instr.fill (fun j => some (j * i.size, i.size)) ((Array.range (n * i.size)).map (z.cells[· % z.cells.size]!)) ps = some cells)
    {K : Value → World → Prop} (hk : ∀ w', fA w' w.heap.size cells.toList → bZ w w' fN → w'.heap.size = w.heap.size + 1 → K (.slice (some ⟨w.heap.size, 0, none⟩) n n) w') :
    aD P (cQ t n ps) w K := by
  have hz' : (zeroValue e).run P w = .ok z w := by simp [zeroValue, typeInfo, hi, hz]
  have : (cQ t n ps).run P w = .ok (.value (.slice (some ⟨w.heap.size, 0, none⟩) n n)) (w.alloc (.cells cells.toList.toArray e)) := by
    unfold cQ; rw [nK]
    simp only [Instr.buildSlice, underlying, pure_bind, Sem.run_bind, run_program, Result.andThen_ok, hu, Sem.run_pure, gV hi, h1, h0, if_false, hz', hf, newRow, run_newObj]
    rfl
  unfold aD
  rw [this]
  exact hk _ (fA.alloc _ _ _) (bZ.alloc _ _ _) (by simp)
end
end Go.En
namespace Go.En
open Go
section
variable {P : Program} {w : World} {t e : TypeId}
def aiX (es : Array MapEntry) (clock : Nat) : Prop := (es.toList.map (·.born)).Pairwise (· < ·) ∧ ∀ e ∈ es.toList, e.born < clock
def Mp {κ : Type} (w : World) (m : Nat) (enc : κ → Value) (l : List (κ × Value)) : Prop :=
  ∃ es clock, w.heap[m]? = some (.map es clock) ∧ es.toList.map (fun e => (e.key, e.val)) = l.map (fun p => (enc p.1, p.2)) ∧ aiX es clock ∧ (l.map (·.1)).Nodup
theorem Mp.lt {κ : Type} {m : Nat} {enc : κ → Value} {l : List (κ × Value)} (h : Mp w m enc l) : m < w.heap.size := by
  obtain ⟨es, c, h, _⟩ := h
  rcases Nat.lt_or_ge m w.heap.size with h' | h'
  · exact h'
  · rw [Array.getElem?_eq_none h'] at h; cases h
theorem Mp.ext {κ : Type} {w w' : World} {m : Nat} {enc : κ → Value} {l : List (κ × Value)} {M : Nat → Prop} (h : Mp w m enc l) (hx : bZ w w' M) (hM : ¬ M m) : Mp w' m enc l := by
  have := h.lt
  obtain ⟨es, c, h, k⟩ := h
  exact ⟨es, c, by rw [hx.keep m this hM]; exact h, k⟩
theorem Mp.dr {κ : Type} {w : World} {m : Nat} {enc : κ → Value} {l : List (κ × Value)} (h : Mp w m enc l) : Mp (dr w) m enc l := h
variable {κ : Type} [DecidableEq κ] {enc : κ → Value}
end
theorem iO {w : World} {b : Nat} {cs : List Value} (h : fA w b cs) : fA (dr w) b cs := h.ext (bZ.dr w fN) (fun h => h)
theorem Sl.dr {w : World} {v : Value} {l : List Value} (h : Sl w v l) : Sl (dr w) v l := h
theorem Sl.open {w : World} {v : Value} {l : List UInt8} (h : Bs w v l) (h0 : 0 < l.length) : ∃ b off c, v = .slice (some ⟨b, off, none⟩) l.length c ∧ l.length ≤ c ∧ ∀ i, (h : i < l.length) → w.cell? ⟨b, off + i, none⟩ = some (Ic l[i]) := by
  obtain ⟨a, n, c, rfl, hn, hc, h⟩ := h
  simp only [List.length_map] at hn
  subst hn
  obtain ⟨b, off, rfl, hh⟩ := h h0
  exact ⟨b, off, c, rfl, hc, fun i hi => by rw [hh i hi]; simp [hi]⟩
theorem Sl.len {w : World} {v : Value} {l : List Value} (h : Sl w v l) : ∃ a c, v = .slice a l.length c ∧ l.length ≤ c := by
  obtain ⟨a, n, c, rfl, rfl, hc, _⟩ := h
  exact ⟨a, c, rfl, hc⟩
theorem eI (v : Value) : ¬ YD v fN := by unfold YD fN; split <;> simp
theorem Zp {b o m l : Nat} (h : l ≠ m) : kW (some ⟨b, o, none⟩) m l 1 = some ⟨b, o + l, none⟩ := by
  unfold kW; rw [if_neg (fun e => h e.symm)]; simp [EL]
theorem Yz {v : Value} {M N : Nat → Prop} (h : YD v M) (hm : ∀ b, M b → N b) : YD v N := by
  unfold YD at *
  split at h
  · exact hm _ h
  · exact h
end Go.En
namespace Go.En
open Go
theorem nG.len {w : World} {b sz n : Nat} {v : Value} {l : List Value} (h : nG w b sz v n l) : ∃ a c, v = .slice a n c := by
  rcases h.2 with ⟨rfl, rfl⟩ | ⟨x, c, r, rfl, _⟩
  · exact ⟨_, _, rfl⟩
  · exact ⟨_, _, rfl⟩
theorem nG.lower {w : World} {a b sz n : Nat} {v : Value} {l : List Value} (h : nG w b sz v n l) (hab : a ≤ b) : nG w a sz v n l := by
  refine ⟨h.1, ?_⟩
  rcases h.2 with h | ⟨x, c, r, h1, h2, h3⟩
  · exact .inl h
  · exact .inr ⟨x, c, r, h1, by omega, h3⟩
theorem Sl.nil (w : World) : Sl w (.slice none 0 0) [] := ⟨none, 0, 0, rfl, rfl, Nat.le_refl _, fun h => absurd h (by simp)⟩
theorem Sl.take' {w : World} {a : Option Addr} {n c : Nat} {l : List Value} (h : Sl w (.slice a n c) l) {k : Nat} (hk : k ≤ n) : Sl w (.slice (kW a c 0 1) (k - 0) (c - 0)) (l.take k) := by
  have h' := h
  obtain ⟨a', n', c', e, hn, hc, hh⟩ := h'
  cases e
  by_cases h0 : k = 0
  · subst h0
    exact ⟨_, _, _, rfl, by simp, by omega, fun h => by simp at h⟩
  · obtain ⟨b, off, rfl, _⟩ := hh (by omega)
    exact h.take hk
theorem Sl.drop' {w : World} {a : Option Addr} {n c : Nat} {l : List Value} (h : Sl w (.slice a n c) l) {k : Nat} (hk : k ≤ n) : Sl w (.slice (kW a c k 1) (n - k) (c - k)) (l.drop k) := by
  have h' := h
  obtain ⟨a', n', c', e, hn, hc, hh⟩ := h'
  cases e
  by_cases h0 : n = 0
  · exact ⟨_, _, _, rfl, by rw [List.length_drop]; omega, by omega, fun h => by omega⟩
  · obtain ⟨b, off, rfl, _⟩ := hh (by omega)
    exact h.drop hk
theorem Sl.openV {w : World} {v : Value} {l : List Value} (h : Sl w v l) (h0 : 0 < l.length) : ∃ b off c, v = .slice (some ⟨b, off, none⟩) l.length c ∧ l.length ≤ c ∧ ∀ i, (h : i < l.length) → w.cell? ⟨b, off + i, none⟩ = some l[i] := by
  obtain ⟨a, n, c, rfl, hn, hc, h⟩ := h
  subst hn
  obtain ⟨b, off, rfl, hh⟩ := h h0
  exact ⟨b, off, c, rfl, hc, fun i hi => by rw [hh i hi]; simp [hi]⟩
theorem Sl.openI {w : World} {v : Value} {k : IntKind} {l : List Int} (h : Sl w v (l.map (Value.int k))) (h0 : 0 < l.length) : ∃ b off c, v = .slice (some ⟨b, off, none⟩) l.length c ∧ l.length ≤ c ∧ ∀ i, (h : i < l.length) → w.cell? ⟨b, off + i, none⟩ = some (.int k l[i]) := by
  obtain ⟨b, off, c, e, hc, hh⟩ := h.openV (by simpa using h0)
  simp only [List.length_map] at e hc hh
  exact ⟨b, off, c, e, hc, fun i hi => by rw [hh i hi]; simp⟩
theorem Sl.lenI {w : World} {v : Value} {k : IntKind} {l : List Int} (h : Sl w v (l.map (Value.int k))) : ∃ a c, v = .slice a l.length c ∧ l.length ≤ c := by
  obtain ⟨a, c, e, hc⟩ := h.len
  simp only [List.length_map] at e hc
  exact ⟨a, c, e, hc⟩
def DD (n : Nat) (l : List Value) : List Value := (List.replicate n l).flatten
theorem Qr (n : Nat) (l : List Value) : (DD n l).length = n * l.length := by
  unfold DD; rw [List.length_flatten]; simp
theorem acE : ∀ (n : Nat) (l : List Value) (j : Nat) (_ : j < n * l.length) (h0 : 0 < l.length), (DD n l)[j]? = some (l[j % l.length]'(Nat.mod_lt _ h0)) := by
  intro n
  induction n with
  | zero => intro l j h; simp at h
  | succ n ih =>
    intro l j h h0
    unfold DD
    rw [List.replicate_succ, List.flatten_cons]
    by_cases hj : j < l.length
    · rw [List.getElem?_append_left hj, List.getElem?_eq_getElem hj]
      simp only [Nat.mod_eq_of_lt hj]
    · rw [List.getElem?_append_right (by omega)]
      have := ih l (j - l.length) (by rw [Nat.succ_mul] at h; omega) h0
      unfold DD at this
      rw [this]
      simp only [← Nat.mod_eq_sub_mod (show j ≥ l.length by omega)]
theorem WQ {P : Program} {w : World} {t e : TypeId} {k : IntKind} {i : TypeInfo} {z : Value} {sz : Nat} (hu : P.underlying t = some (.slice e)) (hi : P.info? e = some i) (h1 : i.size = sz) (hsz : 0 < sz) (hz : i.zero = some z) (hz1 : z.cells.size = sz) {n : Int} (h0 : 0 ≤ n) (hn : i.bytes * n ≤ 2 ^ 48) (hn2 : n ≤ 9223372036854775807)
    {K : Value → World → Prop}
    (hk : ∀ w', fA w' w.heap.size (DD n.toNat z.cells.toList) → bZ w w' fN → w'.heap.size = w.heap.size + 1 → K (.slice (some ⟨w.heap.size, 0, none⟩) n.toNat n.toNat) w') :
    aD P (oD t (.int k n) (.int k n)) w K := by
  have hw : IntKind.i64.wrap n = n := bD (by omega) hn2
  have hl : z.cells.toList.length = sz := by simpa using hz1
  have harr : (Array.range (n.toNat * sz)).map (fun j => z.cells[j % z.cells.size]!) = (DD n.toNat z.cells.toList).toArray := by
    apply Array.ext
    · simp [Qr, hz1]
    · intro j h1 h2
      have hj : j < n.toNat * sz := by simpa using h1
      have := acE n.toNat z.cells.toList j (by rw [hl]; exact hj) (by rw [hl]; exact hsz)
      have hm : j % z.cells.size < z.cells.size := Nat.mod_lt _ (by omega)
      simp only [Array.getElem_map, Array.getElem_range, List.getElem_toArray]
      rw [getElem!_pos z.cells _ hm]
      rw [List.getElem?_eq_getElem (by rw [Qr, hl]; exact hj)] at this
      have := Option.some.inj this
      rw [this]
      simp
  have hz' : (zeroValue e).run P w = .ok z w := by simp [zeroValue, typeInfo, hi, hz]
  have : (oD t (.int k n) (.int k n)).run P w = .ok (.value (.slice (some ⟨w.heap.size, 0, none⟩) n.toNat n.toNat)) (w.alloc (.cells (DD n.toNat z.cells.toList).toArray e)) := by
    unfold oD
    rw [nK]
    have t1 : (decide (n < 0) || decide ((i.bytes : Int) * n > 2 ^ 48) || decide (n < 0) || decide (n > n)) = false := by
      simp only [Bool.or_eq_false_iff, decide_eq_false_iff_not]; omega
    by_cases hn0 : n.toNat * sz = 0
    · simp only [Instr.makeSlice, underlying, typeInfo, asInt, asIntOf, pure_bind, Sem.run_bind, run_program, Result.andThen_ok, hu, hi, Sem.run_pure, hw, t1, Bool.false_eq_true, if_false, run_askRoom, gV hi, h1, hn0, if_true, newRow, run_newObj]
      have hn : n.toNat = 0 := by rcases Nat.mul_eq_zero.1 hn0 with h | h <;> omega
      have : (Array.range 0).map (fun x => (#[] : Array Value)[x % (#[] : Array Value).size]!) = (DD n.toNat z.cells.toList).toArray := by rw [hn]; simp [DD]
      rw [this]
      rfl
    · simp only [Instr.makeSlice, underlying, typeInfo, asInt, asIntOf, pure_bind, Sem.run_bind, run_program, Result.andThen_ok, hu, hi, Sem.run_pure, hw, t1, Bool.false_eq_true, if_false, run_askRoom, gV hi, h1, hn0, hz', newRow, run_newObj, harr]
      rfl
  unfold aD
  rw [this]
  exact hk _ (fA.alloc _ _ _) (bZ.alloc _ _ _) (by simp)
abbrev T3 := Int × Int × Int
def fe (k : IntKind) : List T3 → List Value
  | [] => []
  | e :: r => .int k e.1 :: .int .i64 e.2.1 :: .int .i64 e.2.2 :: fe k r
theorem jB (k : IntKind) : ∀ L : List T3, (fe k L).length = L.length * 3
  | [] => rfl
  | e :: r => by simp [fe, jB k r]; omega
theorem WP (k : IntKind) : ∀ L M : List T3, fe k (L ++ M) = fe k L ++ fe k M
  | [], _ => rfl
  | e :: r, M => by simp [fe, WP k r M]
theorem KE (k : IntKind) : ∀ (L : List T3) (i : Nat) (h : i < L.length), (fe k L)[i * 3]? = some (.int k L[i].1) ∧ (fe k L)[i * 3 + 1]? = some (.int .i64 L[i].2.1) ∧ (fe k L)[i * 3 + 2]? = some (.int .i64 L[i].2.2)
  | [], i, h => by simp at h
  | e :: r, 0, _ => ⟨rfl, rfl, rfl⟩
  | e :: r, i + 1, h => by
    have := KE k r i (by simpa using h)
    rw [Nat.add_mul]
    exact this
theorem Sp (k : IntKind) : ∀ (L : List T3) (i : Nat) (h : i < L.length) (x : Int), (fe k L).set (i * 3) (.int k x) = fe k (L.set i (x, L[i].2)) ∧ (fe k L).set (i * 3 + 1) (.int .i64 x) = fe k (L.set i (L[i].1, x, L[i].2.2)) ∧ (fe k L).set (i * 3 + 2) (.int .i64 x) = fe k (L.set i (L[i].1, L[i].2.1, x))
  | [], i, h, _ => by simp at h
  | e :: r, 0, _, x => ⟨rfl, rfl, rfl⟩
  | e :: r, i + 1, h, x => by
    have := Sp k r i (by simpa using h) x
    rw [Nat.add_mul]
    obtain ⟨h1, h2, h3⟩ := this
    refine ⟨?_, ?_, ?_⟩
    · show (_ :: _ :: _ :: (fe k r).set (i * 3) _) = _; rw [h1]; rfl
    · show (_ :: _ :: _ :: (fe k r).set (i * 3 + 1) _) = _; rw [h2]; rfl
    · show (_ :: _ :: _ :: (fe k r).set (i * 3 + 2) _) = _; rw [h3]; rfl
theorem aaC (k : IntKind) (x : Int) : ∀ n : Nat, DD n [.int k x, .int .i64 0, .int .i64 0] = fe k (List.replicate n (x, 0, 0))
  | 0 => rfl
  | n + 1 => by
    have := aaC k x n
    unfold DD at this ⊢
    rw [List.replicate_succ, List.flatten_cons, this, List.replicate_succ]; rfl
end Go.En
namespace Go.Proofs.Ytoepfjgekpdddaa
open Go Go.En
set_option linter.unusedVariables false
set_option maxRecDepth 4000
theorem cI {ty : TypeId} (x : Option Addr) (n c : Nat) (w : World) : (iJ .len #[22] ty [.slice x n c]).run pg w = .ok (.value (.int .i64 n)) w := OI Try.underlying22 x n c
theorem fZ {k : IntKind} (a : Int) (w : World) : (jH 3 49 (.int k a)).run pg w = .ok (.value (.int .u64 (IntKind.u64.wrap a))) w := IB Try.underlying3 Try.underlying49
theorem fI {k : IntKind} (a : Int) (w : World) : (jH 3 5 (.int k a)).run pg w = .ok (.value (.int .u8 (IntKind.u8.wrap a))) w := IB Try.underlying3 Try.underlying5
theorem XD : (pg).info? 5 = some Try.t5 := by kernel_rfl
theorem kP {n : Nat} {ps : List (Nat × Value)} {cells : Array Value} {w : World} (h1 : ¬ n * 1 > 2 ^ 24) (h0 : ¬ n * 1 = 0) (hf : Go.Instr.fill (fun j => some (j * 1, 1)) ((Array.range (n * 1)).map ((Try.t5.zero.get!).cells[· % (Try.t5.zero.get!).cells.size]!)) ps = some cells) {K : Value → World → Prop} (hk : ∀ w', fA w' w.heap.size cells.toList → bZ w w' fN → w'.heap.size = w.heap.size + 1 → K (.slice (some ⟨w.heap.size, 0, none⟩) n n) w') : aD pg (cQ 22 n ps) w K := Eo (i := Try.t5) Try.underlying22 XD rfl h1 h0 hf hk
theorem jN {base n m : Nat} {ty : TypeId} {w : World} {v x : Value} {l news : List Value} (h : nG w base 1 v n l) (hx : Cl w 1 x m news) (hone : ∀ y ∈ news, one y = true) (hb : base ≤ w.heap.size) (hbytes : (n + m) * 1 ≤ 140737488355328) {K : Value → World → Prop} (hk : ∀ v' w', nG w' base 1 v' (n + m) (l ++ news) → bZ w w' (fun y => base ≤ y) → K v' w') : aD pg (iJ .append #[22, 22] ty [v, x]) w K := IN (i := Try.t5) Try.underlying22 Try.underlying22 XD rfl rfl rfl h hx hone hb (by omega) hbytes (by decide) hk
theorem gA {ty : TypeId} (x : ByteArray) (w : World) : (iJ .len #[9] ty [.string x]).run pg w = .ok (.value (.int .i64 x.size)) w := aiD Try.underlying9 x
theorem kK {l : List UInt8} {v : Value} {w : World} (h : Bs w v l) : (jH 22 9 v).run pg w = .ok (.value (.string ⟨l.toArray⟩)) w := adQ Try.underlying22 Try.underlying9 Try.underlying5 h
theorem aeM : (pg).info? 36 = some Try.t36 := by kernel_rfl
theorem Ma {k : IntKind} {n : Int} {w : World} {K : Value → World → Prop} (h0 : 0 ≤ n) (hn : 16 * n ≤ 2 ^ 48) (hk : ∀ w', fA w' w.heap.size (DD n.toNat [(.int .i64 0), (.int .i64 0)]) → bZ w w' fN → w'.heap.size = w.heap.size + 1 → K (.slice (some ⟨w.heap.size, 0, none⟩) n.toNat n.toNat) w') : aD pg (oD 29 (.int k n) (.int k n)) w K := WQ (i := Try.t36) Try.underlying29 aeM rfl (by decide) rfl rfl h0 hn (by omega) hk
theorem eJ {k : IntKind} {a : Int} (b o n c : Nat) (w : World) (h0 : 0 ≤ a) (h1 : a < n) : (cD 22 (.slice (some ⟨b, o, none⟩) n c) (.int k a)).run pg w = .ok (.value (.pointer (some ⟨b, o + a.toNat, none⟩))) w := LW rfl Try.underlying22 XD b o n c h0 h1
theorem fX (x : Addr) (w : World) : (aW 5 (.pointer (some x))).run pg w = ldC (w.cell? x) w (far pg 5 x w) := XC Try.underlying5 rfl x w
theorem eY {k : IntKind} (a : Int) (w : World) : (jH 5 3 (.int k a)).run pg w = .ok (.value (.int .i64 (IntKind.i64.wrap a))) w := IB Try.underlying5 Try.underlying3
theorem fS (n0 : Int) (n1 : Int) (w : World) : (fV 36 [(0, (.int .i64 n0)), (1, (.int .i64 n1))]).run pg w = .ok (.value (.agg #[(.int .i64 n0), (.int .i64 n1)])) w := by kernel_rfl
theorem gO {k : IntKind} {a : Int} (b o n c : Nat) (w : World) (h0 : 0 ≤ a) (h1 : a < n) : (cD 29 (.slice (some ⟨b, o, none⟩) n c) (.int k a)).run pg w = .ok (.value (.pointer (some ⟨b, o + a.toNat * 2, none⟩))) w := LO rfl Try.underlying29 aeM b o n c h0 h1
theorem SV {b off : Nat} {cs : List Value} {w : World} {xs : Array Value} {K : Value → World → Prop} (ho : fA w b cs) (hs : xs.size = 2) (hv : ∀ x ∈ xs.toList, one x = true) (h : off + 2 ≤ cs.length) (hk : ∀ w', fA w' b (cY cs off xs.toList) → bZ w w' (fun x => x = b) → w'.heap.size = w.heap.size → K undef w') : aD pg (cB 36 (.pointer (some ⟨b, off, none⟩)) (.agg xs)) w K := oC (v := .agg xs) aeM ho hs hv h hk
theorem gQ  (w : World) : (fV 37 []).run pg w = .ok (.value (.agg #[(.int .i64 0), (.int .i64 0)])) w := by kernel_rfl
theorem aiV : (pg).info? 37 = some Try.t37 := by kernel_rfl
theorem iF {k : IntKind} {a : Int} (x : ByteArray) (w : World) (h0 : 0 ≤ a) (h1 : a.toNat < x.size) : (Oc 9 (.string x) (.int k a)).run pg w = .ok (.value (.int .u8 (x[a.toNat]'h1).toNat)) w := ahR Try.underlying9 x h0 h1
theorem fU (n0 : Int) (n1 : Int) (w : World) : (fV 37 [(0, (.int .i64 n0)), (1, (.int .i64 n1))]).run pg w = .ok (.value (.agg #[(.int .i64 n0), (.int .i64 n1)])) w := by kernel_rfl
theorem fY {k : IntKind} {a : Int} (b o n c : Nat) (w : World) (h0 : 0 ≤ a) (h1 : a < n) : (cD 32 (.slice (some ⟨b, o, none⟩) n c) (.int k a)).run pg w = .ok (.value (.pointer (some ⟨b, o + a.toNat * 2, none⟩))) w := LO rfl Try.underlying32 aiV b o n c h0 h1
theorem gX {k : IntKind} {lo : Int} (a : Option Addr) (n c : Nat) (w : World) (h0 : 0 ≤ lo) (h1 : lo ≤ n) : (jU 22 (.slice a n c) (some (.int k lo)) none none).run pg w = .ok (.value (.slice (kW a c (lo.toNat) 1) (n - lo.toNat) (c - lo.toNat))) w := V9 Try.underlying22 XD _ n c h0 h1
theorem jW {k : IntKind} {hi : Int} (a : Option Addr) (n c : Nat) (w : World) (h0 : 0 ≤ hi) (h1 : hi ≤ c) : (jU 22 (.slice a n c) none (some (.int k hi)) none).run pg w = .ok (.value (.slice (kW a c (0) 1) (hi.toNat - 0) (c - 0))) w := Ni Try.underlying22 XD _ n c h0 h1
theorem gK {ty : TypeId} (x : Option Addr) (n c : Nat) (w : World) : (iJ .len #[43] ty [.slice x n c]).run pg w = .ok (.value (.int .i64 n)) w := OI Try.underlying43 x n c
theorem acS : (pg).info? 45 = some Try.t45 := by kernel_rfl
theorem fT {k : IntKind} {a : Int} (b o n c : Nat) (w : World) (h0 : 0 ≤ a) (h1 : a < n) : (cD 43 (.slice (some ⟨b, o, none⟩) n c) (.int k a)).run pg w = .ok (.value (.pointer (some ⟨b, o + a.toNat, none⟩))) w := LW rfl Try.underlying43 acS b o n c h0 h1
theorem iT (x : Addr) (w : World) : (aW 45 (.pointer (some x))).run pg w = ldC (w.cell? x) w (far pg 45 x w) := XC Try.underlying45 rfl x w
theorem gG {k : IntKind} (a : Int) (w : World) : (jH 45 44 (.int k a)).run pg w = .ok (.value (.int .u64 (IntKind.u64.wrap a))) w := IB Try.underlying45 Try.underlying44
theorem jL {k : IntKind} {hi : Int} (a : Option Addr) (n c : Nat) (w : World) (h0 : 0 ≤ hi) (h1 : hi ≤ c) : (jU 43 (.slice a n c) none (some (.int k hi)) none).run pg w = .ok (.value (.slice (kW a c (0) 1) (hi.toNat - 0) (c - 0))) w := Ni Try.underlying43 acS _ n c h0 h1
theorem dT {ty : TypeId} (x : Option Addr) (n c : Nat) (w : World) : (iJ .len #[62] ty [.slice x n c]).run pg w = .ok (.value (.int .i64 n)) w := OI Try.underlying62 x n c
theorem FR : (pg).info? 3 = some Try.t3 := by kernel_rfl
theorem dN {k : IntKind} {a : Int} (b o n c : Nat) (w : World) (h0 : 0 ≤ a) (h1 : a < n) : (cD 62 (.slice (some ⟨b, o, none⟩) n c) (.int k a)).run pg w = .ok (.value (.pointer (some ⟨b, o + a.toNat, none⟩))) w := LW rfl Try.underlying62 FR b o n c h0 h1
theorem cP (x : Addr) (w : World) : (aW 3 (.pointer (some x))).run pg w = ldC (w.cell? x) w (far pg 3 x w) := XC Try.underlying3 rfl x w
theorem jV {k : IntKind} (a : Int) (w : World) : (jH 49 45 (.int k a)).run pg w = .ok (.value (.int .u32 (IntKind.u32.wrap a))) w := IB Try.underlying49 Try.underlying45
theorem jQ {ox oy : Operand} (x : Option Addr) (n c : Nat) (w : World) : (aN .eql 22 ox oy (.slice x n c) (.slice none 0 0)).run pg w = .ok (.value (.bool x.isNone)) w := agR Try.underlying22 x n c
theorem WG {k : IntKind} {n : Int} {w : World} {K : Value → World → Prop} (h0 : 0 ≤ n) (hn : 8 * n ≤ 2 ^ 48) (hk : ∀ w', fA w' w.heap.size (List.replicate n.toNat (.int .i64 0)) → bZ w w' fN → w'.heap.size = w.heap.size + 1 → K (.slice (some ⟨w.heap.size, 0, none⟩) n.toNat n.toNat) w') : aD pg (oD 62 (.int k n) (.int k n)) w K := acM (i := Try.t3) Try.underlying62 FR rfl rfl rfl h0 hn (by omega) hk
theorem pH {b off : Nat} {cs : List Value} {w : World} {v : Value} {K : Value → World → Prop} (ho : fA w b cs) (hv : one v = true) (h : off < cs.length) (hk : ∀ w', fA w' b (cs.set off v) → bZ w w' (fun x => x = b) → w'.heap.size = w.heap.size → K undef w') : aD pg (cB 3 (.pointer (some ⟨b, off, none⟩)) v) w K := FO FR rfl ho hv h hk
theorem kD {k : IntKind} (a : Int) (w : World) : (jH 45 5 (.int k a)).run pg w = .ok (.value (.int .u8 (IntKind.u8.wrap a))) w := IB Try.underlying45 Try.underlying5
theorem jJ {k : IntKind} (a : Int) (w : World) : (jH 44 5 (.int k a)).run pg w = .ok (.value (.int .u8 (IntKind.u8.wrap a))) w := IB Try.underlying44 Try.underlying5
end Go.Proofs.Ytoepfjgekpdddaa
namespace Go.Proofs.Ytoepfjgekpdddaa
open Go Go.En
set_option linter.unusedVariables false
set_option maxRecDepth 4000
theorem Xm {n : Nat} {ps : List (Nat × Value)} {cells : Array Value} {w : World} (h1 : ¬ n * 1 > 2 ^ 24) (h0 : ¬ n * 1 = 0) (hf : Go.Instr.fill (fun j => some (j * 1, 1)) ((Array.range (n * 1)).map ((Try.t45.zero.get!).cells[· % (Try.t45.zero.get!).cells.size]!)) ps = some cells) {K : Value → World → Prop} (hk : ∀ w', fA w' w.heap.size cells.toList → bZ w w' fN → w'.heap.size = w.heap.size + 1 → K (.slice (some ⟨w.heap.size, 0, none⟩) n n) w') : aD pg (cQ 43 n ps) w K := Eo (i := Try.t45) Try.underlying43 acS rfl h1 h0 hf hk
theorem NO {ty : TypeId} (x : Option Addr) (n c : Nat) (w : World) : (iJ .len #[29] ty [.slice x n c]).run pg w = .ok (.value (.int .i64 n)) w := OI Try.underlying29 x n c
theorem KH (b o : Nat) (w : World) : (bA 36 (.pointer (some ⟨b, o, none⟩)) 0).run pg w = .ok (.value (.pointer (some ⟨b, o, none⟩))) w := jP (i := 0) Try.underlying36 rfl FR (by decide) _
theorem Ly (b o : Nat) (w : World) : (bA 36 (.pointer (some ⟨b, o, none⟩)) 1).run pg w = .ok (.value (.pointer (some ⟨b, o + 1, none⟩))) w := jP (i := 1) Try.underlying36 rfl FR (by decide) _
end Go.Proofs.Ytoepfjgekpdddaa
namespace Go.Proofs.Ytoepfjgekpdddaa
open Go Go.En
set_option linter.unusedVariables false
set_option maxRecDepth 4000
theorem Al {k : IntKind} {lo : Int} (x : ByteArray) (w : World) (h0 : 0 ≤ lo) (h1 : lo ≤ x.size) : (jU 9 (.string x) (some (.int k lo)) none none).run pg w = .ok (.value (.string (x.extract lo.toNat x.size))) w := YQ Try.underlying9  x h0 h1
theorem V8 {k k' : IntKind} {lo hi : Int} (x : ByteArray) (w : World) (h0 : 0 ≤ lo) (h1 : lo ≤ hi) (h2 : hi ≤ x.size) : (jU 9 (.string x) (some (.int k lo)) (some (.int k' hi)) none).run pg w = .ok (.value (.string (x.extract lo.toNat hi.toNat))) w := WC Try.underlying9  x h0 h1 h2
theorem ZY : (pg).info? 69 = some Try.t69 := by kernel_rfl
theorem tI {w : World} {K : Value → World → Prop} (hk : ∀ w', fA w' w.heap.size [(.int .i64 0), (.slice none 0 0)] → bZ w w' fN → w'.heap.size = w.heap.size + 1 → K (.pointer (some ⟨w.heap.size, 0, none⟩)) w') : aD pg (hT 69) w K := qI (i := Try.t69) ZY rfl hk
theorem mZ {b off : Nat} {cs : List Value} {w : World} {xs : Array Value} {K : Value → World → Prop} (ho : fA w b cs) (hs : xs.size = 2) (hv : ∀ x ∈ xs.toList, one x = true) (h : off + 2 ≤ cs.length) (hk : ∀ w', fA w' b (cY cs off xs.toList) → bZ w w' (fun x => x = b) → w'.heap.size = w.heap.size → K undef w') : aD pg (cB 69 (.pointer (some ⟨b, off, none⟩)) (.agg xs)) w K := oC (v := .agg xs) ZY ho hs hv h hk
theorem jX {b off : Nat} {cs : List Value} {w : World} (ho : fA w b cs) (h : off + 2 ≤ cs.length) : (aW 69 (.pointer (some ⟨b, off, none⟩))).run pg w = .ok (.value (.agg ((cs.drop off).take 2).toArray)) w := F9 Try.underlying69 rfl ZY ho h
theorem Z2 : (pg).info? 77 = some Try.t77 := by kernel_rfl
theorem D6 {w : World} {K : Value → World → Prop} (hk : ∀ w', fA w' w.heap.size [(.int .i64 0), (.slice none 0 0)] → bZ w w' fN → w'.heap.size = w.heap.size + 1 → K (.pointer (some ⟨w.heap.size, 0, none⟩)) w') : aD pg (hT 77) w K := qI (i := Try.t77) Z2 rfl hk
theorem Cf {b off : Nat} {cs : List Value} {w : World} {xs : Array Value} {K : Value → World → Prop} (ho : fA w b cs) (hs : xs.size = 2) (hv : ∀ x ∈ xs.toList, one x = true) (h : off + 2 ≤ cs.length) (hk : ∀ w', fA w' b (cY cs off xs.toList) → bZ w w' (fun x => x = b) → w'.heap.size = w.heap.size → K undef w') : aD pg (cB 77 (.pointer (some ⟨b, off, none⟩)) (.agg xs)) w K := oC (v := .agg xs) Z2 ho hs hv h hk
theorem TM  (w : World) : (fV 80 []).run pg w = .ok (.value (.agg #[(.int .i64 0), (.int .i64 0)])) w := by kernel_rfl
theorem ahC : (pg).info? 80 = some Try.t80 := by kernel_rfl
theorem Zh {w : World} {K : Value → World → Prop} (hk : ∀ w', fA w' w.heap.size [(.int .i64 0), (.int .i64 0)] → bZ w w' fN → w'.heap.size = w.heap.size + 1 → K (.pointer (some ⟨w.heap.size, 0, none⟩)) w') : aD pg (hT 80) w K := qI (i := Try.t80) ahC rfl hk
theorem X7 {b off : Nat} {cs : List Value} {w : World} {xs : Array Value} {K : Value → World → Prop} (ho : fA w b cs) (hs : xs.size = 2) (hv : ∀ x ∈ xs.toList, one x = true) (h : off + 2 ≤ cs.length) (hk : ∀ w', fA w' b (cY cs off xs.toList) → bZ w w' (fun x => x = b) → w'.heap.size = w.heap.size → K undef w') : aD pg (cB 80 (.pointer (some ⟨b, off, none⟩)) (.agg xs)) w K := oC (v := .agg xs) ahC ho hs hv h hk
theorem Hs {b off : Nat} {cs : List Value} {w : World} (ho : fA w b cs) (h : off + 2 ≤ cs.length) : (aW 77 (.pointer (some ⟨b, off, none⟩))).run pg w = .ok (.value (.agg ((cs.drop off).take 2).toArray)) w := F9 Try.underlying77 rfl Z2 ho h
theorem Nj {k : IntKind} {a : Int} (b o : Nat) (w : World) (h0 : 0 ≤ a) (h1 : a < 2) : (cD 80 (.pointer (some ⟨b, o, none⟩)) (.int k a)).run pg w = .ok (.value (.pointer (some ⟨b, o + a.toNat, none⟩))) w := W6 rfl Try.underlying80 FR b o h0 (by simpa using h1)
theorem ajG : (pg).info? 75 = some Try.t75 := by kernel_rfl
theorem hP (b o : Nat) (w : World) : (bA 77 (.pointer (some ⟨b, o, none⟩)) 1).run pg w = .ok (.value (.pointer (some ⟨b, o + 1, none⟩))) w := jP (i := 1) Try.underlying77 rfl ajG (by decide) _
theorem kB (x : Addr) (w : World) : (aW 75 (.pointer (some x))).run pg w = ldC (w.cell? x) w (far pg 75 x w) := XC Try.underlying75 rfl x w
theorem Ya : (pg).info? 84 = some Try.t84 := by kernel_rfl
theorem mK {k : IntKind} {a : Int} (b o n c : Nat) (w : World) (h0 : 0 ≤ a) (h1 : a < n) : (cD 75 (.slice (some ⟨b, o, none⟩) n c) (.int k a)).run pg w = .ok (.value (.pointer (some ⟨b, o + a.toNat * 3, none⟩))) w := LO rfl Try.underlying75 Ya b o n c h0 h1
theorem MP {b off : Nat} {cs : List Value} {w : World} (ho : fA w b cs) (h : off + 3 ≤ cs.length) : (aW 84 (.pointer (some ⟨b, off, none⟩))).run pg w = .ok (.value (.agg ((cs.drop off).take 3).toArray)) w := F9 Try.underlying84 rfl Ya ho h
theorem PG {w : World} {K : Value → World → Prop} (hk : ∀ w', fA w' w.heap.size [(.int .u8 0), (.int .i64 0), (.int .i64 0)] → bZ w w' fN → w'.heap.size = w.heap.size + 1 → K (.pointer (some ⟨w.heap.size, 0, none⟩)) w') : aD pg (hT 84) w K := qI (i := Try.t84) Ya rfl hk
theorem MX {b off : Nat} {cs : List Value} {w : World} {xs : Array Value} {K : Value → World → Prop} (ho : fA w b cs) (hs : xs.size = 3) (hv : ∀ x ∈ xs.toList, one x = true) (h : off + 3 ≤ cs.length) (hk : ∀ w', fA w' b (cY cs off xs.toList) → bZ w w' (fun x => x = b) → w'.heap.size = w.heap.size → K undef w') : aD pg (cB 84 (.pointer (some ⟨b, off, none⟩)) (.agg xs)) w K := oC (v := .agg xs) Ya ho hs hv h hk
theorem kZ (b o : Nat) (w : World) : (bA 84 (.pointer (some ⟨b, o, none⟩)) 0).run pg w = .ok (.value (.pointer (some ⟨b, o, none⟩))) w := jP (i := 0) Try.underlying84 rfl XD (by decide) _
theorem rO (b o : Nat) (w : World) : (bA 84 (.pointer (some ⟨b, o, none⟩)) 1).run pg w = .ok (.value (.pointer (some ⟨b, o + 1, none⟩))) w := jP (i := 1) Try.underlying84 rfl FR (by decide) _
theorem ZU : (pg).info? 86 = some Try.t86 := by kernel_rfl
theorem mM {w : World} {K : Value → World → Prop} (hk : ∀ w', fA w' w.heap.size [(.int .i64 0), (.slice none 0 0)] → bZ w w' fN → w'.heap.size = w.heap.size + 1 → K (.pointer (some ⟨w.heap.size, 0, none⟩)) w') : aD pg (hT 86) w K := qI (i := Try.t86) ZU rfl hk
theorem kF {b off : Nat} {cs : List Value} {w : World} {xs : Array Value} {K : Value → World → Prop} (ho : fA w b cs) (hs : xs.size = 2) (hv : ∀ x ∈ xs.toList, one x = true) (h : off + 2 ≤ cs.length) (hk : ∀ w', fA w' b (cY cs off xs.toList) → bZ w w' (fun x => x = b) → w'.heap.size = w.heap.size → K undef w') : aD pg (cB 86 (.pointer (some ⟨b, off, none⟩)) (.agg xs)) w K := oC (v := .agg xs) ZU ho hs hv h hk
theorem aaB : (pg).info? 91 = some Try.t91 := by kernel_rfl
theorem iM {w : World} {K : Value → World → Prop} (hk : ∀ w', fA w' w.heap.size [(.slice none 0 0), (.int .i64 0)] → bZ w w' fN → w'.heap.size = w.heap.size + 1 → K (.pointer (some ⟨w.heap.size, 0, none⟩)) w') : aD pg (hT 91) w K := qI (i := Try.t91) aaB rfl hk
theorem dK {b off : Nat} {cs : List Value} {w : World} {xs : Array Value} {K : Value → World → Prop} (ho : fA w b cs) (hs : xs.size = 2) (hv : ∀ x ∈ xs.toList, one x = true) (h : off + 2 ≤ cs.length) (hk : ∀ w', fA w' b (cY cs off xs.toList) → bZ w w' (fun x => x = b) → w'.heap.size = w.heap.size → K undef w') : aD pg (cB 91 (.pointer (some ⟨b, off, none⟩)) (.agg xs)) w K := oC (v := .agg xs) aaB ho hs hv h hk
theorem jD {b off : Nat} {cs : List Value} {w : World} (ho : fA w b cs) (h : off + 2 ≤ cs.length) : (aW 86 (.pointer (some ⟨b, off, none⟩))).run pg w = .ok (.value (.agg ((cs.drop off).take 2).toArray)) w := F9 Try.underlying86 rfl ZU ho h
theorem Z1 : (pg).info? 96 = some Try.t96 := by kernel_rfl
theorem sN {w : World} {K : Value → World → Prop} (hk : ∀ w', fA w' w.heap.size [(.int .i64 0), (.slice none 0 0)] → bZ w w' fN → w'.heap.size = w.heap.size + 1 → K (.pointer (some ⟨w.heap.size, 0, none⟩)) w') : aD pg (hT 96) w K := qI (i := Try.t96) Z1 rfl hk
theorem qT {b off : Nat} {cs : List Value} {w : World} {xs : Array Value} {K : Value → World → Prop} (ho : fA w b cs) (hs : xs.size = 2) (hv : ∀ x ∈ xs.toList, one x = true) (h : off + 2 ≤ cs.length) (hk : ∀ w', fA w' b (cY cs off xs.toList) → bZ w w' (fun x => x = b) → w'.heap.size = w.heap.size → K undef w') : aD pg (cB 96 (.pointer (some ⟨b, off, none⟩)) (.agg xs)) w K := oC (v := .agg xs) Z1 ho hs hv h hk
theorem mC {b off : Nat} {cs : List Value} {w : World} (ho : fA w b cs) (h : off + 2 ≤ cs.length) : (aW 96 (.pointer (some ⟨b, off, none⟩))).run pg w = .ok (.value (.agg ((cs.drop off).take 2).toArray)) w := F9 Try.underlying96 rfl Z1 ho h
theorem fC {b off : Nat} {cs : List Value} {w : World} (ho : fA w b cs) (h : off + 2 ≤ cs.length) : (aW 91 (.pointer (some ⟨b, off, none⟩))).run pg w = .ok (.value (.agg ((cs.drop off).take 2).toArray)) w := F9 Try.underlying91 rfl aaB ho h
theorem ahE : (pg).info? 94 = some Try.t94 := by kernel_rfl
theorem dX (b o : Nat) (w : World) : (bA 96 (.pointer (some ⟨b, o, none⟩)) 1).run pg w = .ok (.value (.pointer (some ⟨b, o + 1, none⟩))) w := jP (i := 1) Try.underlying96 rfl ahE (by decide) _
theorem dQ (x : Addr) (w : World) : (aW 94 (.pointer (some x))).run pg w = ldC (w.cell? x) w (far pg 94 x w) := XC Try.underlying94 rfl x w
theorem S3 : (pg).info? 103 = some Try.t103 := by kernel_rfl
theorem fH {k : IntKind} {a : Int} (b o n c : Nat) (w : World) (h0 : 0 ≤ a) (h1 : a < n) : (cD 94 (.slice (some ⟨b, o, none⟩) n c) (.int k a)).run pg w = .ok (.value (.pointer (some ⟨b, o + a.toNat * 3, none⟩))) w := LO rfl Try.underlying94 S3 b o n c h0 h1
theorem J3 {b off : Nat} {cs : List Value} {w : World} (ho : fA w b cs) (h : off + 3 ≤ cs.length) : (aW 103 (.pointer (some ⟨b, off, none⟩))).run pg w = .ok (.value (.agg ((cs.drop off).take 3).toArray)) w := F9 Try.underlying103 rfl S3 ho h
theorem Kk {w : World} {K : Value → World → Prop} (hk : ∀ w', fA w' w.heap.size [(.int .i64 0), (.int .i64 0), (.int .i64 0)] → bZ w w' fN → w'.heap.size = w.heap.size + 1 → K (.pointer (some ⟨w.heap.size, 0, none⟩)) w') : aD pg (hT 103) w K := qI (i := Try.t103) S3 rfl hk
theorem Jy {b off : Nat} {cs : List Value} {w : World} {xs : Array Value} {K : Value → World → Prop} (ho : fA w b cs) (hs : xs.size = 3) (hv : ∀ x ∈ xs.toList, one x = true) (h : off + 3 ≤ cs.length) (hk : ∀ w', fA w' b (cY cs off xs.toList) → bZ w w' (fun x => x = b) → w'.heap.size = w.heap.size → K undef w') : aD pg (cB 103 (.pointer (some ⟨b, off, none⟩)) (.agg xs)) w K := oC (v := .agg xs) S3 ho hs hv h hk
theorem iG (b o : Nat) (w : World) : (bA 103 (.pointer (some ⟨b, o, none⟩)) 0).run pg w = .ok (.value (.pointer (some ⟨b, o, none⟩))) w := jP (i := 0) Try.underlying103 rfl FR (by decide) _
theorem mH (b o : Nat) (w : World) : (bA 103 (.pointer (some ⟨b, o, none⟩)) 1).run pg w = .ok (.value (.pointer (some ⟨b, o + 1, none⟩))) w := jP (i := 1) Try.underlying103 rfl FR (by decide) _
theorem F3 {b off : Nat} {cs : List Value} {w : World} (ho : fA w b cs) (h : off + 2 ≤ cs.length) {K : Value → Prop} (hk : K (.agg ((cs.drop off).take 2).toArray)) : F1 pg 69 (.pointer (some ⟨b, off, none⟩)) w K := LJ Try.underlying69 rfl ZY ho h hk
theorem mO  (w : World) : (fV 69 []).run pg w = .ok (.value (.agg #[(.int .i64 0), (.slice none 0 0)])) w := by kernel_rfl
theorem gN {k : IntKind} (a : Int) (w : World) : (jH 44 3 (.int k a)).run pg w = .ok (.value (.int .i64 (IntKind.i64.wrap a))) w := IB Try.underlying44 Try.underlying3
theorem Oh (n0 : Int) (w : World) : (fV 69 [(0, (.int .i64 n0))]).run pg w = .ok (.value (.agg #[(.int .i64 n0), (.slice none 0 0)])) w := by kernel_rfl
theorem eP (b o : Nat) (w : World) : (bA 69 (.pointer (some ⟨b, o, none⟩)) 0).run pg w = .ok (.value (.pointer (some ⟨b, o, none⟩))) w := jP (i := 0) Try.underlying69 rfl FR (by decide) _
theorem adN : (pg).info? 62 = some Try.t62 := by kernel_rfl
theorem dL (b o : Nat) (w : World) : (bA 69 (.pointer (some ⟨b, o, none⟩)) 1).run pg w = .ok (.value (.pointer (some ⟨b, o + 1, none⟩))) w := jP (i := 1) Try.underlying69 rfl adN (by decide) _
theorem eH (x : Addr) (w : World) : (aW 62 (.pointer (some x))).run pg w = ldC (w.cell? x) w (far pg 62 x w) := XC Try.underlying62 rfl x w
theorem WW {n : Nat} {ps : List (Nat × Value)} {cells : Array Value} {w : World} (h1 : ¬ n * 1 > 2 ^ 24) (h0 : ¬ n * 1 = 0) (hf : Go.Instr.fill (fun j => some (j * 1, 1)) ((Array.range (n * 1)).map ((Try.t3.zero.get!).cells[· % (Try.t3.zero.get!).cells.size]!)) ps = some cells) {K : Value → World → Prop} (hk : ∀ w', fA w' w.heap.size cells.toList → bZ w w' fN → w'.heap.size = w.heap.size + 1 → K (.slice (some ⟨w.heap.size, 0, none⟩) n n) w') : aD pg (cQ 62 n ps) w K := Eo (i := Try.t3) Try.underlying62 FR rfl h1 h0 hf hk
theorem HH {base n m : Nat} {ty : TypeId} {w : World} {v x : Value} {l news : List Value} (h : nG w base 1 v n l) (hx : Cl w 1 x m news) (hone : ∀ y ∈ news, one y = true) (hb : base ≤ w.heap.size) (hbytes : (n + m) * 8 ≤ 140737488355328) {K : Value → World → Prop} (hk : ∀ v' w', nG w' base 1 v' (n + m) (l ++ news) → bZ w w' (fun y => base ≤ y) → K v' w') : aD pg (iJ .append #[62, 62] ty [v, x]) w K := IN (i := Try.t3) Try.underlying62 Try.underlying62 FR rfl rfl rfl h hx hone hb (by omega) hbytes (by decide) hk
theorem ST {b off : Nat} {cs : List Value} {w : World} {v : Value} {K : Value → World → Prop} (ho : fA w b cs) (hv : one v = true) (h : off < cs.length) (hk : ∀ w', fA w' b (cs.set off v) → bZ w w' (fun x => x = b) → w'.heap.size = w.heap.size → K undef w') : aD pg (cB 62 (.pointer (some ⟨b, off, none⟩)) v) w K := FO adN rfl ho hv h hk
theorem KG (a0 : Option Addr) (l0 c0 : Nat) (n1 : Int) (w : World) : (fV 114 [(0, (.slice a0 l0 c0)), (1, (.int .i64 n1))]).run pg w = .ok (.value (.agg #[(.slice a0 l0 c0), (.int .i64 n1)])) w := by kernel_rfl
theorem Wy {b off : Nat} {cs : List Value} {w : World} (ho : fA w b cs) (h : off + 2 ≤ cs.length) {K : Value → Prop} (hk : K (.agg ((cs.drop off).take 2).toArray)) : F1 pg 77 (.pointer (some ⟨b, off, none⟩)) w K := LJ Try.underlying77 rfl Z2 ho h hk
theorem WD  (w : World) : (fV 77 []).run pg w = .ok (.value (.agg #[(.int .i64 0), (.slice none 0 0)])) w := by kernel_rfl
theorem Hy (n0 : Int) (a1 : Option Addr) (l1 c1 : Nat) (w : World) : (fV 77 [(0, (.int .i64 n0)), (1, (.slice a1 l1 c1))]).run pg w = .ok (.value (.agg #[(.int .i64 n0), (.slice a1 l1 c1)])) w := by kernel_rfl
theorem vK {ty : TypeId} (x : Option Addr) (n c : Nat) (w : World) : (iJ .len #[75] ty [.slice x n c]).run pg w = .ok (.value (.int .i64 n)) w := OI Try.underlying75 x n c
theorem F7 (b o : Nat) (w : World) : (bA 84 (.pointer (some ⟨b, o, none⟩)) 2).run pg w = .ok (.value (.pointer (some ⟨b, o + 2, none⟩))) w := jP (i := 2) Try.underlying84 rfl FR (by decide) _
theorem R1 (b o : Nat) (w : World) : (bA 77 (.pointer (some ⟨b, o, none⟩)) 0).run pg w = .ok (.value (.pointer (some ⟨b, o, none⟩))) w := jP (i := 0) Try.underlying77 rfl FR (by decide) _
theorem sG {ox oy : Operand} (x : Option Addr) (w : World) : (aN .eql 72 ox oy (.pointer x) (.pointer none)).run pg w = .ok (.value (.bool x.isNone)) w := aeL Try.underlying72 x
theorem qR (b o : Nat) (w : World) : (bA 114 (.pointer (some ⟨b, o, none⟩)) 1).run pg w = .ok (.value (.pointer (some ⟨b, o + 1, none⟩))) w := jP (i := 1) Try.underlying114 rfl FR (by decide) _
theorem Bq {b off : Nat} {cs : List Value} {w : World} (ho : fA w b cs) (h : off + 2 ≤ cs.length) {K : Value → Prop} (hk : K (.agg ((cs.drop off).take 2).toArray)) : F1 pg 86 (.pointer (some ⟨b, off, none⟩)) w K := LJ Try.underlying86 rfl ZU ho h hk
theorem IR (a0 : Option Addr) (l0 c0 : Nat) (w : World) : (fV 121 [(0, (.slice a0 l0 c0))]).run pg w = .ok (.value (.agg #[(.slice a0 l0 c0), (.int .i64 0)])) w := by kernel_rfl
theorem Xk : (pg).info? 121 = some Try.t121 := by kernel_rfl
theorem sF {w : World} {K : Value → World → Prop} (hk : ∀ w', fA w' w.heap.size [(.slice none 0 0), (.int .i64 0)] → bZ w w' fN → w'.heap.size = w.heap.size + 1 → K (.pointer (some ⟨w.heap.size, 0, none⟩)) w') : aD pg (hT 121) w K := qI (i := Try.t121) Xk rfl hk
theorem cS {b off : Nat} {cs : List Value} {w : World} {xs : Array Value} {K : Value → World → Prop} (ho : fA w b cs) (hs : xs.size = 2) (hv : ∀ x ∈ xs.toList, one x = true) (h : off + 2 ≤ cs.length) (hk : ∀ w', fA w' b (cY cs off xs.toList) → bZ w w' (fun x => x = b) → w'.heap.size = w.heap.size → K undef w') : aD pg (cB 121 (.pointer (some ⟨b, off, none⟩)) (.agg xs)) w K := oC (v := .agg xs) Xk ho hs hv h hk
theorem eU {b off : Nat} {cs : List Value} {w : World} (ho : fA w b cs) (h : off + 2 ≤ cs.length) : (aW 121 (.pointer (some ⟨b, off, none⟩))).run pg w = .ok (.value (.agg ((cs.drop off).take 2).toArray)) w := F9 Try.underlying121 rfl Xk ho h
theorem kG  (w : World) : (fV 86 []).run pg w = .ok (.value (.agg #[(.int .i64 0), (.slice none 0 0)])) w := by kernel_rfl
theorem Az (n0 : Int) (w : World) : (fV 86 [(0, (.int .i64 n0))]).run pg w = .ok (.value (.agg #[(.int .i64 n0), (.slice none 0 0)])) w := by kernel_rfl
theorem cW (b o : Nat) (w : World) : (bA 86 (.pointer (some ⟨b, o, none⟩)) 0).run pg w = .ok (.value (.pointer (some ⟨b, o, none⟩))) w := jP (i := 0) Try.underlying86 rfl FR (by decide) _
theorem bC (b o : Nat) (w : World) : (bA 86 (.pointer (some ⟨b, o, none⟩)) 1).run pg w = .ok (.value (.pointer (some ⟨b, o + 1, none⟩))) w := jP (i := 1) Try.underlying86 rfl adN (by decide) _
theorem gR {b off : Nat} {cs : List Value} {w : World} (ho : fA w b cs) (h : off + 2 ≤ cs.length) {K : Value → Prop} (hk : K (.agg ((cs.drop off).take 2).toArray)) : F1 pg 91 (.pointer (some ⟨b, off, none⟩)) w K := LJ Try.underlying91 rfl aaB ho h hk
theorem qV  (w : World) : (fV 91 []).run pg w = .ok (.value (.agg #[(.slice none 0 0), (.int .i64 0)])) w := by kernel_rfl
theorem oU {ty : TypeId} (x : Option Addr) (n c : Nat) (w : World) : (iJ .len #[89] ty [.slice x n c]).run pg w = .ok (.value (.int .i64 n)) w := OI Try.underlying89 x n c
theorem aaN : (pg).info? 4 = some Try.t4 := by kernel_rfl
theorem Iy {k : IntKind} {a : Int} (b o n c : Nat) (w : World) (h0 : 0 ≤ a) (h1 : a < n) : (cD 89 (.slice (some ⟨b, o, none⟩) n c) (.int k a)).run pg w = .ok (.value (.pointer (some ⟨b, o + a.toNat, none⟩))) w := LW rfl Try.underlying89 aaN b o n c h0 h1
theorem Vk (x : Addr) (w : World) : (aW 4 (.pointer (some x))).run pg w = ldC (w.cell? x) w (far pg 4 x w) := XC Try.underlying4 rfl x w
theorem MT {k : IntKind} {hi : Int} (a : Option Addr) (n c : Nat) (w : World) (h0 : 0 ≤ hi) (h1 : hi ≤ c) : (jU 89 (.slice a n c) none (some (.int k hi)) none).run pg w = .ok (.value (.slice (kW a c (0) 1) (hi.toNat - 0) (c - 0))) w := Ni Try.underlying89 aaN _ n c h0 h1
theorem I2 (a0 : Option Addr) (l0 c0 : Nat) (w : World) : (fV 91 [(0, (.slice a0 l0 c0))]).run pg w = .ok (.value (.agg #[(.slice a0 l0 c0), (.int .i64 0)])) w := by kernel_rfl
theorem JN {b off : Nat} {cs : List Value} {w : World} (ho : fA w b cs) (h : off + 2 ≤ cs.length) {K : Value → Prop} (hk : K (.agg ((cs.drop off).take 2).toArray)) : F1 pg 96 (.pointer (some ⟨b, off, none⟩)) w K := LJ Try.underlying96 rfl Z1 ho h hk
theorem Bi  (w : World) : (fV 96 []).run pg w = .ok (.value (.agg #[(.int .i64 0), (.slice none 0 0)])) w := by kernel_rfl
theorem HZ (n0 : Int) (w : World) : (fV 96 [(0, (.int .i64 n0))]).run pg w = .ok (.value (.agg #[(.int .i64 n0), (.slice none 0 0)])) w := by kernel_rfl
theorem A1 (n0 : Int) (w : World) : (fV 103 [(0, (.int .i64 n0))]).run pg w = .ok (.value (.agg #[(.int .i64 n0), (.int .i64 0), (.int .i64 0)])) w := by kernel_rfl
theorem HQ {n : Nat} {ps : List (Nat × Value)} {cells : Array Value} {w : World} (h1 : ¬ n * 3 > 2 ^ 24) (h0 : ¬ n * 3 = 0) (hf : Go.Instr.fill (fun j => some (j * 3, 3)) ((Array.range (n * 3)).map ((Try.t103.zero.get!).cells[· % (Try.t103.zero.get!).cells.size]!)) ps = some cells) {K : Value → World → Prop} (hk : ∀ w', fA w' w.heap.size cells.toList → bZ w w' fN → w'.heap.size = w.heap.size + 1 → K (.slice (some ⟨w.heap.size, 0, none⟩) n n) w') : aD pg (cQ 94 n ps) w K := Eo (i := Try.t103) Try.underlying94 S3 rfl h1 h0 hf hk
theorem oJ {base n m : Nat} {ty : TypeId} {w : World} {v x : Value} {l news : List Value} (h : nG w base 3 v n l) (hx : Cl w 3 x m news) (hone : ∀ y ∈ news, one y = true) (hb : base ≤ w.heap.size) (hbytes : (n + m) * 24 ≤ 140737488355328) {K : Value → World → Prop} (hk : ∀ v' w', nG w' base 3 v' (n + m) (l ++ news) → bZ w w' (fun y => base ≤ y) → K v' w') : aD pg (iJ .append #[94, 94] ty [v, x]) w K := IN (i := Try.t103) Try.underlying94 Try.underlying94 S3 rfl rfl rfl h hx hone hb (by omega) hbytes (by decide) hk
theorem Hw {b off : Nat} {cs : List Value} {w : World} {v : Value} {K : Value → World → Prop} (ho : fA w b cs) (hv : one v = true) (h : off < cs.length) (hk : ∀ w', fA w' b (cs.set off v) → bZ w w' (fun x => x = b) → w'.heap.size = w.heap.size → K undef w') : aD pg (cB 94 (.pointer (some ⟨b, off, none⟩)) v) w K := FO ahE rfl ho hv h hk
theorem ahN : (pg).info? 128 = some Try.t128 := by kernel_rfl
theorem XK {w : World} {K : Value → World → Prop} (hk : ∀ w', fA w' w.heap.size [(.int .i64 0), (.int .i64 0), (.int .i64 0), (.int .i64 0), (.int .i64 0), (.int .i64 0), (.int .i64 0), (.int .i64 0), (.int .i64 0), (.int .i64 0), (.int .i64 0), (.int .i64 0), (.int .i64 0), (.int .i64 0), (.int .i64 0), (.int .i64 0), (.int .i64 0), (.int .i64 0), (.int .i64 0), (.int .i64 0), (.int .i64 0), (.int .i64 0), (.int .i64 0), (.int .i64 0), (.int .i64 0), (.int .i64 0), (.int .i64 0), (.int .i64 0), (.int .i64 0), (.int .i64 0), (.int .i64 0), (.int .i64 0), (.int .i64 0), (.int .i64 0), (.int .i64 0), (.int .i64 0), (.int .i64 0), (.int .i64 0), (.int .i64 0), (.int .i64 0), (.int .i64 0), (.int .i64 0), (.int .i64 0), (.int .i64 0), (.int .i64 0), (.int .i64 0), (.int .i64 0), (.int .i64 0), (.int .i64 0), (.int .i64 0), (.int .i64 0), (.int .i64 0), (.int .i64 0), (.int .i64 0), (.int .i64 0), (.int .i64 0), (.int .i64 0), (.int .i64 0), (.int .i64 0), (.int .i64 0), (.int .i64 0), (.int .i64 0), (.int .i64 0), (.int .i64 0), (.int .i64 0), (.int .i64 0), (.int .i64 0), (.int .i64 0), (.int .i64 0), (.int .i64 0), (.int .i64 0), (.int .i64 0), (.int .i64 0), (.int .i64 0), (.int .i64 0), (.int .i64 0), (.int .i64 0), (.int .i64 0), (.int .i64 0), (.int .i64 0), (.int .i64 0), (.int .i64 0), (.int .i64 0), (.int .i64 0), (.int .i64 0), (.int .i64 0), (.int .i64 0), (.int .i64 0), (.int .i64 0), (.int .i64 0), (.int .i64 0), (.int .i64 0), (.int .i64 0), (.int .i64 0), (.int .i64 0), (.int .i64 0), (.int .i64 0), (.int .i64 0), (.int .i64 0), (.int .i64 0), (.int .i64 0), (.int .i64 0), (.int .i64 0), (.int .i64 0), (.int .i64 0), (.int .i64 0), (.int .i64 0), (.int .i64 0), (.int .i64 0), (.int .i64 0), (.int .i64 0), (.int .i64 0), (.int .i64 0), (.int .i64 0), (.int .i64 0), (.int .i64 0), (.int .i64 0), (.int .i64 0), (.int .i64 0), (.int .i64 0), (.int .i64 0), (.int .i64 0), (.int .i64 0), (.int .i64 0), (.int .i64 0), (.int .i64 0), (.int .i64 0), (.int .i64 0), (.int .i64 0), (.int .i64 0), (.int .i64 0), (.int .i64 0), (.int .i64 0), (.int .i64 0), (.int .i64 0), (.int .i64 0), (.int .i64 0), (.int .i64 0), (.int .i64 0), (.int .i64 0), (.int .i64 0), (.int .i64 0), (.int .i64 0), (.int .i64 0), (.int .i64 0), (.int .i64 0), (.int .i64 0), (.int .i64 0), (.int .i64 0), (.int .i64 0), (.int .i64 0), (.int .i64 0), (.int .i64 0), (.int .i64 0), (.int .i64 0), (.int .i64 0), (.int .i64 0), (.int .i64 0), (.int .i64 0), (.int .i64 0), (.int .i64 0), (.int .i64 0), (.int .i64 0), (.int .i64 0), (.int .i64 0), (.int .i64 0), (.int .i64 0), (.int .i64 0), (.int .i64 0), (.int .i64 0), (.int .i64 0), (.int .i64 0), (.int .i64 0), (.int .i64 0), (.int .i64 0), (.int .i64 0), (.int .i64 0), (.int .i64 0), (.int .i64 0), (.int .i64 0), (.int .i64 0), (.int .i64 0), (.int .i64 0), (.int .i64 0), (.int .i64 0), (.int .i64 0), (.int .i64 0), (.int .i64 0), (.int .i64 0), (.int .i64 0), (.int .i64 0), (.int .i64 0), (.int .i64 0), (.int .i64 0), (.int .i64 0), (.int .i64 0), (.int .i64 0), (.int .i64 0), (.int .i64 0), (.int .i64 0), (.int .i64 0), (.int .i64 0), (.int .i64 0), (.int .i64 0), (.int .i64 0), (.int .i64 0), (.int .i64 0), (.int .i64 0), (.int .i64 0), (.int .i64 0), (.int .i64 0), (.int .i64 0), (.int .i64 0), (.int .i64 0), (.int .i64 0), (.int .i64 0), (.int .i64 0), (.int .i64 0), (.int .i64 0), (.int .i64 0), (.int .i64 0), (.int .i64 0), (.int .i64 0), (.int .i64 0), (.int .i64 0), (.int .i64 0), (.int .i64 0), (.int .i64 0), (.int .i64 0), (.int .i64 0), (.int .i64 0), (.int .i64 0), (.int .i64 0), (.int .i64 0), (.int .i64 0), (.int .i64 0), (.int .i64 0), (.int .i64 0), (.int .i64 0), (.int .i64 0), (.int .i64 0), (.int .i64 0), (.int .i64 0), (.int .i64 0), (.int .i64 0), (.int .i64 0), (.int .i64 0), (.int .i64 0), (.int .i64 0), (.int .i64 0), (.int .i64 0), (.int .i64 0), (.int .i64 0), (.int .i64 0), (.int .i64 0), (.int .i64 0)] → bZ w w' fN → w'.heap.size = w.heap.size + 1 → K (.pointer (some ⟨w.heap.size, 0, none⟩)) w') : aD pg (hT 128) w K := qI (i := Try.t128) ahN rfl hk
theorem XQ {k : IntKind} {a : Int} (b o : Nat) (w : World) (h0 : 0 ≤ a) (h1 : a < 256) : (cD 128 (.pointer (some ⟨b, o, none⟩)) (.int k a)).run pg w = .ok (.value (.pointer (some ⟨b, o + a.toNat, none⟩))) w := W6 rfl Try.underlying128 FR b o h0 (by simpa using h1)
theorem tW (b o : Nat) (w : World) : (bA 103 (.pointer (some ⟨b, o, none⟩)) 2).run pg w = .ok (.value (.pointer (some ⟨b, o + 2, none⟩))) w := jP (i := 2) Try.underlying103 rfl FR (by decide) _
theorem Ho (b o : Nat) (w : World) : (bA 96 (.pointer (some ⟨b, o, none⟩)) 0).run pg w = .ok (.value (.pointer (some ⟨b, o, none⟩))) w := jP (i := 0) Try.underlying96 rfl FR (by decide) _
theorem aeI : (pg).info? 89 = some Try.t89 := by kernel_rfl
theorem iU (b o : Nat) (w : World) : (bA 91 (.pointer (some ⟨b, o, none⟩)) 0).run pg w = .ok (.value (.pointer (some ⟨b, o, none⟩))) w := jP (i := 0) Try.underlying91 rfl aeI (by decide) _
theorem rZ (x : Addr) (w : World) : (aW 89 (.pointer (some x))).run pg w = ldC (w.cell? x) w (far pg 89 x w) := XC Try.underlying89 rfl x w
theorem mG (b o : Nat) (w : World) : (bA 91 (.pointer (some ⟨b, o, none⟩)) 1).run pg w = .ok (.value (.pointer (some ⟨b, o + 1, none⟩))) w := jP (i := 1) Try.underlying91 rfl FR (by decide) _
theorem yD {ty : TypeId} (x : Option Addr) (n c : Nat) (w : World) : (iJ .len #[94] ty [.slice x n c]).run pg w = .ok (.value (.int .i64 n)) w := OI Try.underlying94 x n c
theorem QP (a0 : Option Addr) (l0 c0 : Nat) (w : World) : (fV 132 [(0, (.slice a0 l0 c0))]).run pg w = .ok (.value (.agg #[(.slice a0 l0 c0), (.int .i64 0)])) w := by kernel_rfl
theorem tY {ox oy : Operand} (x : Option Addr) (w : World) : (aN .eql 105 ox oy (.pointer x) (.pointer none)).run pg w = .ok (.value (.bool x.isNone)) w := aeL Try.underlying105 x
theorem agX : (pg).info? 22 = some Try.t22 := by kernel_rfl
theorem F6 (b o : Nat) (w : World) : (bA 132 (.pointer (some ⟨b, o, none⟩)) 0).run pg w = .ok (.value (.pointer (some ⟨b, o, none⟩))) w := jP (i := 0) Try.underlying132 rfl agX (by decide) _
theorem Gh (x : Addr) (w : World) : (aW 22 (.pointer (some x))).run pg w = ldC (w.cell? x) w (far pg 22 x w) := XC Try.underlying22 rfl x w
theorem xP (b o : Nat) (w : World) : (bA 132 (.pointer (some ⟨b, o, none⟩)) 1).run pg w = .ok (.value (.pointer (some ⟨b, o + 1, none⟩))) w := jP (i := 1) Try.underlying132 rfl FR (by decide) _
theorem Tt {k : IntKind} {n : Int} {w : World} {K : Value → World → Prop} (h0 : 0 ≤ n) (hn : 24 * n ≤ 2 ^ 48) (hk : ∀ w', fA w' w.heap.size (DD n.toNat [(.int .u8 0), (.int .i64 0), (.int .i64 0)]) → bZ w w' fN → w'.heap.size = w.heap.size + 1 → K (.slice (some ⟨w.heap.size, 0, none⟩) n.toNat n.toNat) w') : aD pg (oD 75 (.int k n) (.int k n)) w K := WQ (i := Try.t84) Try.underlying75 Ya rfl (by decide) rfl rfl h0 hn (by omega) hk
theorem YC {b off : Nat} {cs : List Value} {w : World} {v : Value} {K : Value → World → Prop} (ho : fA w b cs) (hv : one v = true) (h : off < cs.length) (hk : ∀ w', fA w' b (cs.set off v) → bZ w w' (fun x => x = b) → w'.heap.size = w.heap.size → K undef w') : aD pg (cB 5 (.pointer (some ⟨b, off, none⟩)) v) w K := FO XD rfl ho hv h hk
theorem E9 (b o : Nat) (w : World) : (bA 114 (.pointer (some ⟨b, o, none⟩)) 0).run pg w = .ok (.value (.pointer (some ⟨b, o, none⟩))) w := jP (i := 0) Try.underlying114 rfl agX (by decide) _
theorem Y9 {n : Nat} {ps : List (Nat × Value)} {cells : Array Value} {w : World} (h1 : ¬ n * 1 > 2 ^ 24) (h0 : ¬ n * 1 = 0) (hf : Go.Instr.fill (fun j => some (j * 1, 1)) ((Array.range (n * 1)).map ((Try.t4.zero.get!).cells[· % (Try.t4.zero.get!).cells.size]!)) ps = some cells) {K : Value → World → Prop} (hk : ∀ w', fA w' w.heap.size cells.toList → bZ w w' fN → w'.heap.size = w.heap.size + 1 → K (.slice (some ⟨w.heap.size, 0, none⟩) n n) w') : aD pg (cQ 89 n ps) w K := Eo (i := Try.t4) Try.underlying89 aaN rfl h1 h0 hf hk
theorem N4 {base n m : Nat} {ty : TypeId} {w : World} {v x : Value} {l news : List Value} (h : nG w base 1 v n l) (hx : Cl w 1 x m news) (hone : ∀ y ∈ news, one y = true) (hb : base ≤ w.heap.size) (hbytes : (n + m) * 1 ≤ 140737488355328) {K : Value → World → Prop} (hk : ∀ v' w', nG w' base 1 v' (n + m) (l ++ news) → bZ w w' (fun y => base ≤ y) → K v' w') : aD pg (iJ .append #[89, 89] ty [v, x]) w K := IN (i := Try.t4) Try.underlying89 Try.underlying89 aaN rfl rfl rfl h hx hone hb (by omega) hbytes (by decide) hk
theorem jA {b off : Nat} {cs : List Value} {w : World} (ho : fA w b cs) (h : off + 2 ≤ cs.length) {K : Value → Prop} (hk : K (.agg ((cs.drop off).take 2).toArray)) : F1 pg 121 (.pointer (some ⟨b, off, none⟩)) w K := LJ Try.underlying121 rfl Xk ho h hk
theorem Ar (b o : Nat) (w : World) : (bA 121 (.pointer (some ⟨b, o, none⟩)) 0).run pg w = .ok (.value (.pointer (some ⟨b, o, none⟩))) w := jP (i := 0) Try.underlying121 rfl aeI (by decide) _
theorem oK (b o : Nat) (w : World) : (bA 121 (.pointer (some ⟨b, o, none⟩)) 1).run pg w = .ok (.value (.pointer (some ⟨b, o + 1, none⟩))) w := jP (i := 1) Try.underlying121 rfl FR (by decide) _
theorem Uw {k k' : IntKind} {lo hi : Int} (a : Option Addr) (n c : Nat) (w : World) (h0 : 0 ≤ lo) (h1 : lo ≤ hi) (h2 : hi ≤ c) : (jU 89 (.slice a n c) (some (.int k lo)) (some (.int k' hi)) none).run pg w = .ok (.value (.slice (kW a c (lo.toNat) 1) (hi.toNat - lo.toNat) (c - lo.toNat))) w := Xn Try.underlying89 aaN _ n c h0 h1 h2
theorem Wx {k : IntKind} {lo : Int} (a : Option Addr) (n c : Nat) (w : World) (h0 : 0 ≤ lo) (h1 : lo ≤ n) : (jU 89 (.slice a n c) (some (.int k lo)) none none).run pg w = .ok (.value (.slice (kW a c (lo.toNat) 1) (n - lo.toNat) (c - lo.toNat))) w := V9 Try.underlying89 aaN _ n c h0 h1
theorem Zk {b off : Nat} {cs : List Value} {w : World} {v : Value} {K : Value → World → Prop} (ho : fA w b cs) (hv : one v = true) (h : off < cs.length) (hk : ∀ w', fA w' b (cs.set off v) → bZ w w' (fun x => x = b) → w'.heap.size = w.heap.size → K undef w') : aD pg (cB 89 (.pointer (some ⟨b, off, none⟩)) v) w K := FO aeI rfl ho hv h hk
theorem U5 {k : IntKind} (a : Int) (w : World) : (jH 5 44 (.int k a)).run pg w = .ok (.value (.int .u64 (IntKind.u64.wrap a))) w := IB Try.underlying5 Try.underlying44
end Go.Proofs.Ytoepfjgekpdddaa
namespace Go.Pu
set_option linter.unusedVariables false
def eM (p : Int) : Int := if p < 0 then 1 else p
def VF : Int → List Int → Bool
  | left, [] => left == 0
  | left, p :: r => if p < -1 ∨ left < eM p then false else VF (left - eM p) r
def yK (ps : List Int) : Int := (ps.map eM).sum
def WR (log : Int) (ps : List Int) : Bool := decide (5 ≤ log ∧ log ≤ 15 ∧ 1 ≤ ps.length ∧ ps.length ≤ 256 ∧ ps.getLast? ≠ some 0)
def ME (log : Int) (ps : List Int) : Bool := WR log ps && VF (2 ^ log.toNat) ps
theorem Bt (p : Int) (ps : List Int) : yK (p :: ps) = eM p + yK ps := by simp [yK]
theorem Ld (a b : List Int) : yK (a ++ b) = yK a + yK b := by simp [yK]
theorem kM {p : Int} (h : -1 ≤ p) : 0 ≤ eM p := by unfold eM; split <;> omega
theorem Ub {ps : List Int} (h : ∀ p ∈ ps, -1 ≤ p) : 0 ≤ yK ps := by
  induction ps with
  | nil => simp [yK]
  | cons p r ih =>
    rw [Bt]
    have := kM (h p (by simp))
    have := ih fun q hq => h q (List.mem_cons_of_mem _ hq)
    omega
theorem Qp : ∀ {ps : List Int} {left : Int}, VF left ps = true ↔ (∀ p ∈ ps, -1 ≤ p) ∧ yK ps = left
  | [], left => by simp [VF, yK]; constructor <;> intro h <;> omega
  | p :: r, left => by
    rw [VF, Bt]
    by_cases h : p < -1 ∨ left < eM p
    · rw [if_pos h]
      constructor
      · intro h; cases h
      · rintro ⟨h1, h2⟩
        have hp := h1 p (by simp)
        have := Ub (ps := r) fun q hq => h1 q (List.mem_cons_of_mem _ hq)
        omega
    · rw [if_neg h, Qp]
      constructor
      · rintro ⟨h1, h2⟩
        exact ⟨fun q hq => by rcases List.mem_cons.1 hq with rfl | hq; · omega
                              · exact h1 q hq, by omega⟩
      · rintro ⟨h1, h2⟩
        exact ⟨fun q hq => h1 q (List.mem_cons_of_mem _ hq), by omega⟩
structure VE (log : Nat) (ps : List Int) : Prop where
  log5 : 5 ≤ log
  log15 : log ≤ 15
  len1 : 1 ≤ ps.length
  len256 : ps.length ≤ 256
  last : ps.getLast? ≠ some 0
  low : ∀ p ∈ ps, -1 ≤ p
  sum : yK ps = 2 ^ log
theorem VE.b {log : Nat} {ps : List Int} (h : VE log ps) : ME log ps = true := by
  unfold ME WR
  simp only [Bool.and_eq_true, decide_eq_true_eq]
  have h1 := h.log5
  have h2 := h.log15
  refine ⟨⟨by omega, by omega, h.len1, h.len256, h.last⟩, ?_⟩
  rw [Qp, Int.toNat_natCast]
  exact ⟨h.low, h.sum⟩
theorem YB {log : Nat} (h : log ≤ 15) : (2 : Int) ^ log ≤ 32768 := by
  have : 2 ^ log ≤ 2 ^ 15 := Nat.pow_le_pow_right (by omega) h
  have e : ((2 ^ log : Nat) : Int) = (2 : Int) ^ log := by simp
  omega
theorem Yu (log : Nat) : (1 : Int) ≤ 2 ^ log := by
  have : 1 ≤ 2 ^ log := Nat.one_le_two_pow
  have e : ((2 ^ log : Nat) : Int) = (2 : Int) ^ log := by simp
  omega
theorem Z5 {ps : List Int} (h : ∀ p ∈ ps, -1 ≤ p) {p : Int} (hp : p ∈ ps) : eM p ≤ yK ps := by
  induction ps with
  | nil => cases hp
  | cons q r ih =>
    rw [Bt]
    have h0 := kM (h q (by simp))
    have h1 := Ub (ps := r) fun q hq => h q (List.mem_cons_of_mem _ hq)
    rcases List.mem_cons.1 hp with rfl | hp
    · omega
    · have := ih (fun q hq => h q (List.mem_cons_of_mem _ hq)) hp
      omega
end Go.Pu
namespace Go.Proofs.Ytoepfjgekpdddaa
open Go Go.En Go.Pu
set_option maxRecDepth 4000
set_option linter.unusedSimpArgs false
set_option linter.unusedVariables false
theorem XH (p : Int) (w : World) : cC pg oH #[.int .i64 p] w (fun r w' => r = .int .i64 (eM p) ∧ w' = w) := by
  refine QJ ?_
  unfold eM
  by_cases h : p < 0
  · have d : decide (p < 0) = true := by simpa using h
    simp (disch := omega) only [Ib, vI, aD, bN, d, aB, and_true, aK]
    rw [if_pos h]
  · have d : decide (p < 0) = false := by simpa using h
    simp (disch := omega) only [Ib, vI, aD, bN, d, aB, and_true, aJ]
    rw [if_neg h]
theorem Ig {ps : List Int} (h : 0 < ps.length) : (ps.getLast? = some 0) ↔ ps[ps.length - 1]'(by omega) = 0 := by
  rw [List.getLast?_eq_getElem?, List.getElem?_eq_getElem (by omega)]
  simp
theorem ajD {log : Int} {sv : Value} {ps : List Int} {w : World} (hs : Sl w sv (ps.map (Value.int .i64))) (hl : ps.length ≤ 9223372036854775807) :
    cC pg Ec #[.agg #[.int .i64 log, sv]] w (fun r w' => r = .bool (ME log ps) ∧ bZ w w' fN) := by
  refine Va ?_
  unfold VH Hr GY
  obtain ⟨a, c, rfl, hc⟩ := hs.lenI
  refine kT fun w1 o1 x1 s1 => ?_
  have hs0 := hs
  have hs := hs.ext x1 (eI _)
  have c0 := o1.cell (off := 0)
  have c1 := o1.cell (off := 1)
  simp only [Value.cells, List.getElem?_cons_zero, List.getElem?_cons_succ] at c0 c1
  have no : ¬ (5 ≤ log ∧ log ≤ 15 ∧ 1 ≤ ps.length ∧ ps.length ≤ 256 ∧ ps.getLast? ≠ some 0) → ME log ps = false := fun h => by
    unfold ME WR; rw [decide_eq_false h]; rfl
  by_cases h1 : log < 5
  · have d1 : decide (log < 5) = true := by simpa using h1
    simp (disch := omega) only [aD, eP, aB, dL, Nat.zero_add, cP, c0, aP, bN, d1, gD, cJ, if_true, aK, dG]
    exact ⟨by rw [no (by omega)], x1⟩
  have d1 : decide (log < 5) = false := by simpa using h1
  by_cases h2 : 15 < log
  · have d2 : decide (15 < log) = true := by simpa using h2
    simp (disch := omega) only [aD, eP, aB, dL, Nat.zero_add, cP, c0, aP, bN, d1, eD, cJ, Bool.false_eq_true, if_false, cL, dM, d2, gD, if_true, aK, dG]
    exact ⟨by rw [no (by omega)], x1⟩
  have d2 : decide (15 < log) = false := by simpa using h2
  by_cases h3 : ps.length < 1
  · have d3 : decide ((ps.length : Int) < 1) = true := by simp; omega
    simp (disch := omega) only [aD, eP, aB, dL, Nat.zero_add, cP, c0, aP, bN, d1, eD, cJ, Bool.false_eq_true, if_false, cL, dM, d2, eH, c1, dT, d3, gD, if_true, aK, dG]
    exact ⟨by rw [no (by omega)], x1⟩
  have d3 : decide ((ps.length : Int) < 1) = false := by simp; omega
  by_cases h4 : 256 < ps.length
  · have d4 : decide ((256 : Int) < (ps.length : Int)) = true := by simp; omega
    simp (disch := omega) only [aD, eP, aB, dL, Nat.zero_add, cP, c0, aP, bN, d1, eD, cJ, Bool.false_eq_true, if_false, cL, dM, d2, eH, c1, dT, d3, d4, gD, if_true, aK, dG]
    exact ⟨by rw [no (by omega)], x1⟩
  have d4 : decide ((256 : Int) < (ps.length : Int)) = false := by simp; omega
  obtain ⟨b, off, c', e, hc', hcell⟩ := hs.openI (by omega)
  cases e
  have e1 : ((ps.length : Int) - 1) = ((ps.length - 1 : Nat) : Int) := by omega
  have g1 := hcell (ps.length - 1) (by omega)
  by_cases h5 : ps[ps.length - 1]'(by omega) = 0
  · have d5 : (ps[ps.length - 1]'(by omega) == 0) = true := by simpa using h5
    simp (disch := omega) only [aD, eP, aB, dL, Nat.zero_add, cP, c0, aP, bN, d1, eD, cJ, Bool.false_eq_true, if_false, cL, dM, d2, eH, c1, dT, d3, d4, dY, e1, bD, dN, Int.toNat_natCast, g1, gY, d5, lH, aK]
    exact ⟨by rw [no (fun h => h.2.2.2.2 ((Ig (by omega)).2 h5))], x1⟩
  have d5 : (ps[ps.length - 1]'(by omega) == 0) = false := by simpa using h5
  obtain ⟨l, rfl⟩ : ∃ l : Nat, log = l := ⟨log.toNat, by omega⟩
  have hsh : IntKind.i64.wrap (1 * 2 ^ (min l IntKind.i64.bits)) = (2 : Int) ^ l := by
    have : ∀ k : Fin 16, IntKind.i64.wrap (1 * 2 ^ (min k.val IntKind.i64.bits)) = (2 : Int) ^ k.val := by decide
    exact this ⟨l, by omega⟩
  have hyes : ME (l : Int) ps = VF (2 ^ l) ps := by
    unfold ME WR
    rw [decide_eq_true ⟨by omega, by omega, by omega, by omega, fun h => h5 ((Ig (by omega)).1 h)⟩, Int.toNat_natCast]; rfl
  simp (disch := omega) only [aD, eP, aB, dL, Nat.zero_add, cP, c0, aP, bN, d1, eD, cJ, Bool.false_eq_true, if_false, cL, dM, d2, eH, c1, dT, d3, d4, dY, e1, bD, dN, Int.toNat_natCast, g1, gY, d5, lH, hsh, aJ]
  unfold BX Gm Hg CC Hk
  simp (disch := omega) only [aD, dL, Nat.zero_add, aB, eH, c1, aP, dT]
  have hp15 := YB (log := l) (by omega)
  have hp1 := Yu l
  refine cV.rule (fun m t w' => ∃ (i : Nat) (left : Int), m = ps.length - i ∧ t = (.int .i64 left, .int .i64 i) ∧ i ≤ ps.length ∧ 0 ≤ left ∧ left ≤ 32768 ∧ VF (2 ^ l) ps = VF left (ps.drop i) ∧ bZ w w' fN) ps.length
    ⟨0, 2 ^ l, rfl, rfl, by omega, by omega, hp15, rfl, x1⟩ ?_
  rintro m t w2 ⟨i, left, rfl, rfl, hi, hl0, hl1, hf, x2⟩
  by_cases hlt : i < ps.length
  · have d6 : decide ((i : Int) < (ps.length : Int)) = true := by simp; omega
    have hsw := hs0.ext x2 (eI _)
    obtain ⟨b', off', c', e, _, hcell2⟩ := hsw.openI (by omega)
    cases e
    have g2 := hcell2 i hlt
    have hd : ps.drop i = ps[i] :: ps.drop (i + 1) := List.drop_eq_getElem_cons hlt
    rw [hd, VF] at hf
    by_cases h6 : ps[i] < -1
    · have d7 : decide (ps[i] < -1) = true := by simpa using h6
      simp (disch := omega) only [qH, aD, bN, d6, dN, Int.toNat_natCast, bY, bD, aB, cP, g2, aP, d7, gD, cJ, if_true, aK, dG]
      rw [if_pos (.inl h6)] at hf
      exact ⟨by rw [hyes, hf], x2⟩
    have d7 : decide (ps[i] < -1) = false := by simpa using h6
    simp (disch := omega) only [qH, aD, bN, d6, dN, Int.toNat_natCast, bY, bD, aB, cP, g2, aP, d7, eD, cJ, Bool.false_eq_true, if_false, cL, aK]
    refine (XH _ _).mono ?_
    rintro r w3 ⟨rfl, rfl⟩
    by_cases h7 : left < eM ps[i]
    · have d8 : decide (left < eM ps[i]) = true := by simpa using h7
      simp (disch := omega) only [dM, d8, aB, aK]
      rw [if_pos (.inr h7)] at hf
      exact ⟨by rw [hyes, hf], x2⟩
    have d8 : decide (left < eM ps[i]) = false := by simpa using h7
    simp (disch := omega) only [dM, d8, aB, aJ]
    refine (XH _ _).mono ?_
    rintro r w3 ⟨rfl, rfl⟩
    rw [if_neg (by omega)] at hf
    have hpn := kM (p := ps[i]) (by omega)
    simp (disch := omega) only [dY, bD, aB]
    exact ⟨ps.length - (i + 1), by omega, i + 1, left - eM ps[i], rfl, rfl, by omega, by omega, by omega, hf, x2⟩
  · have d6 : decide ((i : Int) < (ps.length : Int)) = false := by simp; omega
    rw [List.drop_of_length_le (by omega), VF] at hf
    unfold qH Cr
    simp (disch := omega) only [aD, bN, d6, bY, bD, aB, gY, aJ]
    exact ⟨by rw [hyes, hf], x2⟩
end Go.Proofs.Ytoepfjgekpdddaa
namespace Go.Pu
set_option linter.unusedVariables false
def adv (n a : Nat) : Nat := (a + n / 2 + n / 8 + 3) % n
def PI (n high : Nat) : Nat → Nat → Nat
  | 0, a => a
  | f + 1, a => if a < high then a else PI n high f (adv n a)
def M2 : List Int → Nat → Nat → List Int → Nat × List Int
  | [], _, high, arr => (high, arr)
  | p :: r, s, high, arr => if p = -1 then M2 r (s + 1) (high - 1) (arr.set (high - 1) s) else M2 r (s + 1) high arr
def kR : List Int → Nat → List Nat
  | [], _ => []
  | p :: r, s => List.replicate p.toNat s ++ kR r (s + 1)
def yE (n high : Nat) : List Nat → Nat → List Int → List Int
  | [], _, arr => arr
  | s :: r, a, arr => yE n high r (PI n high n (adv n a)) (arr.set a s)
def jS (x0 : Int) (log : Nat) (ps : List Int) : List Int :=
  yE (2 ^ log) (M2 ps 0 (2 ^ log) (List.replicate (2 ^ log) x0)).1 (kR ps 0) 0 (M2 ps 0 (2 ^ log) (List.replicate (2 ^ log) x0)).2
def pos (n j : Nat) : Nat := (j * (n / 2 + n / 8 + 3)) % n
theorem DJ (n j : Nat) : adv n (pos n j) = pos n (j + 1) := by
  unfold adv pos
  rw [Nat.add_assoc, Nat.add_assoc, Nat.mod_add_mod, Nat.add_mul, Nat.one_mul, Nat.add_assoc]
theorem afY {s : Nat} (hs : s % 2 = 1) : ∀ (k x : Nat), 2 ^ k ∣ s * x → 2 ^ k ∣ x := by
  intro k
  induction k with
  | zero => intro x _; simp
  | succ k ih =>
    intro x h
    have h2 : 2 ∣ s * x := Nat.dvd_trans ⟨2 ^ k, by rw [Nat.pow_succ, Nat.mul_comm]⟩ h
    have hx : x % 2 = 0 := by
      have : (s * x) % 2 = 0 := Nat.mod_eq_zero_of_dvd h2
      rw [Nat.mul_mod, hs, Nat.one_mul, Nat.mod_mod] at this
      exact this
    obtain ⟨y, rfl⟩ : ∃ y, x = 2 * y := ⟨x / 2, by omega⟩
    rw [Nat.pow_succ, Nat.mul_comm (2 ^ k) 2, show s * (2 * y) = 2 * (s * y) by rw [Nat.mul_left_comm]] at h
    rw [Nat.pow_succ, Nat.mul_comm (2 ^ k) 2]
    exact Nat.mul_dvd_mul_left 2 (ih y (Nat.dvd_of_mul_dvd_mul_left (by omega) h))
theorem adI {log : Nat} (h : 5 ≤ log) : (2 ^ log / 2 + 2 ^ log / 8 + 3) % 2 = 1 := by
  obtain ⟨k, rfl⟩ : ∃ k, log = k + 5 := ⟨log - 5, by omega⟩
  have : 2 ^ (k + 5) = 32 * 2 ^ k := by rw [Nat.pow_add, Nat.mul_comm]
  omega
theorem afO {log : Nat} (h : 5 ≤ log) {i j : Nat} (hij : i < j) (hj : j < 2 ^ log) : pos (2 ^ log) i ≠ pos (2 ^ log) j := by
  unfold pos
  generalize hst : 2 ^ log / 2 + 2 ^ log / 8 + 3 = st
  have hodd : st % 2 = 1 := by rw [← hst]; exact adI h
  intro e
  have hle : i * st ≤ j * st := Nat.mul_le_mul_right _ (by omega)
  have hd : 2 ^ log ∣ st * (j - i) := by
    rw [Nat.mul_comm, Nat.sub_mul]
    exact Nat.dvd_of_mod_eq_zero (Nat.sub_mod_eq_zero_of_mod_eq e.symm)
  have := Nat.le_of_dvd (by omega) (afY hodd _ _ hd)
  omega
theorem adS : ∀ (n : Nat) (l : List Nat), l.Nodup → (∀ a ∈ l, a < n) → l.length ≤ n := by
  intro n
  induction n with
  | zero => intro l _ h; cases l with
    | nil => simp
    | cons a r => exact absurd (h a (by simp)) (by omega)
  | succ n ih =>
    intro l hd h
    by_cases hn : n ∈ l
    · have := ih (l.erase n) (hd.erase n) (fun a ha => by
        have h1 := h a (List.mem_of_mem_erase ha)
        have h2 : a ≠ n := fun e => by subst e; exact hd.not_mem_erase ha
        omega)
      rw [List.length_erase_of_mem hn] at this
      omega
    · have := ih l hd (fun a ha => by
        have h1 := h a ha
        have h2 : a ≠ n := fun e => by subst e; exact hn ha
        omega)
      omega
theorem Xe {n : Nat} {l : List Nat} (hd : l.Nodup) (h : ∀ a ∈ l, a < n) (hl : l.length = n) {a : Nat} (ha : a < n) : a ∈ l := by
  refine Classical.byContradiction fun hn => ?_
  have := adS n (a :: l) (List.nodup_cons.2 ⟨hn, hd⟩) (fun b hb => (List.mem_cons.1 hb).elim (fun e => e ▸ ha) (h b))
  simp at this; omega
def jE (n high j : Nat) : List Nat := ((List.range' j (n - j)).map (pos n)).filter (· < high)
theorem KC {n high j : Nat} (h : j < n) : jE n high j = if pos n j < high then pos n j :: jE n high (j + 1) else jE n high (j + 1) := by
  unfold jE
  rw [show n - j = (n - (j + 1)) + 1 from by omega, List.range'_succ, List.map_cons, List.filter_cons]
  simp
theorem Qu (n high : Nat) : jE n high n = [] := by unfold jE; simp
theorem Vt {n : Nat} (h : 0 < n) (j : Nat) : pos n j < n := Nat.mod_lt _ h
theorem Lj (n : Nat) : pos n 0 = 0 := by simp [pos]
theorem aiQ (n : Nat) : pos n n = 0 := by simp [pos, Nat.mul_mod_right]
theorem aaM {n high : Nat} (hh : 0 < high) : ∀ (d j f : Nat), j + d = n → d ≤ f → PI n high f (pos n j) = (jE n high j).headD 0 := by
  intro d
  induction d with
  | zero =>
    intro j f hj _
    obtain rfl : j = n := by omega
    rw [Qu, aiQ]
    cases f with
    | zero => rfl
    | succ f => unfold PI; rw [if_pos hh]; rfl
  | succ d ih =>
    intro j f hj hf
    obtain ⟨f, rfl⟩ : ∃ g, f = g + 1 := ⟨f - 1, by omega⟩
    rw [KC (by omega)]
    unfold PI
    split
    · rfl
    · rw [DJ]; exact ih (j + 1) f (by omega) (by omega)
def LH : List (Nat × Nat) → List Int → List Int
  | [], arr => arr
  | (q, s) :: r, arr => LH r (arr.set q s)
theorem Zc {n high : Nat} (hh : 0 < high) : ∀ (syms : List Nat) (j a : Nat) (arr : List Int), j ≤ n → syms.length ≤ (jE n high j).length → (syms ≠ [] → (jE n high j).headD 0 = a) →
    yE n high syms a arr = LH ((jE n high j).zip syms) arr := by
  intro syms
  induction syms with
  | nil => intro j a arr _ _ _; simp [yE, LH]
  | cons s r ih =>
    intro j a arr hj hlen ha
    have ha := ha (by simp)
    have key : ∀ (d j : Nat), j + d = n → (s :: r).length ≤ (jE n high j).length → (jE n high j).headD 0 = a → ∃ i, i < n ∧ j ≤ i ∧ pos n i = a ∧ jE n high j = a :: jE n high (i + 1) := by
      intro d
      induction d with
      | zero =>
        intro j hj hl _
        obtain rfl : j = n := by omega
        rw [Qu] at hl; simp at hl
      | succ d ihd =>
        intro j hj hl hd
        have e := KC (high := high) (show j < n by omega)
        by_cases hp : pos n j < high
        · rw [if_pos hp] at e
          rw [e] at hd
          have : pos n j = a := hd
          exact ⟨j, by omega, Nat.le_refl _, this, by rw [e, this]⟩
        · rw [if_neg hp] at e
          rw [e] at hl hd ⊢
          obtain ⟨i, h1, h2, h3, h4⟩ := ihd (j + 1) (by omega) hl hd
          exact ⟨i, h1, by omega, h3, h4⟩
    obtain ⟨i, h1, h2, h3, h4⟩ := key (n - j) j (by omega) hlen ha
    rw [h4] at hlen ⊢
    simp only [List.length_cons] at hlen
    rw [yE, List.zip_cons_cons, LH]
    refine ih (i + 1) _ _ (by omega) (by omega) (fun hr => ?_)
    rw [← h3, DJ]
    exact (aaM hh (n - (i + 1)) (i + 1) n (by omega) (by omega)).symm
end Go.Pu
namespace Go.Pu
set_option linter.unusedVariables false
def mS : List Int → Nat → List Nat
  | [], _ => []
  | p :: r, s => if p = -1 then s :: mS r (s + 1) else mS r (s + 1)
def Xa (l : List Nat) : List Int := l.map Int.ofNat
theorem WY : ∀ (ps : List Int) (s high : Nat) (arr : List Int), (mS ps s).length ≤ high → high ≤ arr.length →
    M2 ps s high arr = (high - (mS ps s).length, arr.take (high - (mS ps s).length) ++ Xa (mS ps s).reverse ++ arr.drop high) := by
  intro ps
  induction ps with
  | nil => intro s high arr h1 h2; simp [M2, mS, Xa]
  | cons p r ih =>
    intro s high arr h1 h2
    unfold M2 mS
    unfold mS at h1
    by_cases hp : p = -1
    · rw [if_pos hp, if_pos hp]
      rw [if_pos hp] at h1
      simp only [List.length_cons] at h1 ⊢
      rw [ih (s + 1) (high - 1) _ (by omega) (by simp; omega)]
      congr 1
      · omega
      · have hlt : high - 1 < arr.length := by omega
        rw [List.take_set_of_le (by omega), show high - 1 - (mS r (s + 1)).length = high - ((mS r (s + 1)).length + 1) from by omega]
        have : (arr.set (high - 1) (s : Int)).drop (high - 1) = (s : Int) :: arr.drop high := by
          rw [List.drop_eq_getElem_cons (by simp; omega)]
          simp only [List.getElem_set_self]
          rw [show high - 1 + 1 = high from by omega, List.drop_set_of_lt (by omega)]
        rw [this]
        simp [Xa]
    · rw [if_neg hp, if_neg hp]
      rw [if_neg hp] at h1
      exact ih (s + 1) high arr h1 h2
theorem Ry : ∀ (l : List (Nat × Nat)) (arr : List Int), (LH l arr).length = arr.length
  | [], _ => rfl
  | (q, s) :: r, arr => by rw [LH, Ry]; simp
theorem Li {q : Nat} : ∀ (l : List (Nat × Nat)) (arr : List Int), (∀ x ∈ l, x.1 ≠ q) → (LH l arr)[q]? = arr[q]?
  | [], _, _ => rfl
  | (a, s) :: r, arr, h => by
    rw [LH, Li r _ fun x hx => h x (List.mem_cons_of_mem _ hx), List.getElem?_set_ne (h (a, s) (by simp))]
theorem abO : ∀ (us : List Nat) (ss : List Nat) (arr : List Int) (t : Nat), us.Nodup → us.length = ss.length → (∀ q ∈ us, q < arr.length) → (ht : t < us.length) → (ht' : t < ss.length) →
    (LH (us.zip ss) arr)[us[t]]? = some (ss[t] : Int) := by
  intro us
  induction us with
  | nil => intro ss arr t _ _ _ ht; simp at ht
  | cons u us ih =>
    intro ss arr t hd hl hb ht ht'
    cases ss with
    | nil => simp at hl
    | cons x ss =>
      obtain ⟨h1, h2⟩ := List.nodup_cons.1 hd
      rw [List.zip_cons_cons, LH]
      cases t with
      | zero =>
        simp only [List.getElem_cons_zero]
        rw [Li _ _ (fun y hy => fun e => h1 (by have := (List.of_mem_zip (a := y.1) (b := y.2) hy).1; rw [e] at this; exact this))]
        have : u < arr.length := hb u (by simp)
        simp [this]
      | succ t =>
        simp only [List.getElem_cons_succ]
        exact ih ss _ t h2 (by simpa using hl) (fun q hq => by simpa using hb q (List.mem_cons_of_mem _ hq)) (by simpa using ht) (by simpa using ht')
theorem VY : ∀ (n : Nat) (l : List Nat), l.Nodup → (∀ a ∈ l, a < n) → l.length = n → l.Perm (List.range n) := by
  intro n
  induction n with
  | zero => intro l _ _ h; rw [List.length_eq_zero_iff.1 h]; exact List.Perm.refl _
  | succ n ih =>
    intro l hd h hl
    have hn : n ∈ l := Xe hd h hl (by omega)
    have p1 := List.perm_cons_erase hn
    have p2 := ih (l.erase n) (hd.erase n) (fun a ha => by
      have h1 := h a (List.mem_of_mem_erase ha)
      have h2 : a ≠ n := fun e => by subst e; exact hd.not_mem_erase ha
      omega) (by rw [List.length_erase_of_mem hn]; omega)
    rw [List.range_succ]
    exact p1.trans ((p2.cons n).trans (List.perm_append_singleton n _).symm)
theorem Yd : ∀ (ps : List Int) (s : Nat), (∀ p ∈ ps, -1 ≤ p) → ((kR ps s).length : Int) + (mS ps s).length = yK ps := by
  intro ps
  induction ps with
  | nil => intro s _; simp [kR, mS, yK]
  | cons p r ih =>
    intro s h
    have := ih (s + 1) fun q hq => h q (List.mem_cons_of_mem _ hq)
    have hp := h p (by simp)
    rw [Bt]
    unfold kR mS eM
    by_cases h1 : p = -1
    · rw [if_pos h1, if_pos (by omega)]; subst h1; simp; omega
    · rw [if_neg h1, if_neg (by omega)]; simp; omega
theorem ZL : ∀ (ps : List Int) (s i : Nat), (kR ps s).count (s + i) = if h : i < ps.length then ps[i].toNat else 0 := by
  intro ps
  induction ps with
  | nil => intro s i; simp [kR]
  | cons p r ih =>
    intro s i
    have low : ∀ (ps : List Int) (s a : Nat), a < s → (kR ps s).count a = 0 := by
      intro ps
      induction ps with
      | nil => intro s a _; simp [kR]
      | cons p r ih =>
        intro s a h
        unfold kR
        rw [List.count_append, ih (s + 1) a (by omega), List.count_replicate]
        simp; omega
    unfold kR
    rw [List.count_append, List.count_replicate]
    cases i with
    | zero => rw [Nat.add_zero, low r (s + 1) s (by omega)]; simp
    | succ i =>
      rw [show s + (i + 1) = s + 1 + i from by omega, ih (s + 1) i]
      have : (s == s + 1 + i) = false := by simp; omega
      rw [this]; simp
theorem Zu : ∀ (ps : List Int) (s i : Nat), (mS ps s).count (s + i) = if h : i < ps.length then (if ps[i] = -1 then 1 else 0) else 0 := by
  intro ps
  induction ps with
  | nil => intro s i; simp [mS]
  | cons p r ih =>
    intro s i
    have low : ∀ (ps : List Int) (s a : Nat), a < s → (mS ps s).count a = 0 := by
      intro ps
      induction ps with
      | nil => intro s a _; simp [mS]
      | cons p r ih =>
        intro s a h
        unfold mS
        split
        · rw [List.count_cons, ih (s + 1) a (by omega)]; simp; omega
        · exact ih (s + 1) a (by omega)
    unfold mS
    cases i with
    | zero =>
      rw [Nat.add_zero]
      by_cases h : p = -1
      · rw [if_pos h, List.count_cons, low r (s + 1) s (by omega)]; simp [h]
      · rw [if_neg h, low r (s + 1) s (by omega)]; simp [h]
    | succ i =>
      have e : s + (i + 1) = s + 1 + i := by omega
      by_cases h : p = -1
      · rw [if_pos h, List.count_cons, e, ih (s + 1) i]
        have : (s == s + 1 + i) = false := by simp; omega
        rw [this]; simp
      · rw [if_neg h, e, ih (s + 1) i]; simp
theorem agP : ∀ (ps : List Int) (s i : Nat) (h : i < ps.length), ps[i] = -1 → (mS ps s)[(ps.take i).count (-1)]? = some (s + i) := by
  intro ps
  induction ps with
  | nil => intro s i h; simp at h
  | cons p r ih =>
    intro s i h hp
    unfold mS
    cases i with
    | zero => simp only [List.getElem_cons_zero] at hp; rw [if_pos hp]; simp
    | succ i =>
      simp only [List.getElem_cons_succ] at hp
      have := ih (s + 1) i (by simpa using h) hp
      rw [List.take_succ_cons, List.count_cons]
      by_cases h1 : p = -1
      · rw [if_pos h1]; simp only [h1, beq_self_eq_true, if_true, List.getElem?_cons_succ]; rw [this]; congr 1; omega
      · rw [if_neg h1]
        have : (p == -1) = false := by simpa using h1
        rw [this]; simp only [Bool.false_eq_true, if_false, Nat.add_zero]
        rw [‹(mS r (s + 1))[_]? = _›]; congr 1; omega
theorem MW {log high : Nat} (hl : 5 ≤ log) (hh : high ≤ 2 ^ log) : (jE (2 ^ log) high 0).Nodup ∧ (∀ a ∈ jE (2 ^ log) high 0, a < high) ∧ (jE (2 ^ log) high 0).length = high := by
  have hn : 0 < 2 ^ log := Nat.two_pow_pos log
  have hnd : ((List.range (2 ^ log)).map (pos (2 ^ log))).Nodup := by
    rw [List.nodup_iff_pairwise_ne, List.pairwise_map]
    refine List.pairwise_iff_getElem.2 fun i j hi hj hij => ?_
    simp only [List.length_range] at hi hj
    simp only [List.getElem_range]
    exact afO hl hij hj
  have hp := VY (2 ^ log) _ hnd (fun a ha => by
    obtain ⟨j, _, rfl⟩ := List.mem_map.1 ha
    exact Vt hn j) (by simp)
  unfold jE
  rw [Nat.sub_zero, ← List.range_eq_range']
  refine ⟨hnd.filter _, fun a ha => by simpa using (List.mem_filter.1 ha).2, ?_⟩
  rw [(hp.filter _).length_eq]
  have : ∀ m : Nat, high ≤ m → ((List.range m).filter (· < high)).length = high := by
    intro m
    induction m with
    | zero => intro h; simp; omega
    | succ m ih =>
      intro h
      rw [List.range_succ, List.filter_append, List.length_append]
      by_cases hm : high ≤ m
      · rw [ih hm]; simp; omega
      · have : high = m + 1 := by omega
        subst this
        have : (List.range m).filter (fun x => decide (x < m + 1)) = List.range m := List.filter_eq_self.2 fun a ha => by have := List.mem_range.1 ha; simp; omega
        rw [this]; simp
  exact this _ hh
structure Lay (log : Nat) (ps : List Int) (S : List Int) : Prop where
  len : S.length = 2 ^ log
  cnt : ∀ s (h : s < ps.length), S.count (s : Int) = (eM ps[s]).toNat
  rng : ∀ x ∈ S, ∃ s : Nat, s < ps.length ∧ x = s
  top : ∀ s (h : s < ps.length), ps[s] = -1 → S[2 ^ log - 1 - (ps.take s).count (-1)]? = some (s : Int)
theorem W4 (l : List Nat) (s : Nat) : (Xa l).count (s : Int) = l.count s := by
  induction l with
  | nil => rfl
  | cons a r ih =>
    show List.count _ (Int.ofNat a :: Xa r) = _
    rw [List.count_cons, List.count_cons, ih]
    congr 1
    by_cases h : a = s
    · subst h; simp
    · simp [h]; omega
theorem acZ : ∀ (ps : List Int) (s : Nat), ∀ x ∈ kR ps s, s ≤ x ∧ x < s + ps.length := by
  intro ps
  induction ps with
  | nil => intro s x h; simp [kR] at h
  | cons p r ih =>
    intro s x h
    unfold kR at h
    rcases List.mem_append.1 h with h | h
    · have := (List.mem_replicate.1 h).2; simp; omega
    · have := ih (s + 1) x h; simp; omega
theorem adO : ∀ (ps : List Int) (s : Nat), ∀ x ∈ mS ps s, s ≤ x ∧ x < s + ps.length := by
  intro ps
  induction ps with
  | nil => intro s x h; simp [mS] at h
  | cons p r ih =>
    intro s x h
    unfold mS at h
    split at h
    · rcases List.mem_cons.1 h with rfl | h
      · simp
      · have := ih (s + 1) x h; simp; omega
    · have := ih (s + 1) x h; simp; omega
theorem Ls {log : Nat} {ps : List Int} (h : VE log ps) (x0 : Int) :
    ∃ low : List Int, jS x0 log ps = low ++ Xa (mS ps 0).reverse ∧ low.Perm (Xa (kR ps 0)) ∧ ((mS ps 0).length + low.length = 2 ^ log) ∧
      (∀ t (h1 : t < (jE (2 ^ log) (kR ps 0).length 0).length) (h2 : t < (kR ps 0).length), low[(jE (2 ^ log) (kR ps 0).length 0)[t]]? = some ((kR ps 0)[t] : Int)) := by
  have hrl := Yd ps 0 h.low
  rw [h.sum] at hrl
  have hpow : ((2 ^ log : Nat) : Int) = (2 : Int) ^ log := by simp
  obtain ⟨m, hm⟩ : ∃ m, m = (mS ps 0).length := ⟨_, rfl⟩
  obtain ⟨hi, hhi⟩ : ∃ x, x = (kR ps 0).length := ⟨_, rfl⟩
  rw [← hm, ← hhi] at hrl
  have hsum : hi + m = 2 ^ log := by omega
  have ht := WY ps 0 (2 ^ log) (List.replicate (2 ^ log) x0) (by omega) (by simp)
  rw [← hm, show 2 ^ log - m = hi from by omega] at ht
  have e2 : (List.replicate (2 ^ log) x0).take hi = List.replicate hi x0 := by rw [List.take_replicate]; congr 1; omega
  have e3 : (List.replicate (2 ^ log) x0).drop (2 ^ log) = [] := by simp
  rw [e2, e3, List.append_nil] at ht
  unfold jS
  rw [ht]
  simp only
  obtain ⟨u1, u2, u3⟩ := MW (high := hi) h.log5 (by omega)
  by_cases h0 : hi = 0
  · have hr : kR ps 0 = [] := List.length_eq_zero_iff.1 (by omega)
    rw [hr, h0]
    refine ⟨[], by simp [yE], by simp [Xa], by simp; omega, fun t _ h2 => by simp at h2⟩
  · have hp := Zc (n := 2 ^ log) (high := hi) (by omega) (kR ps 0) 0 0 (List.replicate hi x0 ++ Xa (mS ps 0).reverse) (by omega) (by rw [u3]; omega) (fun _ => by
      rw [KC (Nat.two_pow_pos log), Lj, if_pos (by omega)]; rfl)
    rw [hp]
    generalize hU : jE (2 ^ log) hi 0 = U at *
    have hb : ∀ q ∈ U, q < (List.replicate hi x0 ++ Xa (mS ps 0).reverse).length := fun q hq => by have := u2 q hq; simp; omega
    obtain ⟨R, hR⟩ : ∃ R, R = LH (U.zip (kR ps 0)) (List.replicate hi x0 ++ Xa (mS ps 0).reverse) := ⟨_, rfl⟩
    have hRl : R.length = hi + m := by rw [hR, Ry]; simp [Xa, hm]
    have hRd : R.drop hi = Xa (mS ps 0).reverse := by
      apply List.ext_getElem?
      intro i
      rw [List.getElem?_drop, hR, Li _ _ (fun x hx => by
        have := u2 _ (List.of_mem_zip (a := x.1) (b := x.2) hx).1
        omega), List.getElem?_append_right (by simp)]
      simp
    have hget : ∀ t (h1 : t < U.length) (h2 : t < (kR ps 0).length), R[U[t]]? = some ((kR ps 0)[t] : Int) := fun t h1 h2 => by
      rw [hR]; exact abO U _ _ t u1 (by omega) hb h1 h2
    rw [← hR]
    refine ⟨R.take hi, by rw [← hRd, List.take_append_drop], ?_, by rw [List.length_take]; omega, fun t h1 h2 => ?_⟩
    · have p1 : (U.map fun q => R.getD q 0).Perm ((List.range hi).map fun q => R.getD q 0) := (VY hi U u1 u2 u3).map _
      have p2 : (U.map fun q => R.getD q 0) = Xa (kR ps 0) := by
        apply List.ext_getElem
        · simp [Xa]; omega
        · intro t h1 h2
          simp only [List.length_map] at h1
          have := hget t h1 (by omega)
          simp only [List.getElem_map, Xa, List.getD_eq_getElem?_getD, this]
          rfl
      have p3 : ((List.range hi).map fun q => R.getD q 0) = R.take hi := by
        apply List.ext_getElem
        · simp; omega
        · intro q h1 h2
          simp only [List.length_map, List.length_range] at h1
          simp only [List.getElem_map, List.getElem_range, List.getElem_take, List.getD_eq_getElem?_getD]
          rw [List.getElem?_eq_getElem (by omega)]; rfl
      rw [p2, p3] at p1
      exact p1.symm
    · subst hhi
      simp only [hU] at h1 ⊢
      have := hget t h1 h2
      rw [List.getElem?_take_of_lt (u2 _ (List.getElem_mem h1))]
      exact this
theorem FH {log : Nat} {ps : List Int} (h : VE log ps) (x0 : Int) : Lay log ps (jS x0 log ps) := by
  obtain ⟨low, e, hp, hl, _⟩ := Ls h x0
  rw [e]
  refine ⟨by simp [Xa]; omega, fun s hs => ?_, fun x hx => ?_, fun s hs hps => ?_⟩
  · rw [List.count_append, hp.count_eq, W4, W4, List.count_reverse]
    have h1 := ZL ps 0 s
    have h2 := Zu ps 0 s
    rw [Nat.zero_add] at h1 h2
    rw [h1, h2, dif_pos hs, dif_pos hs]
    have := h.low _ (List.getElem_mem hs)
    unfold eM
    split <;> split <;> omega
  · rcases List.mem_append.1 hx with hx | hx
    · have hx := hp.mem_iff.1 hx
      obtain ⟨s, hs, rfl⟩ := List.mem_map.1 hx
      exact ⟨s, by have := acZ ps 0 s hs; omega, rfl⟩
    · obtain ⟨s, hs, rfl⟩ := List.mem_map.1 hx
      exact ⟨s, by have := adO ps 0 s (List.mem_reverse.1 hs); omega, rfl⟩
  · have h1 := agP ps 0 s hs hps
    rw [Nat.zero_add] at h1
    have hlt : (ps.take s).count (-1) < (mS ps 0).length := by
      rcases Nat.lt_or_ge ((ps.take s).count (-1)) (mS ps 0).length with h | h
      · exact h
      · rw [List.getElem?_eq_none h] at h1; cases h1
    rw [List.getElem?_append_right (by omega)]
    unfold Xa
    rw [List.getElem?_map, List.getElem?_reverse (by omega), show (mS ps 0).length - 1 - (2 ^ log - 1 - List.count (-1) (List.take s ps) - low.length) = (ps.take s).count (-1) from by omega, h1]
    rfl
theorem abN {log : Nat} {ps : List Int} (h : VE log ps) (x y : Int) : jS x log ps = jS y log ps := by
  obtain ⟨a, e1, p1, l1, g1⟩ := Ls h x
  obtain ⟨b, e2, p2, l2, g2⟩ := Ls h y
  rw [e1, e2]
  congr 1
  apply List.ext_getElem?
  intro q
  have hrl : (kR ps 0).length = a.length := by rw [p1.length_eq]; simp [Xa]
  by_cases hq : q < a.length
  · obtain ⟨u1, u2, u3⟩ := MW (high := (kR ps 0).length) h.log5 (by omega)
    have hm := Xe u1 u2 u3 (a := q) (by omega)
    obtain ⟨t, ht, rfl⟩ := List.getElem_of_mem hm
    rw [g1 t ht (by omega), g2 t ht (by omega)]
  · rw [List.getElem?_eq_none (by omega), List.getElem?_eq_none (by omega)]
end Go.Pu
namespace Go.Pu
set_option linter.unusedVariables false
def bl (k : Nat) : Nat := if k = 0 then 0 else k.log2 + 1
theorem afV : bl 0 = 0 := rfl
theorem MM (k : Nat) : k < 2 ^ bl k := by
  unfold bl
  split
  · subst_vars; simp
  · exact Nat.lt_log2_self
theorem Q5 {k : Nat} (h : k ≠ 0) : 2 ^ (bl k - 1) ≤ k := by
  unfold bl
  rw [if_neg h, Nat.add_sub_cancel]
  exact Nat.log2_self_le h
theorem Hb {k : Nat} (h : k ≠ 0) : 1 ≤ bl k := by unfold bl; rw [if_neg h]; omega
theorem lR {k n : Nat} (h : k < 2 ^ n) : bl k ≤ n := by
  by_cases h0 : k = 0
  · subst h0; simp [bl]
  · rcases Nat.lt_or_ge n (bl k) with hh | hh
    · have h1 := Q5 h0
      have := Nat.pow_le_pow_right (n := 2) (by omega) (show n ≤ bl k - 1 by omega)
      omega
    · exact hh
theorem agZ {k n : Nat} (h1 : 2 ^ n ≤ k) (h2 : k < 2 ^ (n + 1)) : bl k = n + 1 := by
  have h0 : k ≠ 0 := by have := Nat.two_pow_pos n; omega
  have a := lR h2
  have b := MM k
  rcases Nat.lt_or_ge (bl k) (n + 1) with h | h
  · have := Nat.pow_le_pow_right (n := 2) (by omega) (show bl k ≤ n by omega)
    omega
  · omega
def Y7 (ps S : List Int) (i : Nat) : Nat := (eM (ps.getD (S.getD i 0).toNat 0)).toNat + (S.take i).count (S.getD i 0)
def zB (log : Nat) (x : Int) (k : Nat) : Int × Int × Int := (x, ((log + 1 - bl k : Nat) : Int), ((k * 2 ^ (log + 1 - bl k) : Nat) : Int) - 2 ^ log)
def Jg (log : Nat) (ps S : List Int) (i : Nat) : Int × Int × Int := zB log (S.getD i 0) (Y7 ps S i)
def nE (log : Nat) (ps : List Int) : List (Int × Int × Int) := (List.range (2 ^ log)).map (Jg log ps (jS 0 log ps))
theorem nF (log : Nat) (ps : List Int) : (nE log ps).length = 2 ^ log := by simp [nE]
theorem WE {S : List Int} {i : Nat} (h : i < S.length) : (S.take i).count S[i] + 1 ≤ S.count S[i] := by
  have e : S = S.take i ++ S[i] :: S.drop (i + 1) := by rw [← List.drop_eq_getElem_cons h, List.take_append_drop]
  have : S.count S[i] = (S.take i ++ S[i] :: S.drop (i + 1)).count S[i] := by rw [← e]
  rw [this, List.count_append, List.count_cons]; simp
theorem VA {log : Nat} {ps : List Int} (h : VE log ps) {s : Nat} (hs : s < ps.length) : (eM ps[s]).toNat ≤ 2 ^ log := by
  have := Z5 h.low (List.getElem_mem hs)
  rw [h.sum] at this
  have hpow : ((2 ^ log : Nat) : Int) = (2 : Int) ^ log := by simp
  rw [← hpow] at this
  exact Int.toNat_le.2 this
theorem VS {log : Nat} {ps S : List Int} (h : VE log ps) (L : Lay log ps S) {i : Nat} (hi : i < 2 ^ log) :
    ∃ s : Nat, ∃ hs : s < ps.length, S.getD i 0 = (s : Int) ∧ 1 ≤ (eM ps[s]).toNat ∧ (eM ps[s]).toNat ≤ 2 ^ log ∧ Y7 ps S i = (eM ps[s]).toNat + (S.take i).count (s : Int) ∧ (S.take i).count (s : Int) < (eM ps[s]).toNat := by
  have hil : i < S.length := by rw [L.len]; exact hi
  have hg : S.getD i 0 = S[i] := by rw [List.getD_eq_getElem?_getD, List.getElem?_eq_getElem hil]; rfl
  obtain ⟨s, hs, e⟩ := L.rng _ (List.getElem_mem hil)
  have hc := WE hil
  rw [e, L.cnt s hs] at hc
  refine ⟨s, hs, by rw [hg, e], by omega, VA h hs, ?_, by omega⟩
  unfold Y7
  rw [hg, e, Int.toNat_natCast, List.getD_eq_getElem?_getD, List.getElem?_eq_getElem hs]; rfl
theorem XO {log k : Nat} (h1 : 1 ≤ k) (h2 : k < 2 ^ (log + 1)) : 2 ^ log ≤ k * 2 ^ (log + 1 - bl k) ∧ (k + 1) * 2 ^ (log + 1 - bl k) ≤ 2 ^ (log + 1) ∧ bl k ≤ log + 1 ∧ 1 ≤ bl k := by
  have a := lR h2
  have b := Hb (k := k) (by omega)
  have c := Q5 (k := k) (by omega)
  have d := MM k
  refine ⟨?_, ?_, a, b⟩
  · calc 2 ^ log = 2 ^ (bl k - 1) * 2 ^ (log + 1 - bl k) := by rw [← Nat.pow_add]; congr 1; omega
      _ ≤ k * 2 ^ (log + 1 - bl k) := Nat.mul_le_mul_right _ c
  · calc (k + 1) * 2 ^ (log + 1 - bl k) ≤ 2 ^ bl k * 2 ^ (log + 1 - bl k) := Nat.mul_le_mul_right _ d
      _ = 2 ^ (log + 1) := by rw [← Nat.pow_add]; congr 1; omega
theorem ZV (n j : Nat) (hn : 0 < n) : ∃ d, d < n ∧ pos n (j + d) = 0 := by
  refine ⟨(n - j % n) % n, Nat.mod_lt _ hn, ?_⟩
  unfold pos
  have : (j + (n - j % n) % n) % n = 0 := by
    rw [Nat.add_mod_mod]
    have h1 := Nat.mod_lt j hn
    have h2 := Nat.div_add_mod j n
    have : j + (n - j % n) = n * (j / n + 1) := by
      rw [Nat.mul_add, Nat.mul_one]
      generalize n * (j / n) = y at *
      generalize j % n = r at *
      omega
    rw [this, Nat.mul_mod_right]
  rw [Nat.mul_mod, this, Nat.zero_mul, Nat.zero_mod]
theorem LR {n high : Nat} (hn : 0 < n) (hh : 0 < high) (j : Nat) : ∃ d, (∀ e, e < d → high ≤ pos n (j + e)) ∧ pos n (j + d) < high ∧ PI n high n (pos n j) = pos n (j + d) := by
  obtain ⟨D, hD, h0⟩ := ZV n j hn
  have key : ∀ (D f j : Nat), D ≤ f → pos n (j + D) < high → ∃ d, (∀ e, e < d → high ≤ pos n (j + e)) ∧ pos n (j + d) < high ∧ PI n high f (pos n j) = pos n (j + d) := by
    intro D
    induction D with
    | zero =>
      intro f j _ h
      refine ⟨0, fun e he => by omega, h, ?_⟩
      rw [Nat.add_zero] at h ⊢
      cases f with
      | zero => rfl
      | succ f => unfold PI; rw [if_pos h]
    | succ D ih =>
      intro f j hf h
      obtain ⟨f, rfl⟩ : ∃ g, f = g + 1 := ⟨f - 1, by omega⟩
      by_cases hj : pos n j < high
      · exact ⟨0, fun e he => by omega, hj, by unfold PI; rw [if_pos hj]; rfl⟩
      · obtain ⟨d, h1, h2, h3⟩ := ih f (j + 1) (by omega) (by rw [show j + 1 + D = j + (D + 1) from by omega]; exact h)
        refine ⟨d + 1, fun e he => ?_, by rw [show j + (d + 1) = j + 1 + d from by omega]; exact h2, ?_⟩
        · cases e with
          | zero => rw [Nat.add_zero]; omega
          | succ e => rw [show j + (e + 1) = j + 1 + e from by omega]; exact h1 e (by omega)
        · unfold PI; rw [if_neg hj, DJ, h3]; congr 1; omega
  exact key D n j (by omega) (by rw [h0]; exact hh)
theorem T7 {log : Nat} {ps : List Int} (h : VE log ps) (x0 : Int) : ∃ arr, M2 ps 0 (2 ^ log) (List.replicate (2 ^ log) x0) = ((kR ps 0).length, arr) ∧ arr.length = 2 ^ log ∧ (mS ps 0).length + (kR ps 0).length = 2 ^ log ∧ jS x0 log ps = yE (2 ^ log) (kR ps 0).length (kR ps 0) 0 arr := by
  have hrl := Yd ps 0 h.low
  rw [h.sum] at hrl
  have hpow : ((2 ^ log : Nat) : Int) = (2 : Int) ^ log := by simp
  have hsum : (mS ps 0).length + (kR ps 0).length = 2 ^ log := by omega
  have ht := WY ps 0 (2 ^ log) (List.replicate (2 ^ log) x0) (by omega) (by simp)
  rw [show 2 ^ log - (mS ps 0).length = (kR ps 0).length from by omega] at ht
  refine ⟨_, ht, ?_, hsum, ?_⟩
  · simp [Xa]; omega
  · unfold jS; rw [ht]
end Go.Pu
namespace Go.En
open Go
set_option linter.unusedVariables false
section
variable {P : Program} {w : World} {t e : TypeId}
theorem X3 {i : TypeInfo} (hu : P.underlying t = some (.slice e)) (hi : P.info? e = some i)
    {K : Value → World → Prop} (hk : ∀ w', fA w' w.heap.size [] → bZ w w' fN → w'.heap.size = w.heap.size + 1 → K (.slice (some ⟨w.heap.size, 0, none⟩) 0 0) w') :
    aD P (cQ t 0 []) w K := by
  have : (cQ t 0 []).run P w = .ok (.value (.slice (some ⟨w.heap.size, 0, none⟩) 0 0)) (w.alloc (.cells ([] : List Value).toArray e)) := by
    unfold cQ; rw [nK]
    have h1 : ¬ (0 > 2 ^ 24) := by omega
    have e : ∀ f : Nat → Value, Array.map f (Array.range 0) = #[] := fun f => by simp
    simp only [Instr.buildSlice, underlying, pure_bind, Sem.run_bind, run_program, Result.andThen_ok, hu, Sem.run_pure, gV hi, Nat.zero_mul, h1, if_false, if_true, newRow, run_newObj, Instr.fill, e]
    rfl
  unfold aD
  rw [this]
  exact hk _ (fA.alloc _ _ _) (bZ.alloc _ _ _) (by simp)
def At (v : Value) (b : Nat) : Prop := ∀ M : Nat → Prop, ¬ M b → ¬ YD v M
theorem At.nil (c b : Nat) (a : Option Addr) : At (.slice a 0 c) b := fun M h => by unfold YD; split <;> simp_all
theorem At.at (b o n c : Nat) : At (.slice (some ⟨b, o, none⟩) n c) b := fun M h => by
  unfold YD; split
  · rename_i x m _ e
    obtain ⟨rfl, _⟩ : (⟨b, o, none⟩ : Addr) = x ∧ _ := by simpa using e
    exact h
  · simp
theorem nG.at' {w : World} {base sz n : Nat} {v : Value} {l : List Value} (h : nG w base sz v n l) (hb : base < w.heap.size) : ∃ b, base ≤ b ∧ b < w.heap.size ∧ At v b := by
  rcases h.2 with ⟨rfl, rfl⟩ | ⟨b, c, rest, rfl, h2, h3, h4, h5⟩
  · exact ⟨base, Nat.le_refl _, hb, At.nil _ _ _⟩
  · exact ⟨b, h2, h3.lt, At.at _ _ _ _⟩
end
end Go.En
namespace Go.Proofs.Ytoepfjgekpdddaa
open Go Go.En Go.Pu
set_option maxRecDepth 4000
set_option linter.unusedSimpArgs false
set_option linter.unusedVariables false
theorem Cq (n : Nat) (hn : n ≤ 40) (w : World) : cC pg iE #[.int .i64 n] w (fun r w' => r = .int .i64 (2 ^ n) ∧ w' = w) := by
  refine Se ?_
  unfold TH Fh FC Ab ED EV As ER
  refine cV.rule (fun m t w' => ∃ i : Nat, m = n - i ∧ t = (.int .i64 (2 ^ i), .int .i64 i) ∧ i ≤ n ∧ w' = w) n ⟨0, rfl, rfl, by omega, rfl⟩ ?_
  rintro m t w' ⟨i, rfl, rfl, hi, rfl⟩
  by_cases hlt : i < n
  · have d1 : decide ((i : Int) < (n : Int)) = true := by simp; omega
    have d2 : decide ((i : Int) < 40) = true := by simp; omega
    have hb : (2 : Int) ^ i ≤ 549755813888 := by
      have : 2 ^ i ≤ 2 ^ 39 := Nat.pow_le_pow_right (by omega) (by omega)
      have e : ((2 ^ i : Nat) : Int) = (2 : Int) ^ i := by simp
      omega
    have hp := Yu i
    simp (disch := omega) only [rY, aD, bN, d1, qB, bD, bY, aB, rU, cJ, if_true, cL, d2, and_true, aK]
    exact ⟨n - (i + 1), by omega, i + 1, rfl, by rw [Int.pow_succ]; rfl, by omega⟩
  · have d1 : decide ((i : Int) < (n : Int)) = false := by simp; omega
    have : i = n := by omega
    subst this
    simp (disch := omega) only [rY, aD, bN, d1, qB, bY, bD, aB, A8, true_and, BK, cJ, Bool.false_eq_true, if_false, aJ, dG]
def X4 : ByteArray := ⟨#[0, 1, 2, 2, 3, 3, 3, 3, 4, 4, 4, 4, 4, 4, 4, 4, 5, 5, 5, 5, 5, 5, 5, 5, 5, 5, 5, 5, 5, 5, 5, 5, 6, 6, 6, 6, 6, 6, 6, 6, 6, 6, 6, 6, 6, 6, 6, 6, 6, 6, 6, 6, 6, 6, 6, 6, 6, 6, 6, 6, 6, 6, 6, 6, 7, 7, 7, 7, 7, 7, 7, 7, 7, 7, 7, 7, 7, 7, 7, 7, 7, 7, 7, 7, 7, 7, 7, 7, 7, 7, 7, 7, 7, 7, 7, 7, 7, 7, 7, 7, 7, 7, 7, 7, 7, 7, 7, 7, 7, 7, 7, 7, 7, 7, 7, 7, 7, 7, 7, 7, 7, 7, 7, 7, 7, 7, 7, 7, 8, 8, 8, 8, 8, 8, 8, 8, 8, 8, 8, 8, 8, 8, 8, 8, 8, 8, 8, 8, 8, 8, 8, 8, 8, 8, 8, 8, 8, 8, 8, 8, 8, 8, 8, 8, 8, 8, 8, 8, 8, 8, 8, 8, 8, 8, 8, 8, 8, 8, 8, 8, 8, 8, 8, 8, 8, 8, 8, 8, 8, 8, 8, 8, 8, 8, 8, 8, 8, 8, 8, 8, 8, 8, 8, 8, 8, 8, 8, 8, 8, 8, 8, 8, 8, 8, 8, 8, 8, 8, 8, 8, 8, 8, 8, 8, 8, 8, 8, 8, 8, 8, 8, 8, 8, 8, 8, 8, 8, 8, 8, 8, 8, 8, 8, 8, 8, 8, 8, 8, 8, 8, 8, 8, 8, 8, 8, 8]⟩
theorem LT : X4.size = 256 := by decide
set_option maxRecDepth 100000 in
theorem Yp (x : Nat) (h : x < 256) : (X4[x]'(by rw [LT]; exact h)).toNat = bl x := by
  have : ∀ k : Fin 256, (X4.data[k.val]!).toNat = bl k.val := by decide +kernel
  have h2 := this ⟨x, h⟩
  simp only at h2
  rw [← h2]
  have hs : x < X4.data.size := by have := LT; exact (show X4.data.size = 256 from this) ▸ h
  rw [getElem!_pos X4.data x hs]
  rfl
theorem Vx {x j : Nat} (h : 2 ^ j ≤ x) : bl x = bl (x / 2 ^ j) + j := by
  have hp := Nat.two_pow_pos j
  have h0 : x / 2 ^ j ≠ 0 := by
    have := Nat.div_pos h hp
    omega
  have a := Q5 h0
  have b := MM (x / 2 ^ j)
  have c := Hb h0
  obtain ⟨m, hm⟩ : ∃ m, bl (x / 2 ^ j) = m + 1 := ⟨bl (x / 2 ^ j) - 1, by omega⟩
  rw [hm, Nat.add_sub_cancel] at a
  rw [hm] at b ⊢
  have h1 : 2 ^ (m + j) ≤ x := by
    rw [Nat.pow_add]
    exact Nat.le_trans (Nat.mul_le_mul_right _ a) (Nat.div_mul_le_self _ _)
  have h2 : x < 2 ^ (m + j + 1) := by
    rw [show m + j + 1 = (m + 1) + j from by omega, Nat.pow_add]
    exact (Nat.div_lt_iff_lt_mul hp).1 b
  rw [agZ h1 h2]; omega
theorem Yi {x n : Nat} (hx : x < 256) (hn : n ≤ 1000) (R : Value → World → Prop) (w : World) (h : R (.int .i64 ((n + bl x : Nat) : Int)) w) :
    lS R (.int .u64 x) (.int .i64 n) w := by
  have hg := Yp x hx
  have hs := LT
  have hb : bl x ≤ 8 := lR (n := 8) (by omega)
  unfold lS
  change aD pg _ w fun t21 w => aD pg (Oc 9 (.string X4) t21) w _
  simp (disch := omega) only [aD, jJ, CI, aB, iF, Int.toNat_natCast, hg, eY, bD, bY]
  rw [Int.natCast_add] at h
  exact h
theorem Vs (a b : Nat) : ((a : Int)).fdiv (b : Int) = ((a / b : Nat) : Int) := by rw [Int.fdiv_eq_ediv_of_nonneg _ (by omega)]; rfl
theorem XI (x j : Nat) (hj : j ≤ 64) : ((x : Int)).fdiv (2 ^ (min (j : Nat) IntKind.u64.bits)) = ((x / 2 ^ j : Nat) : Int) := by
  have e : min j IntKind.u64.bits = j := by simp only [IntKind.bits]; omega
  rw [e, ← Vs]; simp
theorem Z8 (x : Nat) (hx : x < 18446744073709551616) (w : World) : cC pg mX #[.int .u64 x] w (fun r w' => r = .int .i64 (bl x : Nat) ∧ w' = w) := by
  refine Kx ?_
  unfold Je xY xO
  have step8 : ∀ (y n : Nat), y < 65536 → n ≤ 64 → n + bl y = bl x → lT (fun r w' => r = .int .i64 (bl x : Nat) ∧ w' = w) (.int .u64 y) (.int .i64 n) w := by
    intro y n hy hn e
    unfold lT xG
    by_cases h : 256 ≤ y
    · have d : decide ((256 : Int) ≤ (y : Int)) = true := by simp; omega
      have sh := XI y 8 (by omega)
      have hq : y / 2 ^ 8 < 256 := by omega
      have := Vx (x := y) (j := 8) (by omega)
      have e2 : (n : Int) + 8 = ((n + 8 : Nat) : Int) := by omega
      simp (disch := omega) only [aD, kU, d, uW, bY, e2, bD, aB, aK]
      rw [show (8 : Int).toNat = 8 from rfl, sh]
      exact Yi hq (by omega) _ _ ⟨by rw [← e, this]; congr 2; omega, rfl⟩
    · have d : decide ((256 : Int) ≤ (y : Int)) = false := by simp; omega
      simp (disch := omega) only [aD, kU, d, uW, bY, bD, aB, aJ]
      exact Yi (by omega) (by omega) _ _ ⟨by rw [e], rfl⟩
  have step16 : ∀ (y n : Nat), y < 4294967296 → n ≤ 32 → n + bl y = bl x → lW (fun r w' => r = .int .i64 (bl x : Nat) ∧ w' = w) (.int .u64 y) (.int .i64 n) w := by
    intro y n hy hn e
    unfold lW xJ
    by_cases h : 65536 ≤ y
    · have d : decide ((65536 : Int) ≤ (y : Int)) = true := by simp; omega
      have sh := XI y 16 (by omega)
      have hq : y / 2 ^ 16 < 65536 := by omega
      have := Vx (x := y) (j := 16) (by omega)
      have e2 : (n : Int) + 16 = ((n + 16 : Nat) : Int) := by omega
      simp (disch := omega) only [aD, kU, d, uW, bY, e2, bD, aB, aK]
      rw [show (16 : Int).toNat = 16 from rfl, sh]
      exact step8 _ _ hq (by omega) (by rw [← e, this]; omega)
    · have d : decide ((65536 : Int) ≤ (y : Int)) = false := by simp; omega
      simp (disch := omega) only [aD, kU, d, uW, bY, bD, aB, aJ]
      exact step8 _ _ (by omega) (by omega) e
  by_cases h : 4294967296 ≤ x
  · have d : decide ((4294967296 : Int) ≤ (x : Int)) = true := by simp; omega
    have sh := XI x 32 (by omega)
    have hq : x / 2 ^ 32 < 4294967296 := by omega
    have := Vx (x := x) (j := 32) (by omega)
    simp (disch := omega) only [aD, kU, d, uW, aB, aK]
    rw [show (32 : Int).toNat = 32 from rfl, sh]
    exact step16 _ 32 hq (by omega) (by rw [this]; omega)
  · have d : decide ((4294967296 : Int) ≤ (x : Int)) = false := by simp; omega
    simp (disch := omega) only [aD, kU, d, uW, aB, aJ]
    exact step16 _ 0 (by omega) (by omega) (by omega)
theorem Yt (x : Nat) (hx : x < 18446744073709551616) (w : World) : cC pg kC #[.int .u64 x] w (fun r w' => r = .int .i64 (bl x : Nat) ∧ w' = w) := by
  refine Nt ?_
  simp (disch := omega) only [ML, BW, aD, jV, aB, aJ]
  exact Z8 x hx w
theorem Ww {n : Nat} (h : n ≤ 20) : IntKind.i64.wrap (1 * 2 ^ (min n IntKind.i64.bits)) = ((2 ^ n : Nat) : Int) := by
  have : ∀ k : Fin 21, IntKind.i64.wrap (1 * 2 ^ (min k.val IntKind.i64.bits)) = ((2 ^ k.val : Nat) : Int) := by decide
  exact this ⟨n, by omega⟩
theorem HW {w : World} {v : Value} {l : List UInt8} (h : Bs w v l) (h0 : 0 < l.length) : ∃ b off c, v = .slice (some ⟨b, off, none⟩) l.length c ∧ l.length ≤ c ∧ ∀ i, (h : i < l.length) → w.cell? ⟨b, off + i, none⟩ = some (.int .u8 (l[i].toNat : Nat)) := by
  obtain ⟨b, off, c, rfl, hc, hcell⟩ := h.openV (by simpa using h0)
  refine ⟨b, off, c, by rw [List.length_map], by simpa using hc, fun i hi => ?_⟩
  have := hcell i (by simpa using hi)
  simpa [Ic] using this
theorem Xh {v : Value} {l : List UInt8} {w : World} (h : Bs w v l) (hl : l.length ≤ 1000000000) :
    cC pg jY #[v] w (fun r w' => nG w' w.heap.size 1 r l.length (l.map Ic) ∧ bZ w w' fN) := by
  refine Iw ?_
  have h1 := h
  obtain ⟨a, n, c, rfl, hn, hc, hh⟩ := h
  rw [List.length_map] at hn
  unfold Gg rW
  cases a with
  | none =>
    have h0 : l = [] := by
      cases l with
      | nil => rfl
      | cons x l => obtain ⟨b, off, h, _⟩ := hh (by simp at hn; omega); cases h
    subst h0
    simp (disch := omega) only [aD, jQ, Option.isNone_none, aB, aK]
    exact ⟨nG.nil _ _ _, bZ.refl _ _⟩
  | some x =>
    simp (disch := omega) only [aD, jQ, Option.isNone_some, aB, aJ]
    refine X3 Try.underlying22 XD fun w1 o1 x1 s1 => ?_
    have hcl1 := (h1.ext x1 (eI _)).cl
    rw [List.length_map] at hcl1
    have hos : nG w1 w.heap.size 1 (.slice (some ⟨w.heap.size, 0, none⟩) 0 0) 0 [] := ⟨rfl, .inr ⟨_, 0, [], rfl, Nat.le_refl _, o1, rfl, Nat.le_refl _⟩⟩
    refine jN hos hcl1 (ahF _) x1.size (by omega) fun v3 w3 o3 x3 => ?_
    rw [Nat.zero_add, List.nil_append] at o3
    exact ⟨o3, x1.trans x3 fun b hb h => Nat.not_le_of_lt hb h⟩
def ZG (v : Value) (lo hi : Nat) : Prop := ∀ M : Nat → Prop, (∀ b, lo ≤ b → b < hi → ¬ M b) → ¬ YD v M
theorem nG.atI {w : World} {base sz n : Nat} {v : Value} {l : List Value} (h : nG w base sz v n l) : ZG v base w.heap.size := by
  intro M hM
  rcases h.2 with ⟨rfl, rfl⟩ | ⟨b, c, rest, rfl, h2, h3, h4, h5⟩
  · exact fun h => h
  · exact At.at b 0 n c M (hM b h2 h3.lt)
theorem aeR {w : World} {a : Option Addr} {n c : Nat} {l : List Value} (h : Sl w (.slice a n c) l) {k : Nat} (hk : k ≤ n) : Sl w (.slice a k c) (l.take k) := by
  obtain ⟨a', n', c', e, hn, hc, hh⟩ := h
  cases e
  refine ⟨a, k, c, rfl, by rw [List.length_take]; omega, by omega, fun h0 => ?_⟩
  obtain ⟨b, off, ha, hcell⟩ := hh (by omega)
  refine ⟨b, off, ha, fun i hi => ?_⟩
  rw [hcell i (by omega), List.getElem?_take_of_lt (by omega)]
theorem slA {w : World} {a : Option Addr} {n c : Nat} {l : List Value} (h : Sl w (.slice a n c) l) (h0 : 0 < n) : ∃ b off, a = some ⟨b, off, none⟩ ∧ ∀ i, i < n → w.cell? ⟨b, off + i, none⟩ = l[i]? := by
  obtain ⟨a', n', c', e, hn, hc, hh⟩ := h
  cases e
  exact hh h0
end Go.Proofs.Ytoepfjgekpdddaa
namespace Go.Proofs.Ytoepfjgekpdddaa
open Go Go.En Go.Pu
set_option maxRecDepth 4000
set_option linter.unusedSimpArgs false
set_option linter.unusedVariables false
theorem adE {ps : List Int} {i : Nat} (hi : i < ps.length) : yK (ps.take (i + 1)) = yK (ps.take i) + eM ps[i] := by
  rw [List.take_add_one, List.getElem?_eq_getElem hi, Ld]; simp [yK]
theorem aeJ {log : Int} {sv : Value} {ps : List Int} {w : World} (hs : Sl w sv (ps.map (Value.int .i64))) (hl : ps.length ≤ 9223372036854775807) :
    cC pg F5 #[.agg #[.int .i64 log, sv]] w (fun r w' => r = .bool (ME log ps) ∧ bZ w w' fN) := by
  refine VK ?_
  unfold W1 G4 GX
  obtain ⟨a, c, rfl, hc⟩ := hs.lenI
  refine kT fun w1 o1 x1 s1 => ?_
  have hs0 := hs.ext x1 (eI _)
  have c0 := o1.cell (off := 0)
  have c1 := o1.cell (off := 1)
  simp only [Value.cells, List.getElem?_cons_zero, List.getElem?_cons_succ] at c0 c1
  have no : ¬ (5 ≤ log ∧ log ≤ 15 ∧ 1 ≤ ps.length ∧ ps.length ≤ 256 ∧ ps.getLast? ≠ some 0) → ME log ps = false := fun h => by
    unfold ME WR; rw [decide_eq_false h]; rfl
  by_cases h1 : log < 5
  · have d1 : decide (log < 5) = true := by simpa using h1
    simp (disch := omega) only [aD, cW, aB, bC, Nat.zero_add, cP, c0, aP, bN, d1, gD, cJ, if_true, aK, dG]
    exact ⟨by rw [no (by omega)], x1⟩
  have d1 : decide (log < 5) = false := by simpa using h1
  by_cases h2 : 15 < log
  · have d2 : decide (15 < log) = true := by simpa using h2
    simp (disch := omega) only [aD, cW, aB, bC, Nat.zero_add, cP, c0, aP, bN, d1, eD, cJ, Bool.false_eq_true, if_false, cL, dM, d2, gD, if_true, aK, dG]
    exact ⟨by rw [no (by omega)], x1⟩
  have d2 : decide (15 < log) = false := by simpa using h2
  by_cases h3 : ps.length < 1
  · have d3 : ((ps.length : Int) == 0) = true := by rw [beq_iff_eq]; omega
    simp (disch := omega) only [aD, cW, aB, bC, Nat.zero_add, cP, c0, aP, bN, d1, eD, cJ, Bool.false_eq_true, if_false, cL, dM, d2, eH, c1, dT, gY, d3, gD, if_true, aK, dG]
    exact ⟨by rw [no (by omega)], x1⟩
  have d3 : ((ps.length : Int) == 0) = false := by rw [beq_eq_false_iff_ne]; omega
  by_cases h4 : 256 < ps.length
  · have d4 : decide ((256 : Int) < (ps.length : Int)) = true := by simp; omega
    simp (disch := omega) only [aD, cW, aB, bC, Nat.zero_add, cP, c0, aP, bN, d1, eD, cJ, Bool.false_eq_true, if_false, cL, dM, d2, eH, c1, dT, gY, d3, d4, gD, if_true, aK, dG]
    exact ⟨by rw [no (by omega)], x1⟩
  have d4 : decide ((256 : Int) < (ps.length : Int)) = false := by simp; omega
  obtain ⟨b, off, c', e, hc', hcell⟩ := hs0.openI (by omega)
  cases e
  have e1 : ((ps.length : Int) - 1) = ((ps.length - 1 : Nat) : Int) := by omega
  have g1 := hcell (ps.length - 1) (by omega)
  by_cases h5 : ps[ps.length - 1]'(by omega) = 0
  · have d5 : (ps[ps.length - 1]'(by omega) == 0) = true := by simpa using h5
    simp (disch := omega) only [aD, cW, aB, bC, Nat.zero_add, cP, c0, aP, bN, d1, eD, cJ, Bool.false_eq_true, if_false, cL, dM, d2, eH, c1, dT, gY, d3, d4, dY, e1, bD, dN, Int.toNat_natCast, g1, d5, aK]
    exact ⟨by rw [no (fun h => h.2.2.2.2 ((Ig (by omega)).2 h5))], x1⟩
  have d5 : (ps[ps.length - 1]'(by omega) == 0) = false := by simpa using h5
  obtain ⟨l, rfl⟩ : ∃ l : Nat, log = l := ⟨log.toNat, by omega⟩
  have hyes : ME (l : Int) ps = VF (2 ^ l) ps := by
    unfold ME WR
    rw [decide_eq_true ⟨by omega, by omega, by omega, by omega, fun h => h5 ((Ig (by omega)).1 h)⟩, Int.toNat_natCast]; rfl
  simp (disch := omega) only [aD, cW, aB, bC, Nat.zero_add, cP, c0, aP, bN, d1, eD, cJ, Bool.false_eq_true, if_false, cL, dM, d2, eH, c1, dT, gY, d3, d4, dY, e1, bD, dN, Int.toNat_natCast, g1, d5, aJ]
  unfold B4 GG Gz B3 GB
  have hp15 := YB (log := l) (by omega)
  refine cV.rule (fun m t w' => ∃ (i : Nat), m = ps.length - i ∧ t = (.int .i64 (yK (ps.take i)), .int .i64 i) ∧ i ≤ ps.length ∧ 0 ≤ yK (ps.take i) ∧ yK (ps.take i) ≤ 32768 * i ∧ (∀ p ∈ ps.take i, -1 ≤ p) ∧ bZ w w' fN ∧ bZ w1 w' fN) ps.length
    ⟨0, rfl, by simp [yK], by omega, by simp [yK], by simp [yK], by simp, x1, bZ.refl _ _⟩ ?_
  rintro m t w2 ⟨i, rfl, rfl, hi, hs0', hs1, hlo, x2, x12⟩
  have o2 := o1.ext x12 (fun h => h)
  have c0 := o2.cell (off := 0)
  have c1 := o2.cell (off := 1)
  simp only [Value.cells, List.getElem?_cons_zero, List.getElem?_cons_succ] at c0 c1
  by_cases hlt : i < ps.length
  · have d6 : decide ((i : Int) < (ps.length : Int)) = true := by simp; omega
    obtain ⟨b', off', c', e, _, hcell2⟩ := (hs.ext x2 (eI _)).openI (by omega)
    cases e
    have g2 := hcell2 i hlt
    have bad : ¬ (-1 ≤ ps[i] ∧ ps[i] ≤ 32768) → ME (l : Int) ps = false := fun h => by
      rw [hyes, ← Bool.not_eq_true, Qp]
      rintro ⟨k1, k2⟩
      have := Z5 k1 (List.getElem_mem hlt)
      have := k1 _ (List.getElem_mem hlt)
      unfold eM at *
      split at * <;> omega
    by_cases h6 : ps[i] < -1
    · have d7 : decide (ps[i] < -1) = true := by simpa using h6
      unfold pC tP tD Ae AG AJ
      simp (disch := omega) only [aD, bC, Nat.zero_add, aB, eH, c1, aP, dT, bN, d6, dN, Int.toNat_natCast, cP, g2, d7, gD, cJ, if_true, aK, dG]
      exact ⟨by rw [bad (by omega)], x2⟩
    have d7 : decide (ps[i] < -1) = false := by simpa using h6
    by_cases h7 : 32768 < ps[i]
    · have d8 : decide (32768 < ps[i]) = true := by simpa using h7
      unfold pC tP tD Ae AG AJ
      simp (disch := omega) only [aD, bC, Nat.zero_add, aB, eH, c1, aP, dT, bN, d6, dN, Int.toNat_natCast, cP, g2, d7, eD, cJ, Bool.false_eq_true, if_false, cL, dM, d8, aK]
      exact ⟨by rw [bad (by omega)], x2⟩
    have d8 : decide (32768 < ps[i]) = false := by simpa using h7
    have hts := adE hlt
    have hlow : ∀ p ∈ ps.take (i + 1), -1 ≤ p := fun p hp => by
      rw [List.take_add_one, List.getElem?_eq_getElem hlt] at hp
      rcases List.mem_append.1 hp with hp | hp
      · exact hlo p hp
      · simp at hp; omega
    unfold pC tP tD Ae AG AJ
    by_cases h8 : ps[i] < 0
    · have d9 : decide (ps[i] < 0) = true := by simpa using h8
      have e : eM ps[i] = 1 := by unfold eM; rw [if_pos h8]
      simp (disch := omega) only [aD, bC, Nat.zero_add, yY, bY, bD, zZ, aB, eH, c1, aP, dT, bN, d6, dN, Int.toNat_natCast, cP, g2, d7, d9, aK, eD, cJ, Bool.false_eq_true, if_false, cL, dM, d8, aJ]
      exact ⟨ps.length - (i + 1), by omega, i + 1, rfl, by rw [hts, e]; rfl, by omega, by omega, by omega, hlow, x2, x12⟩
    · have d9 : decide (ps[i] < 0) = false := by simpa using h8
      have e : eM ps[i] = ps[i] := by unfold eM; rw [if_neg h8]
      simp (disch := omega) only [aD, bC, Nat.zero_add, yY, bY, bD, zZ, aB, eH, c1, aP, dT, bN, d6, dN, Int.toNat_natCast, cP, g2, d7, d9, aJ, eD, cJ, Bool.false_eq_true, if_false, cL, dM, d8, aK]
      exact ⟨ps.length - (i + 1), by omega, i + 1, rfl, by rw [hts, e]; rfl, by omega, by omega, by omega, hlow, x2, x12⟩
  · have d6 : decide ((i : Int) < (ps.length : Int)) = false := by simp; omega
    unfold pC tP D3
    simp (disch := omega) only [aD, bC, Nat.zero_add, cW, aB, cP, eH, c1, aP, dT, bN, d6, c0, aJ]
    refine (Cq l (by omega) _).mono ?_
    rintro r w3 ⟨rfl, rfl⟩
    rw [List.take_of_length_le (by omega)] at hlo ⊢
    simp (disch := omega) only [gY, aB]
    refine ⟨?_, x2⟩
    rw [hyes]
    congr 1
    rw [Bool.eq_iff_iff, Qp, beq_iff_eq]
    exact ⟨fun h => ⟨hlo, h⟩, fun h => h.2⟩
def abZ (log : Int) (ps : List Int) (most : Int) : Int := if ME log ps = false then 1 else if most < log then 12 else 0
theorem afZ {log most : Int} {sv : Value} {ps : List Int} {w : World} (hs : Sl w sv (ps.map (Value.int .i64))) (hl : ps.length ≤ 9223372036854775807) :
    cC pg zP #[.agg #[.int .i64 log, sv], .int .i64 most] w (fun r w' => r = .int .i64 (abZ log ps most) ∧ bZ w w' fN) := by
  refine O8 ?_
  unfold O2 Dj
  refine kT fun w1 o1 x1 s1 => ?_
  have hs := hs.ext x1 (eI _)
  rw [show aW 69 = aW 69 from rfl]
  have l1 := jX o1 (off := 0) (by simp [Value.cells])
  simp only [Value.cells, List.drop_zero, List.take_succ_cons, List.take_zero] at l1
  simp (disch := omega) only [aD, l1, eP, aB, cP]
  refine (ajD hs hl).mono ?_
  rintro r w2 ⟨rfl, x2⟩
  have o2 := o1.ext x2 (fun h => h)
  have c0 := o2.cell (off := 0)
  simp only [Value.cells, List.getElem?_cons_zero] at c0
  unfold abZ
  cases hm : ME log ps with
  | false =>
    simp (disch := omega) only [mR, Bool.not_false, if_true, true_and, aB, aK]
    exact x1.seq x2
  | true =>
    by_cases h : most < log
    · have d : decide (most < log) = true := by simpa using h
      simp (disch := omega) only [mR, Bool.not_true, aB, c0, aP, dM, d, aK, aJ]
      exact ⟨by simp [h], x1.seq x2⟩
    · have d : decide (most < log) = false := by simpa using h
      simp (disch := omega) only [mR, Bool.not_true, aB, c0, aP, dM, d, aJ]
      exact ⟨by simp [h], x1.seq x2⟩
theorem YW {log most : Int} {sv : Value} {ps : List Int} {w : World} (hs : Sl w sv (ps.map (Value.int .i64))) (hl : ps.length ≤ 9223372036854775807) :
    cC pg B8 #[.agg #[.int .i64 log, sv], .int .i64 most] w (fun r w' => r = .int .i64 (abZ log ps most) ∧ bZ w w' fN) := by
  refine R5 ?_
  unfold T4 EF
  refine kT fun w1 o1 x1 s1 => ?_
  have hs := hs.ext x1 (eI _)
  have l1 := jD o1 (off := 0) (by simp [Value.cells])
  simp only [Value.cells, List.drop_zero, List.take_succ_cons, List.take_zero] at l1
  simp (disch := omega) only [aD, l1, cW, aB, cP]
  refine (aeJ hs hl).mono ?_
  rintro r w2 ⟨rfl, x2⟩
  have o2 := o1.ext x2 (fun h => h)
  have c0 := o2.cell (off := 0)
  simp only [Value.cells, List.getElem?_cons_zero] at c0
  unfold abZ
  cases hm : ME log ps with
  | false =>
    simp (disch := omega) only [mR, Bool.not_false, if_true, true_and, aB, aK]
    exact x1.seq x2
  | true =>
    by_cases h : most < log
    · have d : decide (most < log) = true := by simpa using h
      simp (disch := omega) only [mR, Bool.not_true, aB, c0, aP, dM, d, aK, aJ]
      exact ⟨by simp [h], x1.seq x2⟩
    · have d : decide (most < log) = false := by simpa using h
      simp (disch := omega) only [mR, Bool.not_true, aB, c0, aP, dM, d, aJ]
      exact ⟨by simp [h], x1.seq x2⟩
end Go.Proofs.Ytoepfjgekpdddaa
namespace Go.Proofs.Ytoepfjgekpdddaa
open Go Go.En Go.Pu
set_option maxRecDepth 4000
set_option linter.unusedSimpArgs false
set_option linter.unusedVariables false
def m3 (L : List Int) : List T3 := L.map fun x => (x, 0, 0)
theorem ahG (L : List Int) (i : Nat) (h : i < L.length) (x : Int) : (m3 L).set i (x, ((m3 L)[i]'(by simpa [m3] using h)).2) = m3 (L.set i x) := by
  unfold m3; rw [List.map_set]; simp
theorem VU {k : IntKind} {L : List Int} {i : Nat} (h : i < L.length) (x : Int) : (fe k (m3 L)).set (i * 3) (.int k x) = fe k (m3 (L.set i x)) := by
  rw [(Sp k (m3 L) i (by simpa [m3] using h) x).1, ahG L i h x]
theorem Vn (n high s : Nat) (r : List Nat) (a : Nat) (arr : List Int) : yE n high (s :: r) a arr = yE n high r (PI n high n (adv n a)) (arr.set a s) := rfl
theorem WJ {ps : List Int} {i : Nat} (h : i < ps.length) : kR (ps.drop i) i = List.replicate ps[i].toNat i ++ kR (ps.drop (i + 1)) (i + 1) := by
  rw [List.drop_eq_getElem_cons h, kR]
theorem ahZ {w0 w : World} {N high j : Nat} (hN : 0 < N) (hN2 : N ≤ 32768) (hh : 0 < high) (hhN : high ≤ N) (hx : bZ w0 w fN)
    {ov sv a b c d e : Value} {k : Value → Value → Value → Value → Value → Value → Value → Value → Value → Value → World → Prop}
    (hk : ∃ j', PI N high N (adv N (pos N j)) = pos N j' ∧ k (.int .i64 N) ov (.int .i64 high) (.int .i64 (pos N j' : Nat)) sv a b c d e w) :
    BY k (.int .i64 N) ov (.int .i64 high) (.int .i64 (pos N j : Nat)) sv a b c d e w := by
  obtain ⟨dd, h1, h2, h3⟩ := LR hN hh (j + 1)
  obtain ⟨j', hj', hk⟩ := hk
  rw [DJ, h3] at hj'
  rw [← hj'] at hk
  unfold BY
  refine cV.rule (fun m t w' => ∃ q : Nat, m = dd - q ∧ t = .int .i64 (pos N (j + q) : Nat) ∧ q ≤ dd ∧ w' = w) dd ⟨0, rfl, rfl, by omega, rfl⟩ ?_
  rintro m t w' ⟨q, rfl, rfl, hq, rfl⟩
  have hp := Vt hN (j + q)
  have e1 : ((N : Int)).fdiv (2 ^ (min 1 IntKind.i64.bits)) = ((N / 2 : Nat) : Int) := by
    have : (2 : Int) ^ (min 1 IntKind.i64.bits) = ((2 : Nat) : Int) := by decide
    rw [this, Vs]
  have e3 : ((N : Int)).fdiv (2 ^ (min 3 IntKind.i64.bits)) = ((N / 8 : Nat) : Int) := by
    have : (2 : Int) ^ (min 3 IntKind.i64.bits) = ((8 : Nat) : Int) := by decide
    rw [this, Vs]
  have t1 : (1 : Int).toNat = 1 := rfl
  have t3 : (3 : Int).toNat = 3 := rfl
  have e4 : (((pos N (j + q) : Nat) : Int) + ((N / 2 : Nat) : Int) + ((N / 8 : Nat) : Int) + 3).tmod (N : Int) = ((pos N (j + q + 1) : Nat) : Int) := by
    rw [Int.tmod_eq_emod_of_nonneg (by omega), ← DJ]
    unfold adv
    simp
  unfold B2
  by_cases hd : q = dd
  · subst hd
    have d1 : decide (((pos N (j + q + 1) : Nat) : Int) < (high : Int)) = true := by
      simp only [decide_eq_true_eq]
      rw [show j + 1 + q = j + q + 1 from by omega] at h2
      omega
    simp (disch := omega) only [aD, uW, t1, e1, t3, e3, aB, bY, bD, rE, e4, bN, d1, and_true, aK]
    rw [show j + 1 + q = j + q + 1 from by omega] at hk
    exact hk
  · have d1 : decide (((pos N (j + q + 1) : Nat) : Int) < (high : Int)) = false := by
      have := h1 q (by omega)
      rw [show j + 1 + q = j + q + 1 from by omega] at this
      simp only [decide_eq_false_iff_not]
      omega
    simp (disch := omega) only [aD, uW, t1, e1, t3, e3, aB, bY, bD, rE, e4, bN, d1, and_true, aJ]
    exact ⟨dd - (q + 1), by omega, q + 1, rfl, rfl, by omega⟩
theorem YI {log : Nat} {sv : Value} {ps : List Int} {w : World} (hm : VE log ps) (hs : Sl w sv (ps.map (Value.int .i64))) :
    cC pg yS #[.agg #[.int .i64 log, sv]] w (fun r w' => ∃ b, r = .slice (some ⟨b, 0, none⟩) (2 ^ log) (2 ^ log) ∧ w.heap.size ≤ b ∧ fA w' b (fe .u8 (m3 (jS 0 log ps))) ∧ bZ w w' fN) := by
  refine UM ?_
  have h5 := hm.log5
  have h15 := hm.log15
  have hlen := hm.len256
  obtain ⟨arr0, ht, hal, hsum, hfin⟩ := T7 hm 0
  rw [hfin]
  have hN1 : 2 ^ 5 ≤ 2 ^ log := Nat.pow_le_pow_right (by omega) h5
  have hN2 : 2 ^ log ≤ 2 ^ 15 := Nat.pow_le_pow_right (by omega) h15
  have hsh : IntKind.i64.wrap (1 * 2 ^ (min log IntKind.i64.bits)) = ((2 ^ log : Nat) : Int) := by
    have : ∀ k : Fin 16, IntKind.i64.wrap (1 * 2 ^ (min k.val IntKind.i64.bits)) = ((2 ^ k.val : Nat) : Int) := by decide
    exact this ⟨log, by omega⟩
  clear hfin
  generalize hN : 2 ^ log = N at *
  generalize hhigh : (kR ps 0).length = high at *
  unfold VG EG Ek
  refine kT fun w1 o1 x1 s1 => ?_
  have hs1 := hs.ext x1 (eI _)
  have c0 := o1.cell (off := 0)
  have c1 := o1.cell (off := 1)
  simp only [Value.cells, List.getElem?_cons_zero, List.getElem?_cons_succ] at c0 c1
  obtain ⟨a, c, rfl, hc⟩ := hs.lenI
  simp (disch := omega) only [aD, eP, aB, cP, c0, aP, lH, Int.toNat_natCast, hsh]
  refine Tt (by omega) (by omega) fun w2 o2 x2 s2 => ?_
  rw [Int.toNat_natCast, aaC] at o2
  rw [Int.toNat_natCast]
  have o2 : fA w2 w1.heap.size (fe .u8 (m3 (List.replicate N 0))) := by unfold m3; rw [List.map_replicate]; exact o2
  have x02 : bZ w w2 fN := x1.seq x2
  have ob2 := o1.ext x2 (fun h => h)
  have c1 := ob2.cell (off := 1)
  simp only [Value.cells, List.getElem?_cons_zero, List.getElem?_cons_succ] at c1
  unfold Bc Fc EP zH Ft
  simp (disch := omega) only [aD, dL, Nat.zero_add, aB, eH, c1, aP, dT]
  have hw1 : w.heap.size ≤ w1.heap.size := x1.size
  refine cV.rule (fun m t w' => ∃ (i hg : Nat) (arr : List Int), m = ps.length - i ∧ t = (.int .i64 hg, .int .i64 i) ∧ i ≤ ps.length ∧ (mS (ps.drop i) i).length ≤ hg ∧ hg ≤ N ∧ arr.length = N ∧ M2 (ps.drop i) i hg arr = (high, arr0) ∧ fA w' w1.heap.size (fe .u8 (m3 arr)) ∧ bZ w w' fN ∧ fA w' w.heap.size (Value.cells (.agg #[.int .i64 log, .slice a ps.length c])).toList) ps.length
    ⟨0, N, _, rfl, rfl, by omega, by rw [List.drop_zero]; omega, by omega, by simp, by rw [List.drop_zero]; exact ht, o2, x02, ob2⟩ ?_
  rintro m t w3 ⟨i, hg, arr, rfl, rfl, hi, hng, hgN, harr, htop, o3, x3, ob3⟩
  by_cases hlt : i < ps.length
  · have d1 : decide ((i : Int) < (ps.length : Int)) = true := by simp; omega
    obtain ⟨b', off', c', e, _, hcell⟩ := (hs.ext x3 (eI _)).openI (by omega)
    cases e
    have g1 := hcell i hlt
    have hd : ps.drop i = ps[i] :: ps.drop (i + 1) := List.drop_eq_getElem_cons hlt
    rw [hd, mS] at hng
    rw [hd, M2] at htop
    unfold sI zN AR
    by_cases hp : ps[i] = -1
    · have d2 : (ps[i] == -1) = true := by simpa using hp
      rw [if_pos hp] at hng htop
      simp only [List.length_cons] at hng
      have e1 : (hg : Int) - 1 = ((hg - 1 : Nat) : Int) := by omega
      simp (disch := omega) only [aD, bN, d1, dN, Int.toNat_natCast, dY, e1, bD, fI, CI, bY, aB, mK, Nat.zero_add, kZ, cP, g1, aP, gY, d2, aK]
      refine YC o3 rfl (by rw [jB]; simp [m3]; omega) fun w4 o4 x4 s4 => ?_
      rw [VU (by omega)] at o4
      exact ⟨ps.length - (i + 1), by omega, i + 1, hg - 1, _, rfl, rfl, by omega, by omega, by omega, by simp [harr], htop, o4, x3.new x4 hw1, ob3.ext x4 (by omega)⟩
    · have d2 : (ps[i] == -1) = false := by simpa using hp
      rw [if_neg hp] at hng htop
      simp (disch := omega) only [aD, bN, d1, dN, Int.toNat_natCast, dY, bD, fI, CI, bY, aB, cP, g1, aP, gY, d2, aJ, aK]
      exact ⟨ps.length - (i + 1), by omega, i + 1, hg, arr, rfl, rfl, by omega, by omega, by omega, harr, htop, o3, x3, ob3⟩
  · have d1 : decide ((i : Int) < (ps.length : Int)) = false := by simp; omega
    rw [List.drop_of_length_le (by omega), M2] at htop
    obtain ⟨rfl, rfl⟩ : hg = high ∧ arr = arr0 := by simpa using htop
    have c1 := ob3.cell (off := 1)
    simp only [Value.cells, List.getElem?_cons_zero, List.getElem?_cons_succ] at c1
    unfold sI zN AC ET A6 Fk E1 AH FQ
    simp (disch := omega) only [aD, bN, d1, dY, bD, fI, aB, dL, Nat.zero_add, eH, c1, aP, dT, aJ]
    clear d1 hlt hi hng htop
    have hbig : fA w3 w1.heap.size (fe .u8 (m3 arr)) := o3
    refine cV.rule (fun m t w' => ∃ (s j : Nat) (ar : List Int), m = ps.length - s ∧ t = (.int .i64 (pos N j : Nat), .int .i64 s) ∧ s ≤ ps.length ∧ ar.length = N ∧ yE N hg (kR (ps.drop s) s) (pos N j) ar = yE N hg (kR ps 0) 0 arr ∧ (kR (ps.drop s) s).length ≤ hg ∧ fA w' w1.heap.size (fe .u8 (m3 ar)) ∧ bZ w w' fN) ps.length
      ⟨0, 0, arr, rfl, by rw [Lj]; rfl, by omega, harr, by rw [Lj, List.drop_zero], by rw [List.drop_zero, hhigh]; exact Nat.le_refl _, o3, x3⟩ ?_
    rintro m t w4 ⟨s, j, ar, rfl, rfl, hs4, har, hpl, hrl, o4, x4⟩
    by_cases hlt : s < ps.length
    · have d1 : decide ((s : Int) < (ps.length : Int)) = true := by simp; omega
      obtain ⟨b', off', c', e, _, hcell⟩ := (hs.ext x4 (eI _)).openI (by omega)
      cases e
      have g1 := hcell s hlt
      obtain ⟨q, hq⟩ : ∃ q, q = ps[s].toNat := ⟨_, rfl⟩
      have emax : (if (0 : Int) > ps[s] then (0 : Int) else ps[s]) = (q : Int) := by rw [hq]; split <;> omega
      rw [WJ hlt, ← hq] at hpl hrl
      have hqN : q ≤ N := by simp at hrl; omega
      unfold sZ Av yM Fw EE E5 zO Ey Fs
      simp (disch := omega) only [aD, bN, d1, dN, Int.toNat_natCast, aB, cP, g1, aP, F0, emax, aK]
      unfold AL Fm
      refine cV.rule (fun m t w' => ∃ (k j : Nat) (ar : List Int), m = q - k ∧ t = (.int .i64 (pos N j : Nat), .int .i64 k) ∧ k ≤ q ∧ ar.length = N ∧ yE N hg (List.replicate (q - k) s ++ kR (ps.drop (s + 1)) (s + 1)) (pos N j) ar = yE N hg (kR ps 0) 0 arr ∧ fA w' w1.heap.size (fe .u8 (m3 ar)) ∧ bZ w w' fN) q
        ⟨0, j, ar, rfl, rfl, by omega, har, hpl, o4, x4⟩ ?_
      rintro m t w5 ⟨k, j5, ar5, rfl, rfl, hk, har5, hpl5, o5, x5⟩
      by_cases hkq : k < q
      · have d2 : decide ((k : Int) < (q : Int)) = true := by simp; omega
        have hp := Vt (n := N) (by omega) j5
        have hhg : 0 < hg := by simp at hrl; omega
        unfold sJ yW Ak Hp GZ GU
        simp (disch := omega) only [aD, bN, d2, fI, CI, mK, Int.toNat_natCast, Nat.zero_add, aB, kZ, aK]
        refine YC o5 rfl (by rw [jB]; simp [m3]; omega) fun w6 o6 x6 s6 => ?_
        rw [VU (by omega)] at o6
        unfold Cy
        rw [show q - k = (q - (k + 1)) + 1 from by omega, List.replicate_succ, List.cons_append, Vn] at hpl5
        obtain ⟨d, _, hd2, hd3⟩ := LR (n := N) (high := hg) (by omega) hhg (j5 + 1)
        have hsk : PI N hg N (adv N (pos N j5)) = pos N (j5 + 1 + d) := by rw [DJ]; exact hd3
        refine ahZ (w0 := w) (by omega) hN2 hhg hgN (x5.new x6 hw1) ⟨j5 + 1 + d, hsk, ?_⟩
        rw [hsk] at hpl5
        unfold Ck
        simp (disch := omega) only [aD, bY, bD, aB]
        exact ⟨q - (k + 1), by omega, k + 1, j5 + 1 + d, _, rfl, rfl, by omega, by simp [har5], hpl5, o6, x5.new x6 hw1⟩
      · have d2 : decide ((k : Int) < (q : Int)) = false := by simp; omega
        rw [show q - k = 0 from by omega, List.replicate_zero, List.nil_append] at hpl5
        unfold sJ yW B0
        simp (disch := omega) only [aD, bN, d2, bY, bD, aB, aJ]
        exact ⟨ps.length - (s + 1), by omega, s + 1, j5, ar5, rfl, rfl, by omega, har5, hpl5, by simp at hrl; omega, o5, x5⟩
    · have d1 : decide ((s : Int) < (ps.length : Int)) = false := by simp; omega
      rw [List.drop_of_length_le (by omega), kR, yE] at hpl
      unfold sZ Av Cj
      simp (disch := omega) only [aD, bN, d1, aB, aJ]
      exact ⟨_, rfl, hw1, by rw [← hpl]; exact o4, x4⟩
end Go.Proofs.Ytoepfjgekpdddaa
namespace Go.Proofs.Ytoepfjgekpdddaa
open Go Go.En Go.Pu
set_option maxRecDepth 4000
set_option linter.unusedSimpArgs false
set_option linter.unusedVariables false
def Es (log : Nat) (ps S : List Int) (i : Nat) : List T3 := (List.range (2 ^ log)).map fun j => if j < i then Jg log ps S j else (S.getD j 0, 0, 0)
def YS (ps S : List Int) (i : Nat) : List Int := (List.range ps.length).map fun s => eM (ps.getD s 0) + ((S.take i).count (s : Int) : Nat)
theorem Z7 {log : Nat} {ps S : List Int} (h : S.length = 2 ^ log) : Es log ps S 0 = m3 S := by
  unfold Es m3
  apply List.ext_getElem
  · simp [h]
  · intro i h1 h2
    simp only [List.length_map, List.length_range] at h1
    simp only [List.getElem_map, List.getElem_range, Nat.not_lt_zero, if_false, List.getD_eq_getElem?_getD]
    rw [List.getElem?_eq_getElem (by omega)]; rfl
theorem adB (log : Nat) (ps : List Int) : Es log ps (jS 0 log ps) (2 ^ log) = nE log ps := by
  unfold Es nE
  refine List.map_congr_left fun j hj => ?_
  rw [if_pos (List.mem_range.1 hj)]
theorem Bv (log : Nat) (ps S : List Int) (i : Nat) : (Es log ps S i).length = 2 ^ log := by simp [Es]
theorem adR {log : Nat} {ps S : List Int} {i : Nat} (h : i < 2 ^ log) : (Es log ps S i)[i]'(by rw [Bv]; exact h) = (S.getD i 0, 0, 0) := by
  unfold Es; simp
theorem adM {log : Nat} {ps S : List Int} {i : Nat} (_ : i < 2 ^ log) : (Es log ps S i).set i (Jg log ps S i) = Es log ps S (i + 1) := by
  unfold Es
  apply List.ext_getElem
  · simp
  · intro j h1 h2
    rw [List.getElem_set]
    simp only [List.getElem_map, List.getElem_range]
    by_cases hij : i = j
    · subst hij; simp
    · rw [if_neg hij]
      by_cases hj : j < i
      · rw [if_pos hj, if_pos (by omega)]
      · rw [if_neg hj, if_neg (by omega)]
theorem OH (ps S : List Int) (i : Nat) : (YS ps S i).length = ps.length := by simp [YS]
theorem acO (ps S : List Int) : YS ps S 0 = ps.map eM := by
  unfold YS
  apply List.ext_getElem
  · simp
  · intro i h1 h2
    simp only [List.length_map, List.length_range] at h1
    simp only [List.getElem_map, List.getElem_range, List.take_zero, List.count_nil, List.getD_eq_getElem?_getD]
    rw [List.getElem?_eq_getElem h1]; simp
theorem XJ {ps S : List Int} {i s : Nat} (h : s < ps.length) : (YS ps S i)[s]'(by rw [OH]; exact h) = eM ps[s] + ((S.take i).count (s : Int) : Nat) := by
  unfold YS
  simp only [List.getElem_map, List.getElem_range, List.getD_eq_getElem?_getD]
  rw [List.getElem?_eq_getElem h]; rfl
theorem afJ {ps S : List Int} {i s : Nat} (h : i < S.length) (hs : s < ps.length) (e : S[i] = (s : Int)) : (YS ps S i).set s (eM ps[s] + ((S.take i).count (s : Int) : Nat) + 1) = YS ps S (i + 1) := by
  apply List.ext_getElem
  · simp [YS]
  · intro j h1 h2
    have hj : j < ps.length := by simpa [YS] using h2
    rw [List.getElem_set, XJ hj, XJ hj, List.take_add_one, List.getElem?_eq_getElem h, List.count_append]
    simp only [Option.toList, e, List.count_singleton]
    by_cases hij : s = j
    · subst hij; simp; omega
    · have : ((s : Int) == (j : Int)) = false := by simp; omega
      rw [if_neg hij, this]; simp
theorem afG {k b : Nat} (hb : b ≤ 64) (h : k * 2 ^ b ≤ 9223372036854775807) : IntKind.i64.wrap ((k : Int) * 2 ^ (min b IntKind.i64.bits)) = ((k * 2 ^ b : Nat) : Int) := by
  have e : min b IntKind.i64.bits = b := by simp only [IntKind.bits]; omega
  rw [e]
  have : (k : Int) * 2 ^ b = ((k * 2 ^ b : Nat) : Int) := by simp
  rw [this]
  exact bD (by omega) (by omega)
section
variable {log : Nat} {ps S : List Int} {w0 w1 : World} {p1 p2 p4 b nb N : Nat} {sv : Value}
theorem ZC (hm : VE log ps) (L : Lay log ps S) (hN : 2 ^ log = N) {i : Nat} (hlt : i < N) {w3 : World}
    (on3 : fA w3 nb ((YS ps S i).map (Value.int .i64))) (ob3 : fA w3 b (fe .u8 (Es log ps S i)))
    (o13 : fA w3 p1 [.int .i64 log, sv]) (o43 : fA w3 p4 [.int .i64 log, .slice (some ⟨b, 0, none⟩) N N])
    (hne : p1 ≠ b ∧ p4 ≠ b ∧ nb ≠ b ∧ p1 ≠ nb ∧ p4 ≠ nb) {t2 : Value} {kn : Value → Value → Value → Value → Value → Value → World → Prop}
    (hk : ∀ w', fA w' nb ((YS ps S (i + 1)).map (Value.int .i64)) → fA w' b (fe .u8 (Es log ps S (i + 1))) → bZ w3 w' (fun y => y = nb ∨ y = b) →
      kn (.pointer (some ⟨p1, 0, none⟩)) t2 (.pointer (some ⟨p4, 0, none⟩)) (.slice (some ⟨nb, 0, none⟩) ps.length ps.length) (.int .i64 N) (.int .i64 ((i + 1 : Nat) : Int)) w') :
    Aa kn (.pointer (some ⟨p1, 0, none⟩)) t2 (.pointer (some ⟨p4, 0, none⟩)) (.slice (some ⟨nb, 0, none⟩) ps.length ps.length) (.int .i64 N) (.int .i64 i) w3 := by
  have h5 := hm.log5
  have h15 := hm.log15
  have hlen := hm.len256
  have hN2 : 2 ^ log ≤ 2 ^ 15 := Nat.pow_le_pow_right (by omega) h15
  have hSl : S.length = 2 ^ log := L.len
  have c40 := o43.cell (off := 0)
  have c41 := o43.cell (off := 1)
  have c10 := o13.cell (off := 0)
  simp only [List.getElem?_cons_zero, List.getElem?_cons_succ] at c40 c41 c10
  have hltN : i < 2 ^ log := by omega
  obtain ⟨s, hsl, hsS, hp1, hp2, hk', hcnt⟩ := VS hm L hltN
  obtain ⟨k, hkk⟩ : ∃ k, k = Y7 ps S i := ⟨_, rfl⟩
  rw [← hkk] at hk'
  have hk2 : k < 2 ^ (log + 1) := by rw [Nat.pow_succ]; omega
  obtain ⟨eb1, eb2, eb3, eb4⟩ := XO (log := log) (k := k) (by omega) hk2
  have hel : i < (Es log ps S i).length := by rw [Bv]; exact hltN
  obtain ⟨f0, f1, f2⟩ := KE .u8 (Es log ps S i) i hel
  rw [adR hltN] at f0
  simp only at f0
  rw [hsS] at f0
  have g0 := ob3.cell (off := i * 3)
  rw [f0] at g0
  have hnx : ((YS ps S i).map (Value.int .i64))[s]? = some (.int .i64 k) := by
    rw [List.getElem?_map, List.getElem?_eq_getElem (by rw [OH]; exact hsl), XJ hsl, hk']
    simp; omega
  have gn := on3.cell (off := s)
  rw [hnx] at gn
  have hkb : k < 131072 := by
    have : 2 ^ (log + 1) ≤ 2 ^ 16 := Nat.pow_le_pow_right (by omega) (by omega)
    omega
  have hpn := kM (hm.low _ (List.getElem_mem hsl))
  have hSi : S[i]'(by omega) = (s : Int) := by rw [← hsS, List.getD_eq_getElem?_getD, List.getElem?_eq_getElem (by omega)]; rfl
  have hns := afJ (ps := ps) (S := S) (i := i) (s := s) (by omega) hsl hSi
  have hkv : eM ps[s] + ((S.take i).count (s : Int) : Nat) + 1 = (k : Int) + 1 := by rw [hk']; omega
  rw [hkv] at hns
  have hent : Jg log ps S i = zB log (s : Int) k := by unfold Jg; rw [hsS, ← hkk]
  have hes := adM (log := log) (ps := ps) (S := S) (i := i) hltN
  rw [hent] at hes
  have hE0 : (Es log ps S i)[i]'hel = ((s : Int), 0, 0) := by rw [adR hltN, hsS]
  clear hkk hcnt
  unfold Aa I1 I8 H2
  simp (disch := omega) only [aD, hP, Nat.zero_add, aB, kB, c41, aP, mK, Int.toNat_natCast, CL, kZ, fX, g0, dN, cP, gn, bY, bD]
  refine pH on3 rfl (by simp [OH]; omega) fun w4 on4 x4 s4 => ?_
  rw [← List.map_set, hns] at on4
  unfold DN H6
  have o14 := iO (o13.ext x4 (by omega))
  have o44 := o43.ext x4 (by omega)
  have ob4 := ob3.ext x4 (by omega)
  have c10 := o14.cell (off := 0)
  simp only [List.getElem?_cons_zero] at c10
  simp (disch := omega) only [aD, eP, fZ, lF, gZ, Result.ok.injEq, Next.value.injEq, and_true, CL, aB, rO, true_and, cP, c10, aP]
  refine (Yt k (by omega) _).mono ?_
  rintro r w5 ⟨rfl, rfl⟩
  obtain ⟨nbits, hnbits⟩ : ∃ x, x = log + 1 - bl k := ⟨_, rfl⟩
  have e2 : (log : Int) - (bl k : Int) + 1 = (nbits : Int) := by omega
  have e3 : IntKind.i64.wrap ((log : Int) - (bl k : Int)) = (log : Int) - (bl k : Int) := bD (by omega) (by omega)
  simp (disch := omega) only [c10, aP, dY, e3, aB, bY, e2, bD, true_and]
  have ob4 := iO ob4
  refine pH ob4 rfl (by rw [jB, Bv]; omega) fun w5 ob5 x5 s5 => ?_
  rw [(Sp .u8 (Es log ps S i) i hel _).2.1, hE0] at ob5
  unfold D5
  have o45 := iO ((iO o44).ext x5 (by omega))
  have ob5 := iO ob5
  have on5 := iO ((iO on4).ext x5 (by omega))
  have c41 := o45.cell (off := 1)
  simp only [List.getElem?_cons_zero, List.getElem?_cons_succ] at c41
  have hel5 : i < ((Es log ps S i).set i ((s : Int), (nbits : Int), 0)).length := by simpa using hel
  obtain ⟨-, f1, -⟩ := KE .u8 _ i hel5
  simp only [List.getElem_set_self] at f1
  have g1 := ob5.cell (off := i * 3 + 1)
  rw [f1] at g1
  have hnb2 : k * 2 ^ nbits ≤ 2 ^ 16 := by
    rw [hnbits]
    have : 2 ^ (log + 1) ≤ 2 ^ 16 := Nat.pow_le_pow_right (by omega) (by omega)
    have := Nat.mul_le_mul_right (2 ^ (log + 1 - bl k)) (show k ≤ k + 1 by omega)
    omega
  have e4 := afG (k := k) (b := nbits) (by omega) (by omega)
  have e5 : (((k * 2 ^ nbits : Nat) : Int) - (N : Int)) = (zB log (s : Int) k).2.2 := by
    unfold zB
    simp only
    rw [← hnbits, ← hN]
    simp
  have e6 : IntKind.i64.wrap (((k * 2 ^ nbits : Nat) : Int) - (N : Int)) = ((k * 2 ^ nbits : Nat) : Int) - (N : Int) := bD (by omega) (by omega)
  rw [e5] at e6
  have e7 : (zB log (s : Int) k) = ((s : Int), (nbits : Int), (zB log (s : Int) k).2.2) := by unfold zB; rw [hnbits]
  generalize hq : k * 2 ^ nbits = q at *
  generalize hbase : (zB log (s : Int) k).2.2 = base at *
  simp (disch := omega) only [aD, CL, hP, Nat.zero_add, aB, F7, true_and, kB, c41, aP, vK, rO, cP, g1, lH, Int.toNat_natCast, e4, dY, e5, e6]
  refine pH ob5 rfl (by rw [jB]; simp [Bv]; omega) fun w6 ob6 x6 s6 => ?_
  rw [(Sp .u8 _ i hel5 _).2.2] at ob6
  simp only [List.getElem_set_self, List.set_set] at ob6
  rw [← e7, hes] at ob6
  have xx : bZ w3 w6 (fun y => y = nb ∨ y = b) :=
    ((((x4.mono fun _ _ h => .inl h : bZ w3 w4 (fun y => y = nb ∨ y = b)).seq (bZ.dr _ _)).seq (x5.mono fun _ _ h => .inr h)).seq (bZ.dr _ _)).seq (x6.mono fun _ _ h => .inr h)
  unfold D7
  simp (disch := omega) only [aD, bY, bD, aB]
  exact hk _ (on5.ext x6 (by omega)) ob6 xx
theorem abB (hm : VE log ps) (L : Lay log ps S) (hN : 2 ^ log = N) {w3 : World}
    (on3 : fA w3 nb ((YS ps S 0).map (Value.int .i64))) (ob3 : fA w3 b (fe .u8 (m3 S)))
    (o13 : fA w3 p1 [.int .i64 log, sv]) (o23 : fA w3 p2 [.int .i64 0, .slice none 0 0]) (o43 : fA w3 p4 [.int .i64 log, .slice (some ⟨b, 0, none⟩) N N])
    (hne : p1 ≠ b ∧ p4 ≠ b ∧ nb ≠ b ∧ p1 ≠ nb ∧ p4 ≠ nb ∧ p2 ≠ b ∧ p2 ≠ nb) (hlo : w0.heap.size ≤ p2 ∧ w0.heap.size ≤ b ∧ w0.heap.size ≤ nb) (hx : bZ w0 w3 fN) {R : Value → World → Prop}
    (hR : ∀ w', fA w' b (fe .u8 (Es log ps S N)) → bZ w0 w' fN → R (.tuple #[.agg #[.int .i64 log, .slice (some ⟨b, 0, none⟩) N N], .int .i64 0]) w') :
    uZ R (.pointer (some ⟨p1, 0, none⟩)) (.pointer (some ⟨p2, 0, none⟩)) (.pointer (some ⟨p4, 0, none⟩)) (.slice (some ⟨nb, 0, none⟩) ps.length ps.length) w3 := by
  have hN2 : 2 ^ log ≤ 2 ^ 15 := Nat.pow_le_pow_right (by omega) hm.log15
  have c41 := o43.cell (off := 1)
  simp only [List.getElem?_cons_zero, List.getElem?_cons_succ] at c41
  unfold uZ Hf G2 B6 GO
  simp (disch := omega) only [aD, hP, Nat.zero_add, aB, kB, c41, aP, vK]
  have ob0 : fA w3 b (fe .u8 (Es log ps S 0)) := by rw [Z7 L.len]; exact ob3
  refine cV.rule (fun m t w' => ∃ i : Nat, m = N - i ∧ t = .int .i64 i ∧ i ≤ N ∧ fA w' nb ((YS ps S i).map (Value.int .i64)) ∧ fA w' b (fe .u8 (Es log ps S i)) ∧ bZ w3 w' (fun y => y = nb ∨ y = b)) N
    ⟨0, rfl, rfl, by omega, on3, ob0, bZ.refl _ _⟩ ?_
  rintro m t w4 ⟨i, rfl, rfl, hi, on4, ob4, x4⟩
  unfold Ca G1
  have o44 := o43.ext x4 (by omega)
  have o24 := o23.ext x4 (by omega)
  by_cases hlt : i < N
  · have d1 : decide ((i : Int) < (N : Int)) = true := by simp only [decide_eq_true_eq]; omega
    simp (disch := omega) only [aD, bN, d1, aB, aK]
    refine ZC hm L hN hlt on4 ob4 (o13.ext x4 (by omega)) o44 ⟨hne.1, hne.2.1, hne.2.2.1, hne.2.2.2.1, hne.2.2.2.2.1⟩ fun w5 on5 ob5 x5 => ?_
    exact ⟨N - (i + 1), by omega, i + 1, rfl, rfl, by omega, on5, ob5, x4.trans x5 (fun _ _ h => h)⟩
  · have d1 : decide ((i : Int) < (N : Int)) = false := by simp only [decide_eq_false_iff_not]; omega
    have : i = N := by omega
    subst this
    have l4 := Hs (off := 0) o44 (by simp)
    simp only [List.drop_zero, List.take_succ_cons, List.take_zero] at l4
    simp (disch := omega) only [aD, bN, d1, aB, aJ]
    unfold D0
    simp (disch := omega) only [aD, l4, aB]
    refine Cf o24 rfl (by simp [one]) (by simp) fun w5 o25 x5 s5 => ?_
    refine Wy o25 (by simp [cY]) ?_
    simp only [cY, List.set_cons_zero, List.set_cons_succ, List.drop_zero, List.take_succ_cons, List.take_zero]
    exact hR _ (ob4.ext x5 (by omega)) ((hx.trans x4 (fun y hy hh => by omega)).new x5 hlo.1)
theorem Zl (hm : VE log ps) (L : Lay log ps S) (hN : 2 ^ log = N) {w : World} (hs : Sl w0 sv (ps.map (Value.int .i64)))
    (o1 : fA w p1 [.int .i64 log, sv]) (o2 : fA w p2 [.int .i64 0, .slice none 0 0]) (o4 : fA w p4 [.int .i64 log, .slice (some ⟨b, 0, none⟩) N N]) (ob : fA w b (fe .u8 (m3 S)))
    (hlo : w0.heap.size ≤ p2 ∧ w0.heap.size ≤ b) (hne : p1 ≠ b ∧ p2 ≠ b ∧ p4 ≠ b) (hx : bZ w0 w fN) {R : Value → World → Prop}
    (hR : ∀ w', fA w' b (fe .u8 (Es log ps S N)) → bZ w0 w' fN → R (.tuple #[.agg #[.int .i64 log, .slice (some ⟨b, 0, none⟩) N N], .int .i64 0]) w') :
    qG R (.pointer (some ⟨p1, 0, none⟩)) (.pointer (some ⟨p2, 0, none⟩)) (.pointer (some ⟨p4, 0, none⟩)) w := by
  have hlen := hm.len256
  have hN2 : 2 ^ log ≤ 2 ^ 15 := Nat.pow_le_pow_right (by omega) hm.log15
  obtain ⟨a, c, rfl, hc⟩ := hs.lenI
  have c1 := o1.cell (off := 1)
  simp only [List.getElem?_cons_zero, List.getElem?_cons_succ] at c1
  unfold qG Gu
  simp (disch := omega) only [aD, dL, Nat.zero_add, aB, eH, c1, aP, dT]
  refine WG (by omega) (by omega) fun w1 on x1 s1 => ?_
  rw [Int.toNat_natCast] at on ⊢
  have l1 := o1.lt
  have l2 := o2.lt
  have l4 := o4.lt
  have lb := ob.lt
  have o1 := o1.ext x1 (fun h => h)
  have o2 := o2.ext x1 (fun h => h)
  have o4 := o4.ext x1 (fun h => h)
  have ob := ob.ext x1 (fun h => h)
  have x01 := hx.seq x1
  have c1 := o1.cell (off := 1)
  simp only [List.getElem?_cons_zero, List.getElem?_cons_succ] at c1
  have hwn : w0.heap.size ≤ w.heap.size := hx.size
  generalize w.heap.size = nb at *
  unfold Cz GT GN Ci G0
  simp (disch := omega) only [aD, dL, Nat.zero_add, aB, eH, c1, aP, dT]
  refine cV.rule (fun m t w' => ∃ i : Nat, m = ps.length - i ∧ t = .int .i64 i ∧ i ≤ ps.length ∧ fA w' nb (((ps.take i).map eM ++ List.replicate (ps.length - i) 0).map (Value.int .i64)) ∧ bZ w0 w' fN ∧ bZ w1 w' (fun y => y = nb)) ps.length
    ⟨0, rfl, rfl, by omega, by simpa using on, x01, bZ.refl _ _⟩ ?_
  rintro m t w2 ⟨i, rfl, rfl, hi, on2, x2, y2⟩
  by_cases hlt : i < ps.length
  · have d1 : decide ((i : Int) < (ps.length : Int)) = true := by simp; omega
    obtain ⟨b', off', c', e, _, hcell⟩ := (hs.ext x2 (eI _)).openI (by omega)
    cases e
    have g1 := hcell i hlt
    have hp := hm.low _ (List.getElem_mem hlt)
    have hple := VA hm hlt
    have hpv : eM ps[i] = ps[i] ∨ ps[i] = -1 := by unfold eM; split <;> omega
    have hpn := kM hp
    have emax : (if (0 - ps[i]) > ps[i] then (0 - ps[i]) else ps[i]) = eM ps[i] := by unfold eM; split <;> split <;> omega
    unfold vH
    simp (disch := omega) only [aD, bN, d1, dN, Int.toNat_natCast, Nat.zero_add, bY, bD, aB, cP, g1, aP, O1, F0, emax, aK]
    refine pH on2 rfl (by simp; omega) fun w3 on3 x3 s3 => ?_
    refine ⟨ps.length - (i + 1), by omega, i + 1, rfl, rfl, by omega, ?_, x2.new x3 hwn, y2.trans x3 (fun _ _ h => h)⟩
    rw [← List.map_set] at on3
    have e : ((ps.take i).map eM ++ List.replicate (ps.length - i) 0).set i (eM ps[i]) = (ps.take (i + 1)).map eM ++ List.replicate (ps.length - (i + 1)) 0 := by
      rw [show ps.length - i = (ps.length - (i + 1)) + 1 from by omega, List.replicate_succ, List.set_append_right _ _ (by rw [List.length_map, List.length_take]; omega)]
      have : i - ((ps.take i).map eM).length = 0 := by rw [List.length_map, List.length_take]; omega
      rw [this, List.set_cons_zero, List.take_add_one, List.getElem?_eq_getElem hlt, List.map_append, List.append_assoc]
      rfl
    rw [e] at on3
    exact on3
  · have d1 : decide ((i : Int) < (ps.length : Int)) = false := by simp; omega
    have : i = ps.length := by omega
    subst this
    have on2 : fA w2 nb ((YS ps S 0).map (Value.int .i64)) := by rw [acO]; simpa using on2
    unfold vH
    simp (disch := omega) only [aD, bN, d1, bY, bD, aB, aJ]
    exact abB hm L hN on2 (ob.ext y2 (by omega)) (o1.ext y2 (by omega)) (o2.ext y2 (by omega)) (o4.ext y2 (by omega)) (by omega) (by omega) x2 hR
def Tbl (w : World) (base b log : Nat) (L : List T3) (v : Value) : Prop := v = .agg #[.int .i64 log, .slice (some ⟨b, 0, none⟩) L.length L.length] ∧ base ≤ b ∧ fA w b (fe .u8 L)
theorem ZO {log most : Nat} {ps : List Int} (h : VE log ps) (hl : log ≤ most) : abZ log ps most = 0 := by
  unfold abZ; rw [h.b]; simp; omega
theorem afL {w : World} (hm : VE log ps) (hs : Sl w sv (ps.map (Value.int .i64))) :
    cC pg CD #[.agg #[.int .i64 log, sv]] w (fun r w' => ∃ b v, r = .tuple #[v, .int .i64 0] ∧ Tbl w' w.heap.size b log (nE log ps) v ∧ bZ w w' fN) := by
  refine V2 ?_
  have hlen := hm.len256
  unfold WN GM GH
  refine kT fun w1 o1 x1 s1 => ?_
  refine D6 fun w2 o2 x2 s2 => ?_
  have o1 := o1.ext x2 (fun h => h)
  have l1 := jX (off := 0) o1 (by simp [Value.cells])
  simp only [Value.cells, List.drop_zero, List.take_succ_cons, List.take_zero] at l1
  simp (disch := omega) only [aD, l1, WD, aB, eP, gZ, Result.ok.injEq, Next.value.injEq, and_true, cP, true_and]
  refine (afZ (most := 15) ((hs.ext x1 (eI _)).ext x2 (eI _)) (by omega)).mono ?_
  rintro r w3 ⟨rfl, x3⟩
  have hce := ZO (most := 15) hm hm.log15
  rw [show (((15 : Nat) : Int)) = 15 from rfl] at hce
  rw [hce]
  have e0 : ((0 : Int) != 0) = false := rfl
  have x03 : bZ w w3 fN := (x1.seq x2).seq x3
  have o1 := iO (o1.ext x3 (fun h => h))
  have o2 := iO (o2.ext x3 (fun h => h))
  have c0 := o1.cell (off := 0)
  simp only [Value.cells, List.getElem?_cons_zero] at c0
  have l1 := jX (off := 0) o1 (by simp [Value.cells])
  simp only [Value.cells, List.drop_zero, List.take_succ_cons, List.take_zero] at l1
  have hz2 := o2.lt
  have fin : ∀ {b p4 : Nat} {w' : World}, fA w' w.heap.size [.int .i64 log, sv] → fA w' w1.heap.size [.int .i64 0, .slice none 0 0] → fA w' p4 [.int .i64 log, .slice (some ⟨b, 0, none⟩) (2 ^ log) (2 ^ log)] → fA w' b (fe .u8 (m3 (jS 0 log ps))) → w2.heap.size ≤ b → p4 ≠ b → bZ w w' fN →
      qG (fun r w' => ∃ b v, r = .tuple #[v, .int .i64 0] ∧ Tbl w' w.heap.size b log (nE log ps) v ∧ bZ w w' fN) (.pointer (some ⟨w.heap.size, 0, none⟩)) (.pointer (some ⟨w1.heap.size, 0, none⟩)) (.pointer (some ⟨p4, 0, none⟩)) w' := by
    intro b p4 w' h1 h2 h3 h4 h5 h6 h7
    refine Zl hm (FH hm 0) rfl hs h1 h2 h3 h4 (by omega) (by omega) h7 fun w'' ho hx => ?_
    rw [adB] at ho
    exact ⟨b, _, rfl, ⟨by rw [nF], by omega, ho⟩, hx⟩
  simp (disch := omega) only [fP, e0, aB, aJ]
  have hdr : (dr w3).heap.size = w3.heap.size := rfl
  have h23 := x3.size
  refine adF ?_ ?_
  · simp (disch := omega) only [c0, aP, l1, aB, true_and]
    refine (YI hm ((hs.ext x03 (eI _)).dr)).mono ?_
    rintro r w4 ⟨b, rfl, hb, ob, x4⟩
    have o1 := o1.ext x4 (fun h => h)
    have c0 := o1.cell (off := 0)
    simp only [Value.cells, List.getElem?_cons_zero] at c0
    simp (disch := omega) only [c0, aP, Hy, Result.ok.injEq, Next.value.injEq, and_true, aB, true_and]
    refine D6 fun w5 o5 x5 s5 => ?_
    have o1 := o1.ext x5 (fun h => h)
    have c0 := o1.cell (off := 0)
    simp only [Value.cells, List.getElem?_cons_zero] at c0
    simp (disch := omega) only [c0, aP, true_and]
    have hlb := ob.lt
    refine Cf o5 rfl (by simp [one]) (by simp) fun w6 o6 x6 s6 => ?_
    have h45 := x4.size
    refine fin (o1.ext x6 (by omega)) (((o2.ext x4 (fun h => h)).ext x5 (fun h => h)).ext x6 (by omega)) o6 ((ob.ext x5 (fun h => h)).ext x6 (by omega)) (by omega) (by omega) ?_
    exact (((x03.seq (bZ.dr _ _)).seq x4).seq x5).new x6 (by omega)
  · simp (disch := omega) only [c0, aP, l1, aB, true_and]
    refine D6 fun w4 o4 x4 s4 => ?_
    have o1 := o1.ext x4 (fun h => h)
    have c0 := o1.cell (off := 0)
    simp only [Value.cells, List.getElem?_cons_zero] at c0
    have l1 := jX (off := 0) o1 (by simp [Value.cells])
    simp only [Value.cells, List.drop_zero, List.take_succ_cons, List.take_zero] at l1
    simp (disch := omega) only [l1, c0, aP, and_true, true_and]
    refine (YI hm ((((hs.ext x03 (eI _)).dr).ext x4 (eI _)))).mono ?_
    rintro r w5 ⟨b, rfl, hb, ob, x5⟩
    have o1 := o1.ext x5 (fun h => h)
    have c0 := o1.cell (off := 0)
    simp only [Value.cells, List.getElem?_cons_zero] at c0
    simp (disch := omega) only [c0, aP, Hy, aB, true_and]
    refine Cf (o4.ext x5 (fun h => h)) rfl (by simp [one]) (by simp) fun w6 o6 x6 s6 => ?_
    refine fin (o1.ext x6 (by omega)) (((o2.ext x4 (fun h => h)).ext x5 (fun h => h)).ext x6 (by omega)) o6 (ob.ext x6 (by omega)) (by omega) (by omega) ?_
    exact (((x03.seq (bZ.dr _ _)).seq x4).seq x5).new x6 (by omega)
end
end Go.Proofs.Ytoepfjgekpdddaa
namespace Go.Pu
set_option linter.unusedVariables false
theorem WX {log : Nat} {ps : List Int} {i : Nat} (h : i < 2 ^ log) : (nE log ps)[i]? = some (Jg log ps (jS 0 log ps) i) := by
  unfold nE
  rw [List.getElem?_map, List.getElem?_range h]; rfl
end Go.Pu
namespace Go.Proofs.Ytoepfjgekpdddaa
open Go Go.En Go.Pu
set_option maxRecDepth 4000
set_option linter.unusedSimpArgs false
set_option linter.unusedVariables false
theorem Tbl.ext {w w' : World} {base b log : Nat} {L : List T3} {v : Value} {M : Nat → Prop} (h : Tbl w base b log L v) (hx : bZ w w' M) (hM : ¬ M b) : Tbl w' base b log L v := ⟨h.1, h.2.1, h.2.2.ext hx hM⟩
theorem Xo {k : IntKind} {L : List T3} {i : Nat} (h : i < L.length) : ((fe k L).drop (i * 3)).take 3 = [.int k L[i].1, .int .i64 L[i].2.1, .int .i64 L[i].2.2] := by
  obtain ⟨h0, h1, h2⟩ := KE k L i h
  apply List.ext_getElem?
  intro j
  match j with
  | 0 => rw [List.getElem?_take_of_lt (by omega), List.getElem?_drop]; exact h0
  | 1 => rw [List.getElem?_take_of_lt (by omega), List.getElem?_drop]; exact h1
  | 2 => rw [List.getElem?_take_of_lt (by omega), List.getElem?_drop]; exact h2
  | j + 3 => rw [List.getElem?_eq_none (by rw [List.length_take]; omega), List.getElem?_eq_none (by simp)]
theorem Zd (log : Nat) (ps : List Int) {i : Nat} (h : i < 2 ^ log) : ((nE log ps)[i]'(by rw [nF]; exact h)).1 = (jS 0 log ps).getD i 0 := by
  unfold nE Jg zB; simp
def cn (S : List Int) (i : Nat) : List Int := (List.range 256).map fun (s : Nat) => (((S.take i).count (s : Int) : Nat) : Int)
theorem RN (S : List Int) (i : Nat) : (cn S i).length = 256 := by simp [cn]
theorem afX (S : List Int) : cn S 0 = List.replicate 256 0 := by
  unfold cn
  apply List.ext_getElem
  · simp
  · intro i h1 h2
    simp only [List.getElem_map, List.getElem_range, List.take_zero, List.count_nil, List.getElem_replicate]; rfl
theorem Zj {S : List Int} {i s : Nat} (h : s < 256) : (cn S i)[s]'(by rw [RN]; exact h) = (((S.take i).count (s : Int) : Nat) : Int) := by simp [cn]
theorem aiA {S : List Int} {i s : Nat} (hi : i < S.length) (hs : s < 256) (e : S[i] = (s : Int)) : (cn S i).set s ((((S.take i).count (s : Int) : Nat) : Int) + 1) = cn S (i + 1) := by
  apply List.ext_getElem
  · simp [cn]
  · intro j h1 h2
    have hj : j < 256 := by simpa [cn] using h2
    rw [List.getElem_set, Zj hj, Zj hj, List.take_add_one, List.getElem?_eq_getElem hi, List.count_append]
    simp only [Option.toList, e, List.count_singleton]
    by_cases hij : s = j
    · subst hij; simp
    · have : ((s : Int) == (j : Int)) = false := by simp; omega
      rw [if_neg hij, this]; simp
theorem agO {k : IntKind} {L : List T3} {i : Nat} {e : T3} (h : L[i]? = some e) : (fe k L)[i * 3]? = some (.int k e.1) ∧ (fe k L)[i * 3 + 1]? = some (.int .i64 e.2.1) ∧ (fe k L)[i * 3 + 2]? = some (.int .i64 e.2.2) := by
  have hi : i < L.length := by
    rcases Nat.lt_or_ge i L.length with h' | h'
    · exact h'
    · rw [List.getElem?_eq_none h'] at h; cases h
  rw [List.getElem?_eq_getElem hi] at h
  have := KE k L i hi
  rw [Option.some.inj h] at this
  exact this
def Low (L : List T3) : Prop := ∀ e ∈ L, ∃ n : Nat, e.2.1 = (n : Int) ∧ n ≤ 20 ∧ 0 ≤ e.2.2 ∧ e.2.2 ≤ 100000
theorem YV {log : Nat} {ps : List Int} (hm : VE log ps) : Low (nE log ps) := by
  intro e he
  obtain ⟨i, hi', rfl⟩ := List.getElem_of_mem he
  have hi := hi'
  rw [nF] at hi
  have hat := WX (ps := ps) hi
  rw [List.getElem?_eq_getElem hi'] at hat
  rw [Option.some.inj hat]
  have L := FH hm 0
  obtain ⟨s, hs, hg, hp1, hp2, hk, hc⟩ := VS hm L hi
  have hk2 : Y7 ps (jS 0 log ps) i < 2 ^ (log + 1) := by rw [Nat.pow_succ]; omega
  obtain ⟨e1, e2, e3, e4⟩ := XO (log := log) (k := Y7 ps (jS 0 log ps) i) (by omega) hk2
  have h15 := hm.log15
  have hb : 2 ^ (log + 1) ≤ 2 ^ 16 := Nat.pow_le_pow_right (by omega) (by omega)
  have hpow : ((2 ^ log : Nat) : Int) = (2 : Int) ^ log := by simp
  unfold Jg zB
  rw [← hpow]
  rw [Nat.succ_mul] at e2
  have hA := Nat.le_trans (Nat.le_trans (Nat.le_add_right _ _) e2) hb
  generalize hX : Y7 ps (jS 0 log ps) i * 2 ^ (log + 1 - bl (Y7 ps (jS 0 log ps) i)) = X at *
  refine ⟨_, rfl, by omega, ?_, ?_⟩
  · show (0 : Int) ≤ (X : Int) - ((2 ^ log : Nat) : Int)
    omega
  · show (X : Int) - ((2 ^ log : Nat) : Int) ≤ 100000
    omega
end Go.Proofs.Ytoepfjgekpdddaa
namespace Go.Proofs.Ytoepfjgekpdddaa
open Go Go.En Go.Pu
set_option maxRecDepth 4000
set_option linter.unusedSimpArgs false
set_option linter.unusedVariables false
theorem aaS {log k : Nat} (h15 : log ≤ 15) (hk1 : 1 ≤ k) (hk2 : k < 2 ^ (log + 1)) {w0 w : World} {p1 : Nat} {sv t2 n5 t6 seen i15 : Value} (o1 : fA w p1 [.int .i64 log, sv])
    {k12 : Value → Value → Value → Value → Value → Value → Value → Value → World → Prop}
    (hR : k12 (.pointer (some ⟨p1, 0, none⟩)) t2 n5 t6 seen i15 (.int .i64 k) (.int .i64 ((log + 1 - bl k : Nat) : Int)) w) :
    AU k12 (.pointer (some ⟨p1, 0, none⟩)) t2 n5 t6 seen i15 (.int .i64 k) (.int .i64 log) w := by
  have hb1 := Hb (k := k) (by omega)
  have hb2 := lR hk2
  have hlt := MM k
  have hle := Q5 (k := k) (by omega)
  have c0 := o1.cell (off := 0)
  simp only [List.getElem?_cons_zero] at c0
  unfold AU
  refine cV.rule (fun m t w' => ∃ q : Nat, m = log - q ∧ t = .int .i64 ((log - q : Nat) : Int) ∧ q + 1 ≤ bl k ∧ w' = w) log ⟨0, rfl, rfl, by omega, rfl⟩ ?_
  rintro m t w' ⟨q, rfl, rfl, hq, rfl⟩
  have e1 : (log : Int) - ((log - q : Nat) : Int) + 1 = ((q + 1 : Nat) : Int) := by omega
  have hw : IntKind.i64.wrap ((log : Int) - ((log - q : Nat) : Int)) = (log : Int) - ((log - q : Nat) : Int) := bD (by omega) (by omega)
  unfold zW
  simp (disch := omega) only [aD, cW, dY, bD, aB, cP, c0, aP, hw, bY, e1]
  refine (Cq (q + 1) (by omega) _).mono ?_
  rintro r w1 ⟨rfl, rfl⟩
  have hpw : ((2 ^ (q + 1) : Nat) : Int) = (2 : Int) ^ (q + 1) := by simp
  rw [← hpw]
  by_cases hc : 2 ^ (q + 1) ≤ k
  · have d1 : decide (((2 ^ (q + 1) : Nat) : Int) ≤ (k : Int)) = true := by simp only [decide_eq_true_eq]; omega
    have hq2 : q + 2 ≤ bl k := by
      rcases Nat.lt_or_ge (q + 1) (bl k) with h | h
      · exact h
      · have : bl k = q + 1 := by omega
        rw [this] at hlt; omega
    simp (disch := omega) only [DE, d1, aB, and_true, aK]
    exact ⟨log - (q + 1), by omega, q + 1, rfl, by congr 1; omega, hq2⟩
  · have d1 : decide (((2 ^ (q + 1) : Nat) : Int) ≤ (k : Int)) = false := by simp only [decide_eq_false_iff_not]; omega
    have : bl k = q + 1 := by
      have := lR (k := k) (n := q + 1) (by omega)
      omega
    rw [this, show log + 1 - (q + 1) = log - q from by omega] at hR
    simp (disch := omega) only [DE, d1, aB, and_true, aJ]
    exact hR
theorem aaG {N high j : Nat} (hN : 0 < N) (hN2 : N ≤ 32768) (hh : 0 < high) (hhN : high ≤ N) {w : World} {c1 t2 t6 s k : Value}
    {k8 : Value → Value → Value → Value → Value → Value → Value → Value → World → Prop}
    (hR : k8 c1 t2 (.int .i64 N) t6 (.int .i64 ((high : Int) - 1)) (.int .i64 (PI N high N (pos N j) : Nat)) s k w) :
    vJ k8 c1 t2 (.int .i64 N) t6 (.int .i64 ((high : Int) - 1)) (.int .i64 (pos N j : Nat)) s k (.int .i64 0) w := by
  obtain ⟨d, h1, h2, h3⟩ := LR hN hh j
  have hd : d < N := by
    obtain ⟨D, hD, h0⟩ := ZV N j hN
    rcases Nat.lt_or_ge d N with h | h
    · exact h
    · have := h1 D (by omega)
      omega
  rw [h3] at hR
  unfold vJ
  refine cV.rule (fun m t w' => ∃ q : Nat, m = d - q ∧ t = (.int .i64 (pos N (j + q) : Nat), .int .i64 q) ∧ q ≤ d ∧ w' = w) d ⟨0, rfl, rfl, by omega, rfl⟩ ?_
  rintro m t w' ⟨q, rfl, rfl, hq, rfl⟩
  have hp := Vt hN (j + q)
  have d1 : decide ((q : Int) < (N : Int)) = true := by simp only [decide_eq_true_eq]; omega
  have e1 : (N : Int).tdiv 2 = ((N / 2 : Nat) : Int) := by rw [Int.tdiv_eq_ediv_of_nonneg (by omega)]; omega
  have e3 : (N : Int).tdiv 8 = ((N / 8 : Nat) : Int) := by rw [Int.tdiv_eq_ediv_of_nonneg (by omega)]; omega
  have e4 : (((pos N (j + q) : Nat) : Int) + ((N / 2 : Nat) : Int) + ((N / 8 : Nat) : Int) + 3).tmod (N : Int) = ((pos N (j + q + 1) : Nat) : Int) := by
    rw [Int.tmod_eq_emod_of_nonneg (by omega), ← DJ]
    unfold adv
    simp
  unfold wB
  by_cases hqd : q < d
  · have := h1 q hqd
    have d2 : decide ((high : Int) - 1 < ((pos N (j + q) : Nat) : Int)) = true := by simp only [decide_eq_true_eq]; omega
    simp (disch := omega) only [aD, bN, d1, kX, e1, bD, e3, bY, aB, rE, e4, rU, cJ, if_true, cL, dM, d2, and_true, aK]
    exact ⟨d - (q + 1), by omega, q + 1, rfl, rfl, by omega⟩
  · have : q = d := by omega
    subst this
    have d2 : decide ((high : Int) - 1 < ((pos N (j + q) : Nat) : Int)) = false := by simp only [decide_eq_false_iff_not]; omega
    simp (disch := omega) only [aD, bN, d1, kX, bD, bY, aB, rE, rU, cJ, if_true, cL, dM, d2, and_true, aJ]
    exact hR
end Go.Proofs.Ytoepfjgekpdddaa
namespace Go.Proofs.Ytoepfjgekpdddaa
open Go Go.En Go.Pu
set_option maxRecDepth 4000
set_option linter.unusedSimpArgs false
set_option linter.unusedVariables false
theorem Xb {k : IntKind} {L : List Int} {rest : List Value} {i : Nat} (h : i < L.length) (x : Int) : (fe k (m3 L) ++ rest).set (i * 3) (.int k x) = fe k (m3 (L.set i x)) ++ rest := by
  rw [List.set_append_left _ _ (by rw [jB]; simp [m3]; omega), VU h]
theorem abF {log N high cc p1 p6 b : Nat} {ps : List Int} {sv t2 : Value} {arr arr' : List Int} {rest : List Value} {w0 w : World} (hm : VE log ps) (hs : Sl w0 sv (ps.map (Value.int .i64))) (hx : bZ w0 w fN)
    (hN2 : N ≤ 32768) (hcc : N ≤ cc) (harr : arr.length = N) (hng : (mS ps 0).length ≤ N) (ht : M2 ps 0 N arr = (high, arr')) (hlo : w0.heap.size ≤ b) (hne : p1 ≠ b ∧ p6 ≠ b)
    (o1 : fA w p1 [.int .i64 log, sv]) (o6 : fA w p6 [.int .i64 log, .slice (some ⟨b, 0, none⟩) N cc]) (ob : fA w b (fe .i64 (m3 arr) ++ rest))
    {k2 : Value → Value → Value → Value → Value → World → Prop}
    (hR : ∀ w', fA w' b (fe .i64 (m3 arr') ++ rest) → bZ w w' (fun y => y = b) → k2 (.pointer (some ⟨p1, 0, none⟩)) t2 (.int .i64 N) (.pointer (some ⟨p6, 0, none⟩)) (.int .i64 ((high : Int) - 1)) w') :
    wO k2 (.pointer (some ⟨p1, 0, none⟩)) t2 (.int .i64 N) (.pointer (some ⟨p6, 0, none⟩)) (.int .i64 ((N : Int) - 1)) (.int .i64 0) w := by
  have hlen := hm.len256
  obtain ⟨a, c, rfl, hc⟩ := hs.lenI
  unfold wO
  refine cV.rule (fun m t w' => ∃ (i hg : Nat) (ar : List Int), m = ps.length - i ∧ t = (.int .i64 ((hg : Int) - 1), .int .i64 i) ∧ i ≤ ps.length ∧ (mS (ps.drop i) i).length ≤ hg ∧ hg ≤ N ∧ ar.length = N ∧ M2 (ps.drop i) i hg ar = (high, arr') ∧ fA w' b (fe .i64 (m3 ar) ++ rest) ∧ bZ w w' (fun y => y = b)) ps.length
    ⟨0, N, arr, rfl, rfl, by omega, by rw [List.drop_zero]; exact hng, by omega, harr, by rw [List.drop_zero]; exact ht, ob, bZ.refl _ _⟩ ?_
  rintro m t w3 ⟨i, hg, ar, rfl, rfl, hi, hng, hgN, harr, htop, o3, x3⟩
  have c1 := (o1.ext x3 hne.1).cell (off := 1)
  have c6 := (o6.ext x3 hne.2).cell (off := 1)
  simp only [List.getElem?_cons_zero, List.getElem?_cons_succ] at c1 c6
  unfold vL Do
  by_cases hlt : i < ps.length
  · have d1 : decide ((i : Int) < (ps.length : Int)) = true := by simp; omega
    obtain ⟨b', off', c', e, _, hcell⟩ := (hs.ext (hx.new x3 hlo) (eI _)).openI (by omega)
    cases e
    have g1 := hcell i hlt
    have hd : ps.drop i = ps[i] :: ps.drop (i + 1) := List.drop_eq_getElem_cons hlt
    have hlow := hm.low _ (List.getElem_mem hlt)
    rw [hd, mS] at hng
    rw [hd, M2] at htop
    by_cases hp : ps[i] = -1
    · have d2 : decide (ps[i] < 0) = true := by simp; omega
      rw [if_pos hp] at hng htop
      simp only [List.length_cons] at hng
      have e1 : (hg : Int) - 1 = ((hg - 1 : Nat) : Int) := by omega
      have e2 : IntKind.i64.wrap (((hg - 1 : Nat) : Int) - 1) = ((hg - 1 : Nat) : Int) - 1 := bD (by omega) (by omega)
      rw [e1]
      simp (disch := omega) only [aD, bC, Nat.zero_add, dX, dY, bD, aB, dQ, eH, c1, aP, dT, bN, d1, dN, Int.toNat_natCast, cP, g1, d2, c6, fH, iG, aK]
      refine pH o3 rfl (by rw [List.length_append, jB]; simp [m3]; omega) fun w4 o4 x4 s4 => ?_
      rw [Xb (by omega)] at o4
      unfold qF
      simp (disch := omega) only [aD, bY, bD, aB]
      exact ⟨ps.length - (i + 1), by omega, i + 1, hg - 1, _, rfl, rfl, by omega, by omega, by omega, by simp [harr], htop, o4, x3.trans x4 (fun _ _ h => h)⟩
    · have d2 : decide (ps[i] < 0) = false := by simp; omega
      rw [if_neg hp] at hng htop
      unfold qF
      simp (disch := omega) only [aD, bC, Nat.zero_add, dX, dY, bD, bY, aB, dQ, eH, c1, aP, dT, bN, d1, dN, Int.toNat_natCast, cP, g1, d2, c6, aJ, aK]
      exact ⟨ps.length - (i + 1), by omega, i + 1, hg, ar, rfl, rfl, by omega, by omega, by omega, harr, htop, o3, x3⟩
  · have d1 : decide ((i : Int) < (ps.length : Int)) = false := by simp; omega
    rw [List.drop_of_length_le (by omega), M2] at htop
    obtain ⟨rfl, rfl⟩ : hg = high ∧ ar = arr' := by simpa using htop
    simp (disch := omega) only [aD, bC, Nat.zero_add, dX, dY, bD, aB, dQ, eH, c1, aP, dT, bN, d1, aJ]
    exact hR _ o3 x3
end Go.Proofs.Ytoepfjgekpdddaa
namespace Go.Proofs.Ytoepfjgekpdddaa
open Go Go.En Go.Pu
set_option maxRecDepth 4000
set_option linter.unusedSimpArgs false
set_option linter.unusedVariables false
theorem ZK {log N high cc p1 p6 b : Nat} {ps : List Int} {sv t2 : Value} {arr : List Int} {rest : List Value} {w0 w : World} (hm : VE log ps) (hs : Sl w0 sv (ps.map (Value.int .i64))) (hx : bZ w0 w fN)
    (hN1 : 32 ≤ N) (hN2 : N ≤ 32768) (hcc : N ≤ cc) (harr : arr.length = N) (hhigh : (kR ps 0).length = high) (hhN : high ≤ N) (hlo : w0.heap.size ≤ b) (hne : p1 ≠ b ∧ p6 ≠ b)
    (o1 : fA w p1 [.int .i64 log, sv]) (o6 : fA w p6 [.int .i64 log, .slice (some ⟨b, 0, none⟩) N cc]) (ob : fA w b (fe .i64 (m3 arr) ++ rest))
    {k4 : Value → Value → Value → Value → World → Prop}
    (hR : ∀ w', fA w' b (fe .i64 (m3 (yE N high (kR ps 0) 0 arr)) ++ rest) → bZ w w' (fun y => y = b) → k4 (.pointer (some ⟨p1, 0, none⟩)) t2 (.int .i64 N) (.pointer (some ⟨p6, 0, none⟩)) w') :
    wE k4 (.pointer (some ⟨p1, 0, none⟩)) t2 (.int .i64 N) (.pointer (some ⟨p6, 0, none⟩)) (.int .i64 ((high : Int) - 1)) (.int .i64 0) (.int .i64 0) w := by
  have hlen := hm.len256
  obtain ⟨a, c, rfl, hc⟩ := hs.lenI
  unfold wE
  refine cV.rule (fun m t w' => ∃ (s j : Nat) (ar : List Int), m = ps.length - s ∧ t = (.int .i64 (pos N j : Nat), .int .i64 s) ∧ s ≤ ps.length ∧ ar.length = N ∧ yE N high (kR (ps.drop s) s) (pos N j) ar = yE N high (kR ps 0) 0 arr ∧ (kR (ps.drop s) s).length ≤ high ∧ fA w' b (fe .i64 (m3 ar) ++ rest) ∧ bZ w w' (fun y => y = b)) ps.length
    ⟨0, 0, arr, rfl, by rw [Lj]; rfl, by omega, harr, by rw [Lj, List.drop_zero], by rw [List.drop_zero, hhigh]; exact Nat.le_refl _, ob, bZ.refl _ _⟩ ?_
  rintro m t w4 ⟨s, j, ar, rfl, rfl, hs4, har, hpl, hrl, o4, x4⟩
  have c1 := (o1.ext x4 hne.1).cell (off := 1)
  simp only [List.getElem?_cons_zero, List.getElem?_cons_succ] at c1
  unfold wQ CX
  by_cases hlt : s < ps.length
  · have d1 : decide ((s : Int) < (ps.length : Int)) = true := by simp; omega
    obtain ⟨q, hq⟩ : ∃ q, q = ps[s].toNat := ⟨_, rfl⟩
    rw [WJ hlt, ← hq] at hpl hrl
    have hqN : q ≤ N := by simp at hrl; omega
    simp (disch := omega) only [aD, bC, Nat.zero_add, aB, eH, c1, aP, dT, bN, d1, aK]
    unfold wK Da Db Dn wM CQ
    refine cV.rule (fun m t w' => ∃ (k j : Nat) (ar : List Int), m = q - k ∧ t = (.int .i64 (pos N j : Nat), .int .i64 k) ∧ k ≤ q ∧ ar.length = N ∧ yE N high (List.replicate (q - k) s ++ kR (ps.drop (s + 1)) (s + 1)) (pos N j) ar = yE N high (kR ps 0) 0 arr ∧ fA w' b (fe .i64 (m3 ar) ++ rest) ∧ bZ w w' (fun y => y = b)) q
      ⟨0, j, ar, rfl, rfl, by omega, har, hpl, o4, x4⟩ ?_
    rintro m t w5 ⟨k, j5, ar5, rfl, rfl, hk, har5, hpl5, o5, x5⟩
    have c15 := (o1.ext x5 hne.1).cell (off := 1)
    have c65 := (o6.ext x5 hne.2).cell (off := 1)
    simp only [List.getElem?_cons_zero, List.getElem?_cons_succ] at c15 c65
    obtain ⟨b', off', c', e, _, hcell⟩ := (hs.ext (hx.new x5 hlo) (eI _)).openI (by omega)
    cases e
    have g1 := hcell s hlt
    unfold wI Dh
    by_cases hkq : k < q
    · have d2 : decide ((k : Int) < ps[s]) = true := by simp; omega
      have hp := Vt (n := N) (by omega) j5
      have hhg : 0 < high := by simp at hrl; omega
      simp (disch := omega) only [aD, bC, Nat.zero_add, aB, eH, c15, aP, dN, Int.toNat_natCast, cP, g1, bN, d2, aK]
      unfold vZ CW DC Df
      simp (disch := omega) only [aD, dX, Nat.zero_add, kX, aB, bY, rE, dQ, c65, aP, fH, Int.toNat_natCast, iG]
      refine pH o5 rfl (by rw [List.length_append, jB]; simp [m3]; omega) fun w6 o6' x6 s6 => ?_
      rw [Xb (by omega)] at o6'
      have e1 : (N : Int).tdiv 2 = ((N / 2 : Nat) : Int) := by rw [Int.tdiv_eq_ediv_of_nonneg (by omega)]; omega
      have e3 : (N : Int).tdiv 8 = ((N / 8 : Nat) : Int) := by rw [Int.tdiv_eq_ediv_of_nonneg (by omega)]; omega
      have e4 : (((pos N j5 : Nat) : Int) + ((N / 2 : Nat) : Int) + ((N / 8 : Nat) : Int) + 3).tmod (N : Int) = ((pos N (j5 + 1) : Nat) : Int) := by
        rw [Int.tmod_eq_emod_of_nonneg (by omega), ← DJ]
        unfold adv
        simp
      simp (disch := omega) only [e1, bD, e3, e4]
      unfold vP
      rw [show q - k = (q - (k + 1)) + 1 from by omega, List.replicate_succ, List.cons_append, Vn, DJ] at hpl5
      obtain ⟨d, _, hd2, hd3⟩ := LR (n := N) (high := high) (by omega) hhg (j5 + 1)
      refine aaG (by omega) hN2 hhg hhN ?_
      rw [hd3] at hpl5 ⊢
      unfold wA
      simp (disch := omega) only [aD, bY, bD, aB]
      exact ⟨q - (k + 1), by omega, k + 1, j5 + 1 + d, _, rfl, rfl, by omega, by simp [har5], hpl5, o6', x5.trans x6 (fun _ _ h => h)⟩
    · have d2 : decide ((k : Int) < ps[s]) = false := by simp; omega
      rw [show q - k = 0 from by omega, List.replicate_zero, List.nil_append] at hpl5
      unfold xA
      simp (disch := omega) only [aD, bC, Nat.zero_add, bY, bD, aB, eH, c15, aP, dN, Int.toNat_natCast, cP, g1, bN, d2, aJ]
      exact ⟨ps.length - (s + 1), by omega, s + 1, j5, ar5, rfl, rfl, by omega, har5, hpl5, by simp at hrl; omega, o5, x5⟩
  · have d1 : decide ((s : Int) < (ps.length : Int)) = false := by simp; omega
    rw [List.drop_of_length_le (by omega), kR, yE] at hpl
    simp (disch := omega) only [aD, bC, Nat.zero_add, aB, eH, c1, aP, dT, bN, d1, aJ]
    exact hR _ (by rw [← hpl]; exact o4) x4
end Go.Proofs.Ytoepfjgekpdddaa
namespace Go.Proofs.Ytoepfjgekpdddaa
open Go Go.En Go.Pu
set_option maxRecDepth 4000
set_option linter.unusedSimpArgs false
set_option linter.unusedVariables false
theorem aaP {log N p6 : Nat} {c1 t2 : Value} {w : World} (hN1 : 32 ≤ N) (hN2 : N ≤ 32768) (o6 : fA w p6 [.int .i64 log, .slice none 0 0])
    {k0 : Value → Value → Value → Value → World → Prop}
    (hR : ∀ w' b cc rest, fA w' p6 [.int .i64 log, .slice (some ⟨b, 0, none⟩) N cc] → fA w' b (fe .i64 (m3 (List.replicate N (-1))) ++ rest) → N ≤ cc → w.heap.size ≤ b → bZ w w' (fun y => y = p6 ∨ w.heap.size ≤ y) → k0 c1 t2 (.int .i64 N) (.pointer (some ⟨p6, 0, none⟩)) w') :
    wR k0 c1 t2 (.int .i64 N) (.pointer (some ⟨p6, 0, none⟩)) (.int .i64 0) w := by
  have l6 := o6.lt
  unfold wR
  refine cV.rule (fun m t w' => ∃ (i : Nat) (v : Value), m = N - i ∧ t = .int .i64 i ∧ i ≤ N ∧ fA w' p6 [.int .i64 log, v] ∧ nG w' w.heap.size 3 v i (fe .i64 (m3 (List.replicate i (-1)))) ∧ bZ w w' (fun y => y = p6 ∨ w.heap.size ≤ y)) N
    ⟨0, _, rfl, rfl, by omega, o6, nG.nil _ _ _, bZ.refl _ _⟩ ?_
  rintro m t w1 ⟨i, v, rfl, rfl, hi, o1, os, x1⟩
  have c1' := o1.cell (off := 1)
  simp only [List.getElem?_cons_zero, List.getElem?_cons_succ] at c1'
  unfold vQ
  by_cases hlt : i < N
  · have d1 : decide ((i : Int) < (N : Int)) = true := by simp only [decide_eq_true_eq]; omega
    simp (disch := omega) only [aD, bN, d1, dX, Nat.zero_add, A1, bY, bD, aB, dQ, c1', aP, aK]
    refine HQ (cells := #[.int .i64 (-1), .int .i64 0, .int .i64 0]) (by decide) (by decide) (by kernel_rfl) fun w2 o2 x2 s2 => ?_
    refine oJ (os.ext x2 (fun _ _ h => h)) (o2.cl (off := 0) (l := [.int .i64 (-1), .int .i64 0, .int .i64 0]) rfl (fun i hi => by rw [Nat.zero_add])) (by simp [one]) (Nat.le_trans x1.size x2.size) (by omega) fun v3 w3 o3 x3 => ?_
    have o13 := (o1.ext x2 (fun h => h)).ext x3 (by omega)
    refine Hw o13 ?_ (by simp) fun w4 o4 x4 s4 => ?_
    · obtain ⟨a, c, e⟩ := o3.len
      rw [e]; rfl
    simp only [List.set_cons_zero, List.set_cons_succ] at o4
    refine ⟨N - (i + 1), by omega, i + 1, v3, rfl, rfl, by omega, o4, ?_, ?_⟩
    · have e : fe .i64 (m3 (List.replicate (i + 1) (-1))) = fe .i64 (m3 (List.replicate i (-1))) ++ [.int .i64 (-1), .int .i64 0, .int .i64 0] := by
        rw [List.replicate_succ']; unfold m3; rw [List.map_append, WP]; rfl
      rw [e]
      exact o3.ext x4 (fun b hb h => by omega)
    · exact ((x1.seq (x2.mono fun _ _ h => h.elim)).seq (x3.mono fun _ _ h => .inr h)).seq (x4.mono fun _ _ h => .inl h)
  · have d1 : decide ((i : Int) < (N : Int)) = false := by simp only [decide_eq_false_iff_not]; omega
    have : i = N := by omega
    subst this
    simp (disch := omega) only [aD, bN, d1, dX, Nat.zero_add, A1, bY, bD, aB, dQ, aJ]
    rcases os.2 with ⟨_, h⟩ | ⟨b, c, rest, rfl, h2, h3, h4, h5⟩
    · omega
    · exact hR _ b c rest o1 h3 h5 h2 x1
end Go.Proofs.Ytoepfjgekpdddaa
namespace Go.Proofs.Ytoepfjgekpdddaa
open Go Go.En Go.Pu
set_option maxRecDepth 4000
set_option linter.unusedSimpArgs false
set_option linter.unusedVariables false
theorem aeF {k : IntKind} {L : List T3} {rest : List Value} {i : Nat} (h : i < L.length) (x : Int) : (fe k L ++ rest).set (i * 3 + 1) (.int .i64 x) = fe k (L.set i (L[i].1, x, L[i].2.2)) ++ rest := by
  rw [List.set_append_left _ _ (by rw [jB]; omega), (Sp k L i h x).2.1]
theorem acW {k : IntKind} {L : List T3} {rest : List Value} {i : Nat} (h : i < L.length) (x : Int) : (fe k L ++ rest).set (i * 3 + 2) (.int .i64 x) = fe k (L.set i (L[i].1, L[i].2.1, x)) ++ rest := by
  rw [List.set_append_left _ _ (by rw [jB]; omega), (Sp k L i h x).2.2]
theorem abY {log N cc p1 p6 b ns : Nat} {ps S : List Int} {sv t2 : Value} {rest : List Value} {w0 w : World} (hm : VE log ps) (L : Lay log ps S) (hN : 2 ^ log = N) (hs : Sl w0 sv (ps.map (Value.int .i64))) (hx : bZ w0 w fN) (hcc : N ≤ cc)
    {i : Nat} (hlt : i < N) (hne : p1 ≠ b ∧ p6 ≠ b ∧ ns ≠ b ∧ p1 ≠ ns ∧ p6 ≠ ns)
    (o1 : fA w p1 [.int .i64 log, sv]) (o6 : fA w p6 [.int .i64 log, .slice (some ⟨b, 0, none⟩) N cc]) (ob : fA w b (fe .i64 (Es log ps S i) ++ rest)) (os : fA w ns ((cn S i).map (Value.int .i64)))
    {kn : Value → Value → Value → Value → Value → Value → World → Prop} {R : Value → World → Prop}
    (hR : ∀ w', fA w' b (fe .i64 (Es log ps S (i + 1)) ++ rest) → fA w' ns ((cn S (i + 1)).map (Value.int .i64)) → bZ w w' (fun y => y = ns ∨ y = b) →
      kn (.pointer (some ⟨p1, 0, none⟩)) t2 (.int .i64 N) (.pointer (some ⟨p6, 0, none⟩)) (.pointer (some ⟨ns, 0, none⟩)) (.int .i64 ((i + 1 : Nat) : Int)) w') :
    pZ kn R (.pointer (some ⟨p1, 0, none⟩)) t2 (.int .i64 N) (.pointer (some ⟨p6, 0, none⟩)) (.pointer (some ⟨ns, 0, none⟩)) (.int .i64 i) w := by
  have h15 := hm.log15
  have hlen := hm.len256
  have hN2 : 2 ^ log ≤ 2 ^ 15 := Nat.pow_le_pow_right (by omega) h15
  have hSl : S.length = 2 ^ log := L.len
  obtain ⟨a, c, rfl, hc⟩ := hs.lenI
  have c1 := o1.cell (off := 1)
  have c6 := o6.cell (off := 1)
  simp only [List.getElem?_cons_zero, List.getElem?_cons_succ] at c1 c6
  have hltN : i < 2 ^ log := by omega
  obtain ⟨s, hsl, hsS, hp1, hp2, hk', hcnt⟩ := VS hm L hltN
  obtain ⟨k, hkk⟩ : ∃ k, k = Y7 ps S i := ⟨_, rfl⟩
  rw [← hkk] at hk'
  have hk2 : k < 2 ^ (log + 1) := by rw [Nat.pow_succ]; omega
  have hel : i < (Es log ps S i).length := by rw [Bv]; exact hltN
  have hE0 : (Es log ps S i)[i]'hel = ((s : Int), 0, 0) := by rw [adR hltN, hsS]
  have g0 := ob.cell (off := i * 3)
  rw [List.getElem?_append_left (by rw [jB]; omega), (KE .i64 (Es log ps S i) i hel).1, hE0] at g0
  simp only at g0
  obtain ⟨b', off', c', e, _, hcell⟩ := (hs.ext hx (eI _)).openI (by omega)
  cases e
  have g1 := hcell s hsl
  have hlow := hm.low _ (List.getElem_mem hsl)
  have hSi : S[i]'(by omega) = (s : Int) := by rw [← hsS, List.getD_eq_getElem?_getD, List.getElem?_eq_getElem (by omega)]; rfl
  have gs := os.cell (off := s)
  rw [List.getElem?_map, List.getElem?_eq_getElem (by rw [RN]; omega), Zj (by omega)] at gs
  simp only [Option.map_some] at gs
  have hcs := aiA (S := S) (i := i) (s := s) (by omega) (by omega) hSi
  have d1 : decide ((s : Int) < 0) = false := by simp
  have d2 : decide ((ps.length : Int) ≤ (s : Int)) = false := by simp; omega
  unfold pZ CS Dd CV
  simp (disch := omega) only [aD, dX, Nat.zero_add, bC, aB, Bi, dQ, c6, aP, fH, Int.toNat_natCast, iG, cP, g0, bN, d1, eD, cJ, Bool.false_eq_true, if_false, cL, eH, c1, dT, kU, d2, aJ]
  have hpn := kM hlow
  have hcl : (S.take i).count (s : Int) ≤ i := by
    have := List.count_le_length (a := (s : Int)) (l := S.take i)
    rw [List.length_take] at this; omega
  have c10 := o1.cell (off := 0)
  simp only [List.getElem?_cons_zero] at c10
  have ek : (((S.take i).count (s : Int) : Nat) : Int) + eM ps[s] = (k : Int) := by rw [hk']; omega
  have h9 : rX (fun bT t2 eB t6 cH iA w => sR kn bT t2 eB t6 cH iA w) (.pointer (some ⟨p1, 0, none⟩)) t2 (.int .i64 N) (.pointer (some ⟨p6, 0, none⟩)) (.pointer (some ⟨ns, 0, none⟩)) (.int .i64 i) (.int .i64 (s : Int)) (.int .i64 (eM ps[s])) w := by
    unfold rX Ep
    simp (disch := omega) only [aD, XQ, Int.toNat_natCast, Nat.zero_add, cW, aB, cP, gs, aP, bY, ek, bD]
    refine pH os rfl (by rw [List.length_map, RN]; omega) fun w2 os2 x2 s2 => ?_
    rw [← List.map_set, hcs] at os2
    have o12 := o1.ext x2 (by omega)
    have o62 := o6.ext x2 (by omega)
    have ob2 := ob.ext x2 (by omega)
    have c12 := o12.cell (off := 0)
    have c62 := o62.cell (off := 1)
    simp only [List.getElem?_cons_zero, List.getElem?_cons_succ] at c12 c62
    simp (disch := omega) only [c12, aP, aB]
    unfold AF FG
    refine aaS (w0 := w0) h15 (by omega) hk2 o12 ?_
    unfold A7
    obtain ⟨nbits, hnbits⟩ : ∃ x, x = log + 1 - bl k := ⟨_, rfl⟩
    obtain ⟨eb1, eb2, eb3, eb4⟩ := XO (log := log) (k := k) (by omega) hk2
    rw [← hnbits] at eb1 eb2 ⊢
    have hent : Jg log ps S i = zB log (s : Int) k := by unfold Jg; rw [hsS, ← hkk]
    have hes := adM (log := log) (ps := ps) (S := S) (i := i) hltN
    rw [hent] at hes
    simp (disch := omega) only [aD, dX, Nat.zero_add, gZ, Result.ok.injEq, Next.value.injEq, and_true, true_and, aB, dQ, c62, aP, fH, Int.toNat_natCast, mH]
    refine pH ob2 rfl (by rw [List.length_append, jB, Bv]; omega) fun w3 ob3 x3 s3 => ?_
    rw [aeF hel, hE0] at ob3
    have o63 := iO (o62.ext x3 (by omega))
    have ob3 := iO ob3
    have c63 := o63.cell (off := 1)
    simp only [List.getElem?_cons_zero, List.getElem?_cons_succ] at c63
    simp (disch := omega) only [c63, aP, aB, fH, Int.toNat_natCast, Nat.zero_add, tW, true_and]
    refine (Cq nbits (by omega) _).mono ?_
    rintro r w4 ⟨rfl, rfl⟩
    have hA := Nat.le_trans (Nat.le_trans (Nat.mul_le_mul_right (2 ^ nbits) (show k ≤ k + 1 by omega)) eb2) (Nat.pow_le_pow_right (show 0 < 2 by omega) (show log + 1 ≤ 16 by omega))
    have hpw : ((2 ^ nbits : Nat) : Int) = (2 : Int) ^ nbits := by simp
    rw [← hpw]
    have em : (k : Int) * ((2 ^ nbits : Nat) : Int) = ((k * 2 ^ nbits : Nat) : Int) := by simp
    have e5 : (((k * 2 ^ nbits : Nat) : Int) - (N : Int)) = (zB log (s : Int) k).2.2 := by
      unfold zB
      simp only
      rw [← hnbits, ← hN]
      simp
    have e7 : (zB log (s : Int) k) = ((s : Int), (nbits : Int), (zB log (s : Int) k).2.2) := by unfold zB; rw [hnbits]
    generalize hq : k * 2 ^ nbits = q at *
    have e6 : IntKind.i64.wrap ((q : Int) - (N : Int)) = (q : Int) - (N : Int) := bD (by omega) (by omega)
    have ew : IntKind.i64.wrap (q : Int) = (q : Int) := bD (by omega) (by omega)
    generalize hbase : (zB log (s : Int) k).2.2 = base at *
    rw [e5] at e6
    simp (disch := omega) only [c63, aP, qB, em, ew, aB, dY, e5, e6, true_and]
    have hel5 : i < ((Es log ps S i).set i ((s : Int), (nbits : Int), 0)).length := by simpa using hel
    refine pH ob3 rfl (by rw [List.length_append, jB]; simp [Bv]; omega) fun w5 ob5 x5 s5 => ?_
    rw [acW hel5] at ob5
    simp only [List.getElem_set_self, List.set_set] at ob5
    rw [← e7, hes] at ob5
    unfold sR
    simp (disch := omega) only [aD, bY, bD, aB]
    refine hR _ ob5 ((iO (os2.ext x3 (by omega))).ext x5 (by omega)) ?_
    exact (((x2.mono fun _ _ h => .inl h : bZ w w2 (fun y => y = ns ∨ y = b)).seq (x3.mono fun _ _ h => .inr h)).seq (bZ.dr _ _)).seq (x5.mono fun _ _ h => .inr h)
  unfold vY DA
  by_cases hneg : ps[s] < 0
  · have d3 : decide (ps[s] < 0) = true := by simpa using hneg
    have ep : eM ps[s] = 1 := by unfold eM; rw [if_pos hneg]
    rw [ep] at h9
    simp (disch := omega) only [aD, bC, Nat.zero_add, aB, eH, c1, aP, dN, Int.toNat_natCast, cP, g1, bN, d3, aK]
    exact h9
  · have d3 : decide (ps[s] < 0) = false := by simpa using hneg
    have ep : eM ps[s] = ps[s] := by unfold eM; rw [if_neg hneg]
    rw [ep] at h9
    simp (disch := omega) only [aD, bC, Nat.zero_add, aB, eH, c1, aP, dN, Int.toNat_natCast, cP, g1, bN, d3, aJ]
    exact h9
end Go.Proofs.Ytoepfjgekpdddaa
namespace Go.Proofs.Ytoepfjgekpdddaa
open Go Go.En Go.Pu
set_option maxRecDepth 4000
set_option linter.unusedSimpArgs false
set_option linter.unusedVariables false
theorem abX {log N cc p1 p2 p6 b : Nat} {ps S : List Int} {sv : Value} {rest : List Value} {w0 w : World} (hm : VE log ps) (L : Lay log ps S) (hN : 2 ^ log = N) (hs : Sl w0 sv (ps.map (Value.int .i64))) (hx : bZ w0 w fN) (hcc : N ≤ cc)
    (hne : p1 ≠ b ∧ p6 ≠ b ∧ p2 ≠ b ∧ p2 ≠ p6 ∧ p1 ≠ p2) (hlo : w0.heap.size ≤ b ∧ w0.heap.size ≤ p2)
    (o1 : fA w p1 [.int .i64 log, sv]) (o2 : fA w p2 [.int .i64 0, .slice none 0 0]) (o6 : fA w p6 [.int .i64 log, .slice (some ⟨b, 0, none⟩) N cc]) (ob : fA w b (fe .i64 (m3 S) ++ rest)) {R : Value → World → Prop}
    (hR : ∀ w', fA w' b (fe .i64 (Es log ps S N) ++ rest) → bZ w0 w' fN → R (.tuple #[.agg #[.int .i64 log, .slice (some ⟨b, 0, none⟩) N cc], .int .i64 0]) w') :
    pU R (.pointer (some ⟨p1, 0, none⟩)) (.pointer (some ⟨p2, 0, none⟩)) (.int .i64 N) (.pointer (some ⟨p6, 0, none⟩)) w := by
  have hN2 : 2 ^ log ≤ 2 ^ 15 := Nat.pow_le_pow_right (by omega) hm.log15
  unfold pU Dt
  refine XK fun w1 os x1 s1 => ?_
  obtain ⟨cs, hcs, os⟩ : ∃ cs, cs = List.replicate 256 (Value.int .i64 0) ∧ fA w1 w.heap.size cs := ⟨_, by kernel_rfl, os⟩
  rw [hcs] at os
  have os : fA w1 w.heap.size ((cn S 0).map (Value.int .i64)) := by rw [afX, List.map_replicate]; exact os
  have l1 := o1.lt
  have l2 := o2.lt
  have l6 := o6.lt
  have lb := ob.lt
  have hxs := hx.size
  have o1 := o1.ext x1 (fun h => h)
  have o2 := o2.ext x1 (fun h => h)
  have o6 := o6.ext x1 (fun h => h)
  have ob := ob.ext x1 (fun h => h)
  have x01 := hx.seq x1
  generalize w.heap.size = ns at *
  have ob : fA w1 b (fe .i64 (Es log ps S 0) ++ rest) := by rw [Z7 L.len]; exact ob
  unfold wP Di C0 wD CO
  refine cV.rule (fun m t w' => ∃ i : Nat, m = N - i ∧ t = .int .i64 i ∧ i ≤ N ∧ fA w' b (fe .i64 (Es log ps S i) ++ rest) ∧ fA w' ns ((cn S i).map (Value.int .i64)) ∧ bZ w1 w' (fun y => y = ns ∨ y = b)) N ⟨0, rfl, rfl, by omega, ob, os, bZ.refl _ _⟩ ?_
  rintro m t w2 ⟨i, rfl, rfl, hi, ob2, os2, x2⟩
  have x02 : bZ w0 w2 fN := x01.trans x2 (fun y hy hh => by omega)
  have o62 := o6.ext x2 (by omega)
  unfold vT De
  by_cases hlt : i < N
  · have d1 : decide ((i : Int) < (N : Int)) = true := by simp only [decide_eq_true_eq]; omega
    simp (disch := omega) only [aD, bN, d1, aB, aK]
    refine abY hm L hN hs x02 hcc hlt (by omega) (o1.ext x2 (by omega)) o62 ob2 os2 fun w3 ob3 os3 x3 => ?_
    exact ⟨N - (i + 1), by omega, i + 1, rfl, rfl, by omega, ob3, os3, x2.trans x3 (fun _ _ h => h)⟩
  · have d1 : decide ((i : Int) < (N : Int)) = false := by simp only [decide_eq_false_iff_not]; omega
    have : i = N := by omega
    subst this
    have l4 := mC (off := 0) o62 (by simp)
    simp only [List.drop_zero, List.take_succ_cons, List.take_zero] at l4
    simp (disch := omega) only [aD, bN, d1, aB, aJ]
    unfold yV
    simp (disch := omega) only [aD, l4, aB]
    refine qT (o2.ext x2 (by omega)) rfl (by simp [one]) (by simp) fun w5 o25 x5 s5 => ?_
    refine JN o25 (by simp [cY]) ?_
    simp only [cY, List.set_cons_zero, List.set_cons_succ, List.drop_zero, List.take_succ_cons, List.take_zero]
    exact hR _ (ob2.ext x5 (by omega)) (x02.new x5 hlo.2)
end Go.Proofs.Ytoepfjgekpdddaa
namespace Go.Proofs.Ytoepfjgekpdddaa
open Go Go.En Go.Pu
set_option maxRecDepth 4000
set_option linter.unusedSimpArgs false
set_option linter.unusedVariables false
theorem Zb {log : Nat} {sv : Value} {ps : List Int} {w : World} (hm : VE log ps) (hs : Sl w sv (ps.map (Value.int .i64))) :
    cC pg B1 #[.agg #[.int .i64 log, sv]] w (fun r w' => ∃ b cc rest, r = .tuple #[.agg #[.int .i64 log, .slice (some ⟨b, 0, none⟩) (2 ^ log) cc], .int .i64 0] ∧ w.heap.size ≤ b ∧ fA w' b (fe .i64 (nE log ps) ++ rest) ∧ bZ w w' fN) := by
  refine S8 ?_
  have hlen := hm.len256
  have h15 := hm.log15
  have hN2 : 2 ^ log ≤ 2 ^ 15 := Nat.pow_le_pow_right (by omega) h15
  have hN1 : 2 ^ 5 ≤ 2 ^ log := Nat.pow_le_pow_right (by omega) hm.log5
  unfold Uc C2 Dp
  refine kT fun w1 o1 x1 s1 => ?_
  refine sN fun w2 o2 x2 s2 => ?_
  have o1 := o1.ext x2 (fun h => h)
  have l1 := jD (off := 0) o1 (by simp [Value.cells])
  simp only [Value.cells, List.drop_zero, List.take_succ_cons, List.take_zero] at l1
  simp (disch := omega) only [aD, l1, Bi, aB, cW, cP]
  refine (YW (most := 15) ((hs.ext x1 (eI _)).ext x2 (eI _)) (by omega)).mono ?_
  rintro r w3 ⟨rfl, x3⟩
  have hce := ZO (most := 15) hm hm.log15
  rw [show (((15 : Nat) : Int)) = 15 from rfl] at hce
  rw [hce]
  have e0 : ((0 : Int) != 0) = false := rfl
  have o1 := o1.ext x3 (fun h => h)
  have o2 := o2.ext x3 (fun h => h)
  have c0 := o1.cell (off := 0)
  simp only [Value.cells, List.getElem?_cons_zero] at c0
  simp (disch := omega) only [fP, e0, aB, c0, aP, aJ]
  refine (Cq log (by omega) _).mono ?_
  rintro r w4 ⟨rfl, rfl⟩
  have hpow : ((2 ^ log : Nat) : Int) = (2 : Int) ^ log := by simp
  rw [← hpow]
  simp (disch := omega) only [c0, aP, aB, HZ]
  refine sN fun w5 o5 x5 s5 => ?_
  refine qT o5 rfl (by simp [one]) (by simp) fun w6 o6 x6 s6 => ?_
  simp only [cY, List.set_cons_zero, List.set_cons_succ] at o6
  have l1 := o1.lt
  have l2 := o2.lt
  have l6 := o6.lt
  have z1 := x1.size
  have z2 := x2.size
  have z3 := x3.size
  have z5 := x5.size
  have z6 := x6.size
  have o1 := (o1.ext x5 (fun h => h)).ext x6 (by omega)
  have o2 := (o2.ext x5 (fun h => h)).ext x6 (by omega)
  have x06 : bZ w w6 fN := ((((x1.seq x2).seq x3).seq x5)).new x6 (by omega)
  have hne : w.heap.size ≠ w1.heap.size ∧ w.heap.size ≠ w4.heap.size ∧ w1.heap.size ≠ w4.heap.size := by omega
  have hp12 : w.heap.size ≤ w1.heap.size ∧ w1.heap.size ≤ w4.heap.size := by omega
  obtain ⟨p1, hp1⟩ : ∃ p1, p1 = w.heap.size := ⟨_, rfl⟩
  generalize w1.heap.size = p2 at *
  generalize w4.heap.size = p6 at *
  rw [← hp1] at o1 ⊢
  obtain ⟨arr, ht, harr, hneg, hsp⟩ := T7 hm (-1)
  have hlay := FH hm (-1)
  have hEs := adB log ps
  rw [abN hm 0 (-1)] at hEs
  rw [hsp] at hlay hEs
  generalize hN : 2 ^ log = N at *
  unfold wT C9 Du wV
  refine aaP (by omega) (by omega) o6 fun w7 b cc rest o67 ob hcc hb x7 => ?_
  have o17 := o1.ext x7 (by omega)
  have o27 := o2.ext x7 (by omega)
  have x07 : bZ w w7 fN := x06.trans x7 (fun y hy hh => by omega)
  unfold wJ CR
  simp (disch := omega) only [aD, dY, bD, aB]
  unfold wY C8 Ds wX
  refine abF hm hs x07 (by omega) hcc (by simp) (by omega) ht (by omega) (by omega) o17 o67 ob fun w8 ob8 x8 => ?_
  have x08 := x07.new x8 (by omega)
  have o18 := o17.ext x8 (by omega)
  have o28 := o27.ext x8 (by omega)
  have o68 := o67.ext x8 (by omega)
  unfold vS CZ vO Dc Dq wS
  refine ZK hm hs x08 (by omega) (by omega) hcc harr rfl (by omega) (by omega) (by omega) o18 o68 ob8 fun w9 ob9 x9 => ?_
  have x09 := x08.new x9 (by omega)
  refine abX hm hlay hN hs x09 hcc (by omega) (by omega) (o18.ext x9 (by omega)) (o28.ext x9 (by omega)) (o68.ext x9 (by omega)) ob9 fun w10 ob10 x10 => ?_
  rw [hEs] at ob10
  exact ⟨b, cc, rest, rfl, by omega, ob10, x10⟩
end Go.Proofs.Ytoepfjgekpdddaa
namespace Go.Proofs.Ytoepfjgekpdddaa
open Go Go.En Go.Pu
set_option maxRecDepth 4000
set_option linter.unusedSimpArgs false
set_option linter.unusedVariables false
theorem aaI {log : Nat} {ps : List Int} (hm : VE log ps) : ∀ e ∈ nE log ps, 0 ≤ e.1 ∧ e.1 < 256 := by
  intro e he
  obtain ⟨i, hi, rfl⟩ := List.getElem_of_mem he
  have h2 : i < 2 ^ log := by rw [nF] at hi; exact hi
  rw [Zd log ps h2]
  obtain ⟨s, hs, e, _⟩ := VS hm (FH hm 0) h2
  have := hm.len256
  rw [e]; omega
end Go.Proofs.Ytoepfjgekpdddaa
namespace Go.Pu
open Go Go.En
set_option linter.unusedVariables false
def WU (c : UInt8) : List Bool := (List.range 8).map c.toNat.testBit
def bS : List UInt8 → List Bool
  | [] => []
  | c :: l => WU c ++ bS l
def qC : List Bool → Nat
  | [] => 0
  | b :: l => b.toNat + 2 * qC l
theorem D9 (c : UInt8) : (WU c).length = 8 := by simp [WU]
theorem gS : ∀ l : List UInt8, (bS l).length = 8 * l.length
  | [] => rfl
  | c :: l => by rw [bS, List.length_append, D9, gS l, List.length_cons]; omega
theorem OS : ∀ a b : List UInt8, bS (a ++ b) = bS a ++ bS b
  | [], b => rfl
  | c :: a, b => by rw [List.cons_append, bS, bS, OS a b, List.append_assoc]
theorem acC (c : UInt8) {k : Nat} (h : k < 8) : (WU c)[k]? = some (c.toNat.testBit k) := by
  unfold WU
  rw [List.getElem?_map, List.getElem?_range h]; rfl
theorem LU : ∀ (l : List UInt8) (i : Nat) (h : i < 8 * l.length), (bS l)[i]? = some ((l[i / 8]'(by omega)).toNat.testBit (i % 8))
  | [], i, h => by simp at h
  | c :: l, i, h => by
    rw [bS]
    rcases Nat.lt_or_ge i 8 with h8 | h8
    · rw [List.getElem?_append_left (by rw [D9]; exact h8), acC c h8]
      have e : i / 8 = 0 := by omega
      have e2 : i % 8 = i := by omega
      simp [e, e2]
    · rw [List.getElem?_append_right (by rw [D9]; exact h8), D9, LU l (i - 8) (by simp at h; omega)]
      have e : i / 8 = (i - 8) / 8 + 1 := by omega
      have e2 : (i - 8) % 8 = i % 8 := by omega
      simp [e, e2]
theorem RA : ∀ l : List Bool, qC l < 2 ^ l.length
  | [] => by simp [qC]
  | b :: l => by
    have := RA l
    rw [qC, List.length_cons, Nat.pow_succ]
    have : b.toNat ≤ 1 := Bool.toNat_le b
    omega
theorem T0 : ∀ a b : List Bool, qC (a ++ b) = qC a + 2 ^ a.length * qC b
  | [], b => by simp [qC]
  | x :: a, b => by
    rw [List.cons_append, qC, qC, T0 a b, List.length_cons, Nat.pow_succ, Nat.mul_add, ← Nat.mul_assoc, ← Nat.add_assoc, Nat.mul_comm 2 (2 ^ a.length)]
theorem abJ (a : List Bool) (x : Bool) : qC (a ++ [x]) = qC a + 2 ^ a.length * x.toNat := by
  rw [T0]; simp [qC]
def V4 (x : Nat) (n : Nat) : List Bool := (List.range n).map x.testBit
theorem Zm (x : Nat) : V4 x 0 = [] := rfl
theorem Zv (x n : Nat) : V4 x (n + 1) = V4 x n ++ [x.testBit n] := by
  unfold V4; rw [List.range_succ, List.map_append]; rfl
theorem acU {x i : Nat} (h : x < 2 ^ i) (b : Nat) : x ||| (b * 2 ^ i) = x + 2 ^ i * b := by
  rw [Nat.or_comm, Nat.mul_comm b, ← Nat.two_pow_add_eq_or_of_lt h b, Nat.add_comm]
theorem afB {a b : Nat} (ha : a < 2 ^ 64) (hb : b < 2 ^ 64) : orI .u64 (a : Int) (b : Int) = ((a ||| b : Nat) : Int) := by
  have h := Nat.or_lt_two_pow ha hb
  unfold orI
  have e : IntKind.u64.bits = 64 := rfl
  rw [e, BitVec.ofInt_natCast, BitVec.ofInt_natCast, BitVec.toNat_or, BitVec.toNat_ofNat, BitVec.toNat_ofNat, Nat.mod_eq_of_lt ha, Nat.mod_eq_of_lt hb]
  exact lF (by omega) (by have : ((a ||| b : Nat) : Int) < ((2 ^ 64 : Nat) : Int) := by exact_mod_cast h
                          omega)
theorem aeB {a b : Nat} (ha : a < 2 ^ 8) (hb : b < 2 ^ 8) : orI .u8 (a : Int) (b : Int) = ((a ||| b : Nat) : Int) := by
  have h := Nat.or_lt_two_pow ha hb
  unfold orI
  have e : IntKind.u8.bits = 8 := rfl
  rw [e, BitVec.ofInt_natCast, BitVec.ofInt_natCast, BitVec.toNat_or, BitVec.toNat_ofNat, BitVec.toNat_ofNat, Nat.mod_eq_of_lt ha, Nat.mod_eq_of_lt hb]
  exact CI (by omega) (by have : ((a ||| b : Nat) : Int) < ((2 ^ 8 : Nat) : Int) := by exact_mod_cast h
                          omega)
theorem afK {a : Nat} (h : a < 2 ^ 8) : YF .u8 (a : Int) 1 = ((a % 2 : Nat) : Int) := by
  have : ∀ k : Fin 256, YF .u8 (k.val : Int) 1 = ((k.val % 2 : Nat) : Int) := by decide +kernel
  exact this ⟨a, h⟩
theorem abU (x k : Nat) : (x.testBit k).toNat = x / 2 ^ k % 2 := by
  rw [Nat.testBit_eq_decide_div_mod_eq]
  have : x / 2 ^ k % 2 = 0 ∨ x / 2 ^ k % 2 = 1 := by omega
  rcases this with h | h <;> simp [h]
def kH (L : List Bool) (n : Nat) : Nat := qC (L.drop (L.length - min n L.length)) * 2 ^ (n - min n L.length)
theorem lC (L : List Bool) (n : Nat) : kH L n < 2 ^ n := by
  unfold kH
  have h := RA (L.drop (L.length - min n L.length))
  rw [List.length_drop, show L.length - (L.length - min n L.length) = min n L.length from by omega] at h
  calc _ < 2 ^ min n L.length * 2 ^ (n - min n L.length) := Nat.mul_lt_mul_of_pos_right h (Nat.two_pow_pos _)
    _ = 2 ^ n := by rw [← Nat.pow_add]; congr 1; omega
theorem Wr {L : List Bool} {at' i : Nat} {b : Bool} (h : L[at' + i]? = some b) : (L.drop at').take (i + 1) = (L.drop at').take i ++ [b] := by
  rw [List.take_add_one, List.getElem?_drop, h]; rfl
def Wi (l : List UInt8) : Option Nat := match l.getLast? with
  | none => none
  | some c => if c.toNat = 0 then none else some (8 * (l.length - 1) + bl c.toNat - 1)
theorem HO {l : List UInt8} (h : 0 < l.length) : Wi l = if (l[l.length - 1]'(by omega)).toNat = 0 then none else some (8 * (l.length - 1) + bl (l[l.length - 1]'(by omega)).toNat - 1) := by
  unfold Wi
  rw [List.getLast?_eq_getElem?, List.getElem?_eq_getElem (by omega)]
theorem LP {l : List UInt8} {k : Nat} (h : Wi l = some k) : 0 < l.length ∧ k < 8 * l.length ∧ 8 * (l.length - 1) ≤ k ∧ (bS l)[k]? = some true ∧ ∀ j, k < j → j < 8 * l.length → (bS l)[j]? = some false := by
  have h0 : 0 < l.length := by
    cases l with
    | nil => simp [Wi] at h
    | cons x l => simp
  rw [HO h0] at h
  generalize hc : l[l.length - 1]'(by omega) = c at h
  split at h
  · cases h
  · rename_i hne
    have hk := Option.some.inj h
    have h1 := Hb hne
    have h2 : bl c.toNat ≤ 8 := lR (by have : c.toNat < 256 := UInt8.toNat_lt c
                                       omega)
    have h3 := Q5 hne
    have h4 := MM c.toNat
    refine ⟨h0, by omega, by omega, ?_, ?_⟩
    · rw [LU l k (by omega)]
      have e : k / 8 = l.length - 1 := by omega
      have e2 : k % 8 = bl c.toNat - 1 := by omega
      simp only [e, hc, e2]
      rw [Nat.testBit_eq_decide_div_mod_eq]
      obtain ⟨m, hm⟩ : ∃ m, bl c.toNat = m + 1 := ⟨bl c.toNat - 1, by omega⟩
      rw [hm, Nat.add_sub_cancel] at h3 ⊢
      rw [hm, Nat.pow_succ] at h4
      have : c.toNat / 2 ^ m = 1 := by
        have hp := Nat.two_pow_pos m
        have := (Nat.le_div_iff_mul_le hp).2 (show 1 * 2 ^ m ≤ c.toNat by omega)
        have := (Nat.div_lt_iff_lt_mul hp).2 (show c.toNat < 2 * 2 ^ m by omega)
        omega
      simp [this]
    · intro j h5 h6
      rw [LU l j h6]
      have e : j / 8 = l.length - 1 := by omega
      simp only [e, hc]
      rw [Nat.testBit_lt_two_pow]
      exact Nat.lt_of_lt_of_le h4 (Nat.pow_le_pow_right (by omega) (by omega))
end Go.Pu
namespace Go.Proofs.Ytoepfjgekpdddaa
open Go Go.En Go.Pu
set_option maxRecDepth 4000
set_option linter.unusedSimpArgs false
set_option linter.unusedVariables false
theorem adH {l : List UInt8} {v : Value} {st n : Nat} {w : World} (h : Bs w v l) (hn : n ≤ 64) (hat : st + n ≤ 8 * l.length) (hl : l.length ≤ 1000000000) :
    cC pg CH #[v, .int .i64 st, .int .i64 n] w (fun r w' => r = .int .u64 (qC (((bS l).drop st).take n)) ∧ w' = w) := by
  refine Wk ?_
  unfold W5 Iv HX DY Ja H5 DX H1
  refine cV.rule (fun m (t : Value × Value) w' => ∃ i : Nat, m = n - i ∧ t = (.int .u64 (qC (((bS l).drop st).take i) : Nat), .int .i64 i) ∧ i ≤ n ∧ w' = w) n ⟨0, rfl, by simp [qC], by omega, rfl⟩ ?_
  rintro m t w1 ⟨i, rfl, rfl, hi, rfl⟩
  unfold Eb
  by_cases hlt : i < n
  · have d1 : decide ((i : Int) < (n : Int)) = true := by simp; omega
    obtain ⟨b, off, c, rfl, hc, hcell⟩ := h.openV (by simp; omega)
    obtain ⟨q, hq⟩ : ∃ q, q = st + i := ⟨_, rfl⟩
    have e0 : (st : Int) + (i : Int) = (q : Int) := by omega
    have e1 : (q : Int).tdiv 8 = ((q / 8 : Nat) : Int) := by rw [Int.tdiv_eq_ediv_of_nonneg (by omega)]; omega
    have e2 : (q : Int).tmod 8 = ((q % 8 : Nat) : Int) := by rw [Int.tmod_eq_emod_of_nonneg (by omega)]; omega
    have hq8 : q / 8 < l.length := by omega
    have hb : (bS l)[st + i]? = some ((l[q / 8]'hq8).toNat.testBit (q % 8)) := by subst hq; exact LU l _ (by omega)
    have ht := Wr hb
    have g1 := hcell (q / 8) (by simpa using hq8)
    simp only [List.getElem_map, Ic] at g1
    have hx : (l[q / 8]'hq8).toNat < 256 := UInt8.toNat_lt _
    generalize (l[q / 8]'hq8).toNat = x at *
    have e3 : (x : Int).fdiv (2 ^ (min (q % 8) IntKind.u8.bits)) = ((x / 2 ^ (q % 8) : Nat) : Int) := by
      rw [show min (q % 8) IntKind.u8.bits = q % 8 from Nat.min_eq_left (by have : IntKind.u8.bits = 8 := rfl
                                                                            omega), Int.fdiv_eq_ediv_of_nonneg _ (Int.pow_nonneg (by omega))]
      simp
    have hy : x / 2 ^ (q % 8) < 2 ^ 8 := by have := Nat.div_le_self x (2 ^ (q % 8)); omega
    have e4 := afK hy
    rw [← abU] at e4
    have hbt : (x.testBit (q % 8)).toNat ≤ 1 := Bool.toNat_le _
    have hlen : (((bS l).drop st).take i).length = i := by rw [List.length_take, List.length_drop, gS]; omega
    have hnb := RA (((bS l).drop st).take i)
    have hsn := abJ (((bS l).drop st).take i) (x.testBit (q % 8))
    rw [← ht, hlen] at hsn
    rw [hlen] at hnb
    have hp : 2 ^ i < 2 ^ 64 := Nat.pow_lt_pow_right (by omega) (by omega)
    have hp2 : 2 ^ i ≤ 2 ^ 63 := Nat.pow_le_pow_right (by omega) (by omega)
    generalize (x.testBit (q % 8)).toNat = bt at *
    have hm : bt * 2 ^ i ≤ 2 ^ i := by
      have := Nat.mul_le_mul_right (2 ^ i) hbt
      omega
    have e5 : IntKind.u64.wrap ((bt : Int) * 2 ^ (min i IntKind.u64.bits)) = ((bt * 2 ^ i : Nat) : Int) := by
      rw [show min i IntKind.u64.bits = i from Nat.min_eq_left (by have : IntKind.u64.bits = 64 := rfl
                                                                   omega)]
      have e : (bt : Int) * 2 ^ i = ((bt * 2 ^ i : Nat) : Int) := by simp
      rw [e]
      exact lF (by omega) (by omega)
    have e6 := afB (a := qC (((bS l).drop st).take i)) (b := bt * 2 ^ i) (by omega) (by omega)
    rw [acU hnb, ← hsn] at e6
    simp (disch := omega) only [aD, bN, d1, bY, e0, bD, List.length_map, fZ, lF, aB, kX, e1, rE, e2, eJ, Int.toNat_natCast, fX, g1, aP, uW, e3, Gi, e4, U5, lH, e5, WB, e6, and_true, aK]
    exact ⟨n - (i + 1), by omega, i + 1, rfl, rfl, by omega⟩
  · have d1 : decide ((i : Int) < (n : Int)) = false := by simp; omega
    obtain rfl : i = n := by omega
    unfold D8
    simp (disch := omega) only [aD, bN, d1, bY, bD, fZ, lF, aB, kX, rE, true_and, aJ]
def YR (w : World) (lo hi : Nat) (l : List UInt8) (st : Nat) : Prop := ∃ v, fA w hi [v, .int .i64 st] ∧ Bs w v l ∧ ZG v lo hi
theorem YR.ext {w w' : World} {lo hi st : Nat} {l : List UInt8} {M : Nat → Prop} (h : YR w lo hi l st) (hx : bZ w w' M) (hM : ∀ b, lo ≤ b → b ≤ hi → ¬ M b) (hlh : lo ≤ hi) : YR w' lo hi l st := by
  obtain ⟨v, h1, h2, h3⟩ := h
  exact ⟨v, h1.ext hx (hM _ hlh (Nat.le_refl _)), h2.ext hx (h3 M fun b hb hh => hM b hb (by omega)), h3⟩
theorem XL {v : Value} {l : List UInt8} {w : World} (h : Bs w v l) (hl : l.length ≤ 1000000000) :
    cC pg rL #[v] w (fun r w' => ∃ hi, r = .pointer (some ⟨hi, 0, none⟩) ∧ w.heap.size ≤ hi ∧ hi < w'.heap.size ∧ YR w' w.heap.size hi l 0 ∧ bZ w w' fN) := by
  refine Lm ?_
  unfold Jf xF
  refine (Xh h hl).mono ?_
  rintro r w1 ⟨o1, x1⟩
  have hat := nG.atI o1
  have hs := o1.sl
  obtain ⟨a, c, rfl⟩ := o1.len
  simp (disch := omega) only [aD, QP, aB]
  refine kT fun w2 o2 x2 s2 => ?_
  simp only [Value.cells] at o2
  exact ⟨_, rfl, x1.size, by omega, ⟨_, o2, hs.ext x2 (eI _), hat⟩, x1.seq x2⟩
theorem LQ {l : List UInt8} {lo hi st n : Nat} {w : World} (h : YR w lo hi l st) (hlh : lo ≤ hi) (hn : n ≤ 32) (hst : st ≤ 8 * l.length) (hl : l.length ≤ 1000000) :
    cC pg iX #[.pointer (some ⟨hi, 0, none⟩), .int .i64 n] w (fun r w' =>
      (8 * l.length < st + n ∧ r = .tuple #[.int .u64 0, .int .i64 10] ∧ YR w' lo hi l st ∧ bZ w w' fN) ∨
      (st + n ≤ 8 * l.length ∧ r = .tuple #[.int .u64 (qC (((bS l).drop st).take n)), .int .i64 0] ∧ YR w' lo hi l (st + n) ∧ bZ w w' (fun y => y = hi))) := by
  refine It ?_
  obtain ⟨v, o, hs, hat⟩ := h
  unfold F8 sU
  have d1 : decide ((n : Int) < 0) = false := by simp
  have d2 : decide ((32 : Int) < (n : Int)) = false := by simp; omega
  have c0 := o.cell (off := 0)
  have c1 := o.cell (off := 1)
  simp only [List.getElem?_cons_zero, List.getElem?_cons_succ] at c0 c1
  obtain ⟨a, n', c, hv, hn', hc, hh⟩ := id hs
  rw [List.length_map] at hn'
  subst hn'
  by_cases hsh : 8 * l.length < st + n
  · have d3 : decide (8 * (l.length : Int) - (st : Int) < (n : Int)) = true := by simp; omega
    subst hv
    have od := iO o
    have c0d := od.cell (off := 0)
    have c1d := od.cell (off := 1)
    simp only [List.getElem?_cons_zero, List.getElem?_cons_succ] at c0d c1d
    simp (disch := omega) only [aD, tY, Option.isNone_some, CL, true_and, aB, xP, Nat.zero_add, cP, F6, Gh, eD, cJ, Bool.false_eq_true, if_false, cL, bN, d1, dM, d2, c0d, aP, c1d, cI, qB, bD, dY, d3, aK, aJ]
    exact .inl ⟨hsh, ⟨_, iO o, hs.ext (bZ.dr _ fN) (eI _), hat⟩, bZ.dr _ _⟩
  · have d3 : decide (8 * (l.length : Int) - (st : Int) < (n : Int)) = false := by simp; omega
    subst hv
    have c0e := (iO o).cell (off := 0)
    have c1e := (iO o).cell (off := 1)
    have od := iO (iO o)
    have c0d := od.cell (off := 0)
    have c1d := od.cell (off := 1)
    simp only [List.getElem?_cons_zero, List.getElem?_cons_succ] at c0d c1d c0e c1e
    simp (disch := omega) only [aD, tY, Option.isNone_some, CL, true_and, aB, xP, Nat.zero_add, cP, F6, Gh, eD, cJ, Bool.false_eq_true, if_false, cL, bN, d1, dM, d2, c0e, aP, c1e, c0d, c1d, cI, qB, bD, dY, d3, aJ]
    refine (adH (l := l) (st := st) (n := n) ((hs.ext (bZ.dr _ fN) (eI _)).ext (bZ.dr _ fN) (eI _)) (by omega) (by omega) (by omega)).mono ?_
    rintro r w1 ⟨rfl, rfl⟩
    simp (disch := omega) only [c1d, aP, true_and, aB, bY, bD]
    refine pH od rfl (by simp) fun w2 o2 x2 s2 => ?_
    simp only [List.set_cons_zero, List.set_cons_succ] at o2
    have e1 : (st : Int) + (n : Int) = ((st + n : Nat) : Int) := by omega
    rw [e1] at o2
    have x02 : bZ w w2 (fun y => y = hi) := ((bZ.dr _ _).seq (bZ.dr _ _)).seq x2
    exact .inr ⟨by omega, ⟨_, o2, hs.ext x02 (hat _ fun b hb hh => by omega), hat⟩, x02⟩
theorem aaU {l : List UInt8} {lo hi st : Nat} {w : World} (h : YR w lo hi l st) (hst : st ≤ 1000000000) :
    cC pg nN #[.pointer (some ⟨hi, 0, none⟩)] w (fun r w' => r = .int .i64 (((st + 7) / 8 : Nat)) ∧ w' = w) := by
  refine Ik ?_
  obtain ⟨v, o, hs, hat⟩ := h
  have c1 := o.cell (off := 1)
  simp only [List.getElem?_cons_zero, List.getElem?_cons_succ] at c1
  have e1 : ((st : Int) + 7).tdiv 8 = (((st + 7) / 8 : Nat) : Int) := by rw [Int.tdiv_eq_ediv_of_nonneg (by omega)]; omega
  unfold FZ sM
  simp (disch := omega) only [aD, tY, Option.isNone_some, CL, aB, xP, Nat.zero_add, cP, and_true, c1, aP, bY, bD, kX, e1, aJ]
end Go.Proofs.Ytoepfjgekpdddaa
namespace Go.Proofs.Ytoepfjgekpdddaa
open Go Go.En Go.Pu
set_option maxRecDepth 4000
set_option linter.unusedSimpArgs false
set_option linter.unusedVariables false
theorem ahU {x : Nat} (hx : x < 256) (w : World) : cC pg tK #[.int .u8 x] w (fun r w' => r = .int .i64 (bl x : Nat) ∧ w' = w) := by
  refine MD ?_
  have hg := Yp x hx
  have hs := LT
  have hb : bl x ≤ 8 := lR (n := 8) (by omega)
  unfold KN zI
  change aD pg (Oc 9 (.string X4) _) w _
  simp (disch := omega) only [aD, iF, Int.toNat_natCast, hg, aB, eY, bD, and_true]
def XZ (w : World) (lo hi : Nat) (l : List UInt8) (left : Int) : Prop := ∃ v, fA w hi [v, .int .i64 left] ∧ Bs w v l ∧ ZG v lo hi
theorem XZ.ext {w w' : World} {lo hi : Nat} {left : Int} {l : List UInt8} {M : Nat → Prop} (h : XZ w lo hi l left) (hx : bZ w w' M) (hM : ∀ b, lo ≤ b → b ≤ hi → ¬ M b) (hlh : lo ≤ hi) : XZ w' lo hi l left := by
  obtain ⟨v, h1, h2, h3⟩ := h
  exact ⟨v, h1.ext hx (hM _ hlh (Nat.le_refl _)), h2.ext hx (h3 M fun b hb hh => hM b hb (by omega)), h3⟩
theorem U8 {v : Value} {l : List UInt8} {w : World} (h : Bs w v l) (he : Wi l = none) (hl : l.length ≤ 1000000) :
    cC pg lV #[v] w (fun r w' => r = .tuple #[.pointer none, .int .i64 11] ∧ w' = w) := by
  refine Bk ?_
  unfold BH nX
  rcases Nat.eq_zero_or_pos l.length with h0 | h0
  · obtain ⟨a, n, c, rfl, hn, hc, hh⟩ := h
    rw [List.length_map, h0] at hn
    subst hn
    have d1 : (((0 : Nat) : Int) == 0) = true := rfl
    simp (disch := omega) only [aD, cI, true_and, gZ, Result.ok.injEq, Next.value.injEq, and_true, aB, dY, bD, qB, gY, d1, gD, cJ, if_true, aK, dG]
  · obtain ⟨b, off, c, rfl, hc, hcell⟩ := HW h h0
    rw [HO h0] at he
    have g := hcell (l.length - 1) (by omega)
    generalize (l[l.length - 1]'(by omega)) = x at *
    have hx0 : x.toNat = 0 := by
      rcases Nat.eq_zero_or_pos x.toNat with h | h
      · exact h
      · rw [if_neg (by omega)] at he; cases he
    rw [hx0] at g
    have d1 : ((l.length : Int) == 0) = false := by simp; intro h; subst h; simp at h0
    have e1 : (l.length : Int) - 1 = ((l.length - 1 : Nat) : Int) := by omega
    have d2 : (((0 : Nat) : Int) == 0) = true := rfl
    simp (disch := omega) only [aD, cI, true_and, gZ, Result.ok.injEq, Next.value.injEq, and_true, aB, dY, e1, bD, eJ, Int.toNat_natCast, fX, qB, gY, d1, eD, cJ, Bool.false_eq_true, if_false, cL, g, aP, d2, aK]
theorem Wl {v : Value} {l : List UInt8} {k : Nat} {w : World} (h : Bs w v l) (he : Wi l = some k) (hl : l.length ≤ 1000000) :
    cC pg lV #[v] w (fun r w' => ∃ hi, r = .tuple #[.pointer (some ⟨hi, 0, none⟩), .int .i64 0] ∧ w.heap.size ≤ hi ∧ hi < w'.heap.size ∧ XZ w' w.heap.size hi l k ∧ bZ w w' fN) := by
  refine Bk ?_
  unfold BH nX
  have h0 := (LP he).1
  obtain ⟨b, off, c, rfl, hc, hcell⟩ := HW h h0
  rw [HO h0] at he
  have g := hcell (l.length - 1) (by omega)
  generalize (l[l.length - 1]'(by omega)) = x at *
  have hx : x.toNat < 256 := UInt8.toNat_lt x
  have hx0 : x.toNat ≠ 0 := by
    intro h; rw [if_pos h] at he; cases he
  rw [if_neg hx0] at he
  have he := Option.some.inj he
  have hb1 := Hb hx0
  have hb2 : bl x.toNat ≤ 8 := lR (n := 8) (by omega)
  have d1 : ((l.length : Int) == 0) = false := by simp; intro h; subst h; simp at h0
  have e1 : (l.length : Int) - 1 = ((l.length - 1 : Nat) : Int) := by omega
  have d2 : ((x.toNat : Int) == 0) = false := by simpa using hx0
  simp (disch := omega) only [aD, cI, gZ, Result.ok.injEq, Next.value.injEq, and_true, true_and, aB, dY, e1, bD, eJ, Int.toNat_natCast, fX, qB, gY, d1, eD, cJ, Bool.false_eq_true, if_false, cL, g, aP, d2, aJ]
  refine (Xh (h.ext (bZ.dr _ fN) (eI _)) (by omega)).mono ?_
  rintro r w1 ⟨o1, x1⟩
  have x01 : bZ w w1 fN := (bZ.dr w fN).seq x1
  have g1 := X5 g x01 (fun h => h)
  have hat := nG.atI o1
  have hs := o1.sl
  obtain ⟨a, c', rfl⟩ := o1.len
  have gd : (dr w).cell? ⟨b, off + (l.length - 1), none⟩ = some (.int .u8 (x.toNat : Nat)) := g
  simp (disch := omega) only [g1, aP, gd, Result.ok.injEq, Next.value.injEq, and_true, aB, true_and]
  refine (ahU hx _).mono ?_
  rintro r w2 ⟨rfl, rfl⟩
  have e2 : 8 * ((l.length - 1 : Nat) : Int) + (bl x.toNat : Nat) - 1 = (k : Int) := by omega
  simp (disch := omega) only [bY, bD, aB, dY, e2, KG, true_and]
  refine kT fun w3 o3 x3 s3 => ?_
  simp only [Value.cells] at o3
  exact ⟨_, rfl, x01.size, by omega, ⟨_, o3, hs.ext x3 (eI _), hat⟩, x01.seq x3⟩
theorem W2 {l : List UInt8} {lo hi : Nat} {left : Int} {w : World} (h : XZ w lo hi l left) :
    cC pg kO #[.pointer (some ⟨hi, 0, none⟩)] w (fun r w' => r = .int .i64 left ∧ w' = w) := by
  refine HL ?_
  obtain ⟨v, o, hs, hat⟩ := h
  have c1 := o.cell (off := 1)
  simp only [List.getElem?_cons_zero, List.getElem?_cons_succ] at c1
  unfold FS qL
  simp (disch := omega) only [aD, sG, Option.isNone_some, CL, aB, qR, Nat.zero_add, cP, and_true, c1, aP, aJ]
theorem WF {l : List UInt8} {lo hi n : Nat} {left : Int} {w : World} (h : XZ w lo hi l left) (hlh : lo ≤ hi) (hn : n ≤ 56) (h1 : left ≤ 8 * l.length) (h2 : -1000000000 ≤ left) (hl : l.length ≤ 1000000) :
    cC pg kN #[.pointer (some ⟨hi, 0, none⟩), .int .i64 n] w (fun r w' =>
      r = .int .u64 (kH ((bS l).take left.toNat) n) ∧ XZ w' lo hi l (left - n) ∧ bZ w w' (fun y => y = hi)) := by
  refine HV ?_
  unfold EX qO
  by_cases hn0 : n = 0
  · subst hn0
    have d1 : decide (((0 : Nat) : Int) < 1) = true := rfl
    simp (disch := omega) only [aD, sG, Option.isNone_some, CL, gZ, and_true, aB, qR, Nat.zero_add, cP, true_and, E9, Gh, eD, cJ, Bool.false_eq_true, if_false, cL, bN, d1, gD, if_true, aK, dG]
    have h0 : kH ((bS l).take left.toNat) 0 = 0 := by
      have := lC ((bS l).take left.toNat) 0
      rw [Nat.pow_zero] at this; omega
    exact ⟨by rw [h0]; rfl, by simpa using h, bZ.refl _ _⟩
  obtain ⟨v, o, hs, hat⟩ := h
  have c0 := o.cell (off := 0)
  have c1 := o.cell (off := 1)
  have od := iO o
  have c0d := od.cell (off := 0)
  have c1d := od.cell (off := 1)
  simp only [List.getElem?_cons_zero, List.getElem?_cons_succ] at c0 c1 c0d c1d
  have d1 : decide ((n : Int) < 1) = false := by simp; omega
  have d2 : decide ((56 : Int) < (n : Int)) = false := by simp; omega
  obtain ⟨k0, hk0⟩ : ∃ k0, k0 = left.toNat := ⟨_, rfl⟩
  obtain ⟨th, hth⟩ : ∃ th, th = min n k0 := ⟨_, rfl⟩
  have e1 : (if (0 : Int) > left then 0 else left) = (k0 : Int) := by split <;> omega
  have e2 : (if (n : Int) < (k0 : Int) then (n : Int) else (k0 : Int)) = (th : Int) := by split <;> omega
  have e3 : (k0 : Int) - (th : Int) = ((k0 - th : Nat) : Int) := by omega
  have e4 : (n : Int) - (th : Int) = ((n - th : Nat) : Int) := by omega
  rw [← hk0]
  have hlen : ((bS l).take k0).length = k0 := by rw [List.length_take, gS]; omega
  have hlast : kH ((bS l).take k0) n = qC (((bS l).drop (k0 - th)).take th) * 2 ^ (n - th) := by
    unfold kH
    rw [hlen, ← hth, List.drop_take, show k0 - (k0 - th) = th from by omega]
  have hlt := lC ((bS l).take k0) n
  have hp : 2 ^ n ≤ 2 ^ 56 := Nat.pow_le_pow_right (by omega) hn
  have e5 : IntKind.u64.wrap (((qC (((bS l).drop (k0 - th)).take th) : Nat) : Int) * 2 ^ (min (n - th) IntKind.u64.bits)) = ((kH ((bS l).take k0) n : Nat) : Int) := by
    rw [show min (n - th) IntKind.u64.bits = n - th from Nat.min_eq_left (by have h64 : IntKind.u64.bits = 64 := rfl; omega), hlast]
    have e : ((qC (((bS l).drop (k0 - th)).take th) : Nat) : Int) * 2 ^ (n - th) = ((qC (((bS l).drop (k0 - th)).take th) * 2 ^ (n - th) : Nat) : Int) := by simp
    rw [e]
    rw [hlast] at hlt
    exact lF (by omega) (by omega)
  simp (disch := omega) only [aD, sG, Option.isNone_some, CL, gZ, and_true, aB, qR, Nat.zero_add, cP, true_and, E9, Gh, eD, cJ, Bool.false_eq_true, if_false, cL, bN, d1, dM, d2, c1, aP, F0, e1, MH, e2, c0d, c1d, dY, e4, bD, Result.ok.injEq, Next.value.injEq, fZ, lF, e3, aJ]
  refine (adH (l := l) (st := k0 - th) (n := th) (hs.ext (bZ.dr _ fN) (eI _)) (by omega) (by omega) (by omega)).mono ?_
  rintro r w1 ⟨rfl, rfl⟩
  simp (disch := omega) only [lH, Int.toNat_natCast, e5, c1d, aP, aB, dY, bD, true_and]
  refine pH od rfl (by simp) fun w2 o2 x2 s2 => ?_
  simp only [List.set_cons_zero, List.set_cons_succ] at o2
  have x02 : bZ w w2 (fun y => y = hi) := (bZ.dr _ _).seq x2
  exact ⟨⟨_, o2, hs.ext x02 (hat _ fun b hb hh => by omega), hat⟩, x02⟩
end Go.Proofs.Ytoepfjgekpdddaa
namespace Go.Proofs.Ytoepfjgekpdddaa
open Go Go.En Go.Pu
set_option maxRecDepth 4000
set_option linter.unusedSimpArgs false
set_option linter.unusedVariables false
theorem ZG.sub {a : Option Addr} {n c m c' k sz lo hi : Nat} (h : ZG (.slice a n c) lo hi) (hm : m ≤ n) : ZG (.slice (kW a c k sz) m c') lo hi := by
  intro M hM hin
  cases m with
  | zero => unfold YD at hin; split at hin <;> simp_all
  | succ m =>
    obtain ⟨n', rfl⟩ : ∃ n', n = n' + 1 := ⟨n - 1, by omega⟩
    have h1 := h M hM
    cases a with
    | none => unfold kW at hin; split at hin <;> exact hin
    | some x =>
      unfold kW at hin
      have h2 : M x.block := by
        split at hin
        · exact hin
        · rw [Option.map_some] at hin
          have e : (x.add (k * sz)).block = x.block := by unfold Addr.add; split <;> rfl
          have h3 : M (x.add (k * sz)).block := hin
          rwa [e] at h3
      exact h1 h2
abbrev Bl (w : World) (v : Value) (L : List Bool) : Prop := Sl w v (L.map Value.bool)
theorem adZ {w : World} {v : Value} {L : List Bool} (h : Bl w v L) (h0 : 0 < L.length) : ∃ b off c, v = .slice (some ⟨b, off, none⟩) L.length c ∧ L.length ≤ c ∧ ∀ i, (h : i < L.length) → w.cell? ⟨b, off + i, none⟩ = some (.bool L[i]) := by
  obtain ⟨b, off, c, rfl, hc, hcell⟩ := h.openV (by simpa using h0)
  refine ⟨b, off, c, by rw [List.length_map], by simpa using hc, fun i hi => ?_⟩
  have := hcell i (by simpa using hi)
  simpa using this
theorem Br {w : World} {v : Value} {L : List Bool} (h : Bl w v L) : ∃ a c, v = .slice a L.length c ∧ L.length ≤ c := by
  obtain ⟨a, n, c, rfl, hn, hc, _⟩ := h
  rw [List.length_map] at hn
  subst hn
  exact ⟨a, c, rfl, hc⟩
theorem acR (c : UInt8) : WU c = V4 c.toNat 8 := rfl
theorem VO {x : ByteArray} {w : World} (hl : x.size ≤ 1000000) :
    cC pg Ba #[.string x] w (fun r w' => nG w' w.heap.size 1 r (8 * x.size) ((bS (nJ x)).map Value.bool) ∧ bZ w w' fN) := by
  refine UP ?_
  have hll := iV x
  unfold Wg EU Fn AP EI Fz AE Ez
  refine cV.rule (fun m (t : Value × Value) w' => ∃ (i : Nat) (v : Value), m = x.size - i ∧ t = (v, .int .i64 i) ∧ i ≤ x.size ∧ nG w' w.heap.size 1 v (8 * i) ((bS ((nJ x).take i)).map Value.bool) ∧ bZ w w' (fun y => w.heap.size ≤ y)) x.size
    ⟨0, _, rfl, rfl, by omega, nG.nil _ _ _, bZ.refl _ _⟩ ?_
  rintro m t w1 ⟨i, v, rfl, rfl, hi, o1, x1⟩
  unfold zD Eh
  by_cases hlt : i < x.size
  · have d1 : decide ((i : Int) < (x.size : Int)) = true := by simp; omega
    obtain ⟨c, hc⟩ : ∃ c, c = (nJ x)[i]'(by omega) := ⟨_, rfl⟩
    have hg : (x[i]'hlt).toNat = c.toNat := by rw [hc, P5]
    have htk : bS ((nJ x).take (i + 1)) = bS ((nJ x).take i) ++ V4 c.toNat 8 := by
      rw [List.take_add_one, List.getElem?_eq_getElem (by omega), OS, ← hc, Option.toList, bS, bS, List.append_nil, acR]
    have hcl : c.toNat < 256 := UInt8.toNat_lt c
    generalize c.toNat = y at *
    unfold Cn G6 Hn Gp
    simp (disch := omega) only [aD, gA, iF, Int.toNat_natCast, hg, aB, bN, d1, aK]
    unfold BZ He
    refine cV.rule (fun m (t : Value × Value × Value) w' => ∃ (k : Nat) (v : Value), m = 8 - k ∧ t = (v, .int .u8 (y / 2 ^ k : Nat), .int .i64 k) ∧ k ≤ 8 ∧ nG w' w.heap.size 1 v (8 * i + k) ((bS ((nJ x).take i) ++ V4 y k).map Value.bool) ∧ bZ w w' (fun y => w.heap.size ≤ y)) 8
      ⟨0, v, rfl, by simp, by omega, by simpa [Zm] using o1, x1⟩ ?_
    rintro m t w2 ⟨k, v2, rfl, rfl, hk, o2, x2⟩
    unfold Cc
    by_cases hk8 : k < 8
    · have d2 : decide ((k : Int) < 8) = true := by simp; omega
      obtain ⟨z, hz⟩ : ∃ z, z = y / 2 ^ k := ⟨_, rfl⟩
      have hz2 : y / 2 ^ (k + 1) = z / 2 := by rw [hz, Nat.pow_succ, Nat.div_div_eq_div_mul]
      have hzl : z < 256 := by have := Nat.div_le_self y (2 ^ k); omega
      have e1 : (z : Int).tmod 2 = ((z % 2 : Nat) : Int) := by rw [Int.tmod_eq_emod_of_nonneg (by omega)]; omega
      have e2 : (z : Int).tdiv 2 = ((z / 2 : Nat) : Int) := by rw [Int.tdiv_eq_ediv_of_nonneg (by omega)]; omega
      have hbit : y.testBit k = decide (z % 2 = 1) := by rw [Nat.testBit_eq_decide_div_mod_eq, hz]
      have e3 : (((z % 2 : Nat) : Int) == 1) = y.testBit k := by
        rw [hbit]
        have : z % 2 = 0 ∨ z % 2 = 1 := by omega
        rcases this with h | h <;> simp [h]
      have hbs := Zv y k
      generalize y.testBit k = bt at *
      rw [← hz]
      simp (disch := omega) only [aD, bN, d2, rE, e1, kX, e2, CI, bY, bD, aB, gY, e3, aK]
      refine Y9 (cells := #[.bool bt]) (by decide) (by decide) (by kernel_rfl) fun w3 o3 x3 s3 => ?_
      refine N4 (o2.ext x3 (fun _ _ h => h)) (o3.cl (off := 0) (l := [.bool bt]) (n := 1) rfl (fun i hi => by rw [Nat.zero_add])) (by simp [one]) (Nat.le_trans x2.size x3.size) (by omega) fun v4 w4 o4 x4 => ?_
      refine ⟨8 - (k + 1), by omega, k + 1, v4, rfl, ?_, by omega, ?_, ?_⟩
      · rw [hz2]; rfl
      · rw [hbs, ← List.append_assoc, List.map_append]
        exact o4
      · exact (x2.seq (x3.mono fun _ _ h => h.elim)).seq x4
    · have d2 : decide ((k : Int) < 8) = false := by simp; omega
      obtain rfl : k = 8 := by omega
      rw [← htk] at o2
      unfold Ct
      simp (disch := omega) only [aD, bN, d2, rE, kX, bY, bD, aB, gY, aJ]
      exact ⟨x.size - (i + 1), by omega, i + 1, _, rfl, rfl, by omega, o2, x2⟩
  · have d1 : decide ((i : Int) < (x.size : Int)) = false := by simp; omega
    obtain rfl : i = x.size := by omega
    rw [List.take_of_length_le (by omega)] at o1
    unfold CB
    simp (disch := omega) only [aD, gA, aB, bN, d1, aJ]
    exact ⟨o1, x1.mono fun b hb h => Nat.not_le_of_lt hb h⟩
theorem T9 {L : List Bool} {v : Value} {w : World} (h : Bl w v L) (hl : L.length ≤ 60) :
    cC pg sB #[v] w (fun r w' => r = .int .u64 (qC L : Nat) ∧ w' = w) := by
  refine Qc ?_
  obtain ⟨a, c, hv, hc⟩ := Br h
  subst hv
  unfold QY BA BS wH CY Dk
  simp (disch := omega) only [aD, oU, aB, dY, bD]
  unfold wZ Dz
  refine cV.rule (fun m (t : Value × Value) w' => t = (.int .u64 (qC (L.drop m) : Nat), .int .i64 ((m : Int) - 1)) ∧ m ≤ L.length ∧ w' = w) L.length
    ⟨by rw [List.drop_length]; rfl, by omega, rfl⟩ ?_
  rintro m t w1 ⟨rfl, hm, rfl⟩
  unfold vM Dg
  cases m with
  | zero =>
    have d1 : decide ((0 : Int) ≤ ((0 : Nat) : Int) - 1) = false := rfl
    unfold vV
    simp (disch := omega) only [aD, kU, d1, qB, aB, bY, and_true, aJ]
    simp
  | succ j =>
    have e0 : ((j + 1 : Nat) : Int) - 1 = (j : Int) := by omega
    have d1 : decide ((0 : Int) ≤ (j : Int)) = true := by simp
    obtain ⟨b, off, c', e, _, hcell⟩ := adZ h (by omega)
    cases e
    have g := hcell j (by omega)
    have hd : L.drop j = L[j] :: L.drop (j + 1) := List.drop_eq_getElem_cons (by omega)
    have hlt := RA (L.drop j)
    rw [List.length_drop] at hlt
    have hp : 2 ^ (L.length - j) ≤ 2 ^ 60 := Nat.pow_le_pow_right (by omega) (by omega)
    generalize L[j] = bt at *
    have hn : qC (L.drop j) = bt.toNat + 2 * qC (L.drop (j + 1)) := by rw [hd, qC]
    generalize qC (L.drop (j + 1)) = x at *
    cases bt with
    | true =>
      have hn : qC (L.drop j) = 1 + 2 * x := hn
      rw [e0]
      simp (disch := omega) only [aD, kU, d1, qB, lF, Iy, Int.toNat_natCast, aB, Vk, bY, g, aP, aK]
      unfold qD
      simp (disch := omega) only [aD, dY, bD, aB, and_true]
      exact ⟨j, by omega, by rw [hn]; simp; omega, by omega⟩
    | false =>
      have hn : qC (L.drop j) = 2 * x := by rw [hn]; simp
      rw [e0]
      simp (disch := omega) only [aD, kU, d1, qB, lF, Iy, Int.toNat_natCast, aB, Vk, bY, g, aP, aJ, aK]
      unfold qD
      simp (disch := omega) only [aD, dY, bD, aB, and_true]
      exact ⟨j, by omega, by rw [hn]; simp; omega, by omega⟩
end Go.Proofs.Ytoepfjgekpdddaa
namespace Go.Proofs.Ytoepfjgekpdddaa
open Go Go.En Go.Pu
set_option linter.unusedSimpArgs false
set_option linter.unusedVariables false
theorem Xx : ((⟨#[]⟩ : ByteArray).toList == (⟨#[]⟩ : ByteArray).toList) = true := by simp
theorem XN {x : ByteArray} (h : 0 < x.size) : (x.toList == (⟨#[]⟩ : ByteArray).toList) = false := by
  rw [ByteArray.toList_eq, ByteArray.toList_eq]
  have hl := iV x
  unfold nJ at hl
  cases hx : x.data.toList with
  | nil => rw [hx] at hl; simp at hl; omega
  | cons a l => rfl
theorem Yk (x : ByteArray) : (x.toList == x.toList) = true := by simp
end Go.Proofs.Ytoepfjgekpdddaa
namespace Go.Proofs.Ytoepfjgekpdddaa
open Go Go.En Go.Pu
set_option maxRecDepth 4000
set_option linter.unusedSimpArgs false
set_option linter.unusedVariables false
theorem ZG.mono {v : Value} {lo hi lo' hi' : Nat} (h : ZG v lo hi) (h1 : lo' ≤ lo) (h2 : hi ≤ hi') : ZG v lo' hi' := fun M hM => h M fun b hb hh => hM b (by omega) (by omega)
theorem ZB {x : ByteArray} {w : World} (he : Wi (nJ x) = none) (hl : x.size ≤ 1000000) :
    cC pg CG #[.string x] w (fun r w' => r = .tuple #[.agg #[.slice none 0 0, .int .i64 0], .int .i64 11] ∧ bZ w w' fN) := by
  refine KU ?_
  have hll := iV x
  unfold Sg DW DT
  refine iM fun w1 o1 x1 s1 => ?_
  rcases Nat.eq_zero_or_pos x.size with h0 | h0
  · have hx : x = ⟨#[]⟩ := Vm (List.length_eq_zero_iff.1 (by rw [hll, h0]))
    subst hx
    simp (disch := omega) only [aD, Be, Xx, qV, aB, gD, cJ, if_true, aK, dG]
    refine dK o1 rfl (by simp [one]) (by simp) fun w6 o6 x6 s6 => ?_
    refine gR o6 (by simp [cY]) ⟨rfl, ?_⟩
    exact x1.new x6 (Nat.le_refl _)
  · rw [HO (by omega)] at he
    have hg : (x[x.size - 1]'(by omega)).toNat = 0 := by
      rw [P5]
      simp only [hll] at he
      split at he
      · assumption
      · cases he
    have e1 : (x.size : Int) - 1 = ((x.size - 1 : Nat) : Int) := by omega
    have d2 : (((0 : Nat) : Int) == 0) = true := rfl
    have hne := XN h0
    simp (disch := omega) only [aD, Be, hne, qV, aB, eD, cJ, Bool.false_eq_true, if_false, cL, gA, dY, e1, bD, iF, Int.toNat_natCast, hg, gY, d2, aK]
    refine dK o1 rfl (by simp [one]) (by simp) fun w6 o6 x6 s6 => ?_
    refine gR o6 (by simp [cY]) ⟨rfl, ?_⟩
    exact x1.new x6 (Nat.le_refl _)
def RB (w : World) (lo hi : Nat) (b : Value) (L : List Bool) (lack : Nat) : Prop := ∃ v, b = .agg #[v, .int .i64 lack] ∧ Bl w v L ∧ ZG v lo hi
theorem RB.ext {w w' : World} {lo hi lack : Nat} {b : Value} {L : List Bool} {M : Nat → Prop} (h : RB w lo hi b L lack) (hx : bZ w w' M) (hM : ∀ b, lo ≤ b → b < hi → ¬ M b) : RB w' lo hi b L lack := by
  obtain ⟨v, h1, h2, h3⟩ := h
  exact ⟨v, h1, h2.ext hx (h3 M hM), h3⟩
theorem aaY {x : ByteArray} {k : Nat} {w : World} (he : Wi (nJ x) = some k) (hl : x.size ≤ 1000000) :
    cC pg CG #[.string x] w (fun r w' => ∃ b hi, r = .tuple #[b, .int .i64 0] ∧ hi ≤ w'.heap.size ∧ RB w' w.heap.size hi b ((bS (nJ x)).take k) 0 ∧ bZ w w' fN) := by
  refine KU ?_
  have hll := iV x
  obtain ⟨h0, hk1, hk2, htop, hoff⟩ := LP he
  unfold Sg DW DT
  refine iM fun w1 o1 x1 s1 => ?_
  rw [HO (by omega)] at he
  have hg : (x[x.size - 1]'(by omega)).toNat ≠ 0 := by
    rw [P5]
    simp only [hll] at he
    split at he
    · cases he
    · assumption
  have e1 : (x.size : Int) - 1 = ((x.size - 1 : Nat) : Int) := by omega
  have hne := XN (show 0 < x.size by omega)
  have d2 : (((x[x.size - 1]'(by omega)).toNat : Int) == 0) = false := by simpa using hg
  simp (disch := omega) only [aD, Be, hne, qV, aB, eD, cJ, Bool.false_eq_true, if_false, cL, gA, dY, e1, bD, iF, Int.toNat_natCast, gY, d2, aJ]
  refine (VO hl).mono ?_
  rintro r w2 ⟨o2, x2⟩
  have hat := nG.atI o2
  have hs := o2.sl
  have hbl := gS (nJ x)
  obtain ⟨a, c, rfl⟩ := o2.len
  have o12 := o1.ext x2 (fun h => h)
  simp (disch := omega) only [oU, aB, dY, bD]
  unfold DV ID I9
  refine cV.rule (fun m (t : Value) w' => t = .int .i64 m ∧ k ≤ m ∧ m < 8 * x.size ∧ w' = w2) (8 * x.size - 1)
    ⟨by have : ((8 * x.size : Nat) : Int) - 1 = ((8 * x.size - 1 : Nat) : Int) := by omega
        rw [this], by omega, by omega, rfl⟩ ?_
  rintro m t w3 ⟨rfl, hm1, hm2, rfl⟩
  unfold DI
  obtain ⟨b, off, c', e, _, hcell⟩ := adZ hs (by omega)
  rw [hbl, hll] at e
  cases e
  have hgm : (bS (nJ x))[m]? = some (decide (m = k)) := by
    by_cases h : m = k
    · subst h; simpa using htop
    · rw [hoff m (by omega) (by omega)]; simp [h]
  have g := hcell m (by omega)
  rw [List.getElem?_eq_getElem (by omega)] at hgm
  rw [Option.some.inj hgm] at g
  by_cases h : m = k
  · subst h
    have d3 : decide (m = m) = true := by simp
    have hsl := hs.take' (k := m) (by omega)
    have hsub : ZG (.slice (kW (some ⟨b, off, none⟩) c 0 1) (m - 0) (c - 0)) w1.heap.size w3.heap.size := ZG.sub hat (by omega)
    rw [← List.map_take] at hsl
    unfold DO
    simp (disch := omega) only [aD, Iy, Int.toNat_natCast, dY, bD, aB, MT, I2, Vk, g, aP, mR, and_true]
    refine dK o12 rfl (by simp [one]) (by simp) fun w6 o6 x6 s6 => ?_
    refine gR o6 (by simp [cY]) ?_
    simp only [cY, List.set_cons_zero, List.set_cons_succ, List.drop_zero, List.take_succ_cons, List.take_zero]
    have z1 := x1.size
    have z2 := x2.size
    refine ⟨_, w3.heap.size, rfl, by have := x6.size; omega, ⟨_, rfl, hsl.ext x6 (hsub _ fun b hb hh => by omega), ZG.mono hsub (by omega) (by omega)⟩, ?_⟩
    exact (x1.seq x2).new x6 (by omega)
  · have d3 : decide (m = k) = false := by simpa using h
    have e2 : (m : Int) - 1 = ((m - 1 : Nat) : Int) := by omega
    simp (disch := omega) only [aD, Iy, Int.toNat_natCast, dY, e2, bD, aB, Vk, g, d3, aP, mR, Bool.not_false, and_true, aK]
    exact ⟨m - 1, by omega, rfl, by omega, by omega⟩
end Go.Proofs.Ytoepfjgekpdddaa
namespace Go.Proofs.Ytoepfjgekpdddaa
open Go Go.En Go.Pu
set_option maxRecDepth 4000
set_option linter.unusedSimpArgs false
set_option linter.unusedVariables false
theorem WK {lo hi lack n : Nat} {b : Value} {L : List Bool} {w : World} (h : RB w lo hi b L lack) (hn : n ≤ 56) (hL : L.length ≤ 10000000) (hk : lack ≤ 1000000000) :
    cC pg Ay #[b, .int .i64 n] w (fun r w' => ∃ b', r = .tuple #[b', .int .u64 (kH L n : Nat)] ∧ RB w' lo hi b' (L.take (L.length - min n L.length)) (lack + (n - min n L.length)) ∧ bZ w w' fN) := by
  refine U0 ?_
  obtain ⟨RR, hRR⟩ : ∃ RR : Value → World → Prop, RR = fun r w' => ∃ b', r = .tuple #[b', .int .u64 (kH L n : Nat)] ∧ RB w' lo hi b' (L.take (L.length - min n L.length)) (lack + (n - min n L.length)) ∧ bZ w w' fN := ⟨_, rfl⟩
  rw [← hRR]
  obtain ⟨v, rfl, hs, hat⟩ := h
  obtain ⟨a, c, rfl, hc⟩ := Br hs
  unfold VZ EY EH
  refine kT fun w1 o1 x1 s1 => ?_
  refine iM fun w2 o2 x2 s2 => ?_
  simp only [Value.cells] at o1
  have o1 := o1.ext x2 (fun h => h)
  have c0 := o1.cell (off := 0)
  simp only [List.getElem?_cons_zero, List.getElem?_cons_succ] at c0
  have x02 : bZ w w2 fN := x1.seq x2
  have hne : w.heap.size ≠ w1.heap.size := by omega
  obtain ⟨p1, hp1⟩ : ∃ p1, p1 = w.heap.size := ⟨_, rfl⟩
  obtain ⟨p2, hp2⟩ : ∃ p2, p2 = w1.heap.size := ⟨_, rfl⟩
  rw [← hp1, ← hp2] at hne
  rw [← hp1] at o1 c0 ⊢
  rw [← hp2] at o2 ⊢
  have hw1 : w.heap.size ≤ p1 := by omega
  have hw2 : w.heap.size ≤ p2 := by omega
  have fin : ∀ (v : Value) (l : Nat) (w' : World) (xx : Nat), fA w' p1 [v, .int .i64 l] → one v = true → fA w' p2 [.slice none 0 0, .int .i64 0] → bZ w w' fN →
      (∀ w'', bZ w w'' fN → RR (.tuple #[.agg #[v, .int .i64 l], .int .u64 xx]) w'') → aD pg (aW 91 (.pointer (some ⟨p1, 0, none⟩))) w' fun t15 w => aD pg (cB 91 (.pointer (some ⟨p2, 0, none⟩)) t15) w fun _u w => F1 pg 91 (.pointer (some ⟨p2, 0, none⟩)) w fun r0 => RR (.tuple #[r0, .int .u64 xx]) w := by
    intro v l w' xx q1 qv q2 qx qk
    have l1 := fC (off := 0) q1 (by simp)
    simp only [List.drop_zero, List.take_succ_cons, List.take_zero] at l1
    simp (disch := omega) only [aD, l1, aB]
    refine dK q2 rfl (by simp [one]; exact qv) (by simp) fun w6 o6 x6 s6 => ?_
    refine gR o6 (by simp [cY]) ?_
    simp only [cY, List.set_cons_zero, List.set_cons_succ, List.drop_zero, List.take_succ_cons, List.take_zero]
    exact qk _ (qx.new x6 hw2)
  by_cases hn0 : n = 0
  · subst hn0
    have d1 : decide (((0 : Nat) : Int) < 1) = true := rfl
    simp (disch := omega) only [aD, bN, d1, iU, aB, rZ, gD, cJ, if_true, aK, dG]
    refine fin _ lack w2 0 o1 rfl o2 x02 fun w' x => ?_
    rw [hRR]
    refine ⟨.agg #[.slice a L.length c, .int .i64 lack], ?_, ⟨_, rfl, ?_, hat⟩, x⟩
    · have h0 : kH L 0 = 0 := by
        have := lC L 0
        rw [Nat.pow_zero] at this; omega
      rw [h0]
    · have : L.take (L.length - min 0 L.length) = L := List.take_of_length_le (by omega)
      rw [this]
      exact hs.ext x (eI _)
  have d1 : decide ((n : Int) < 1) = false := by simp; omega
  have d2 : decide ((56 : Int) < (n : Int)) = false := by simp; omega
  have hlt := lC L n
  have hp : 2 ^ n ≤ 2 ^ 56 := Nat.pow_le_pow_right (by omega) hn
  have tail : ∀ k : Nat, k = min n L.length → uV RR
      (.int .i64 n) (.pointer (some ⟨p1, 0, none⟩)) (.pointer (some ⟨p2, 0, none⟩)) (.int .i64 k) w2 := by
    intro k hk0
    rw [← hk0] at hRR
    have hsd := (hs.ext x02 (eI _)).drop' (k := L.length - k) (by omega)
    rw [← List.map_drop] at hsd
    have hval : kH L n = qC (L.drop (L.length - k)) * 2 ^ (n - k) := by unfold kH; rw [← hk0]
    have e1 : (L.length : Int) - (k : Int) = ((L.length - k : Nat) : Int) := by omega
    unfold uV GP
    simp (disch := omega) only [aD, iU, aB, rZ, c0, aP, oU, dY, e1, bD, Wx, Int.toNat_natCast]
    refine (T9 hsd (by rw [List.length_drop]; omega)).mono ?_
    rintro r w3 ⟨rfl, rfl⟩
    generalize qC (L.drop (L.length - k)) = x0 at *
    unfold Ce GW G8 Cv GL
    refine cV.rule (fun m (t : Value × Value) w' => ∃ i : Nat, m = n - i ∧ t = (.int .u64 (x0 * 2 ^ (i - k) : Nat), .int .i64 i) ∧ k ≤ i ∧ i ≤ n ∧ fA w' p1 [.slice a L.length c, .int .i64 (lack + (i - k) : Nat)] ∧ bZ w3 w' (fun y => y = p1)) (n - k)
      ⟨k, rfl, by simp, by omega, by omega, by simpa using o1, bZ.refl _ _⟩ ?_
    rintro m t w4 ⟨i, rfl, rfl, hi1, hi2, o4, x4⟩
    have c14 := o4.cell (off := 1)
    have c04 := o4.cell (off := 0)
    simp only [List.getElem?_cons_zero, List.getElem?_cons_succ] at c14 c04
    unfold Cb
    by_cases hlt2 : i < n
    · have d3 : decide ((i : Int) < (n : Int)) = true := by simp; omega
      have hle : x0 * 2 ^ (i + 1 - k) ≤ kH L n := by
        rw [hval]; exact Nat.mul_le_mul_left _ (Nat.pow_le_pow_right (by omega) (by omega))
      have hsu : x0 * 2 ^ (i + 1 - k) = x0 * 2 ^ (i - k) * 2 := by rw [show i + 1 - k = i - k + 1 from by omega, Nat.pow_succ, Nat.mul_assoc]
      generalize x0 * 2 ^ (i - k) = y at *
      have e2 : ((lack + (i - k) : Nat) : Int) + 1 = ((lack + (i + 1 - k) : Nat) : Int) := by omega
      have e3 : (y : Int) * 2 = ((y * 2 : Nat) : Int) := by omega
      simp (disch := omega) only [aD, bN, d3, qB, e3, lF, mG, Nat.zero_add, bY, bD, aB, cP, c14, aP, e2, aK]
      refine pH o4 rfl (by simp) fun w5 o5 x5 s5 => ?_
      simp only [List.set_cons_zero, List.set_cons_succ] at o5
      exact ⟨n - (i + 1), by omega, i + 1, by omega, by rw [hsu]; simp, by omega, by omega, o5, x4.seq x5⟩
    · have d3 : decide ((i : Int) < (n : Int)) = false := by simp; omega
      obtain rfl : i = n := by omega
      rw [← hval]
      unfold B7
      simp (disch := omega) only [aD, bN, d3, qB, lF, mG, Nat.zero_add, bY, bD, aB, cP, iU, rZ, c04, aP, oU, dY, e1, MT, Int.toNat_natCast, aJ]
      refine Zk o4 rfl (by simp) fun w5 o5 x5 s5 => ?_
      simp only [List.set_cons_zero, List.set_cons_succ] at o5
      have x35 := x4.seq x5
      refine fin _ _ w5 _ o5 rfl (o2.ext x35 (by omega)) (x02.new x35 hw1) fun w' x => ?_
      rw [hRR]
      refine ⟨_, rfl, ⟨_, rfl, ?_, ZG.sub hat (by omega)⟩, x⟩
      have hst := hs.take' (k := L.length - k) (by omega)
      rw [← List.map_take] at hst
      exact hst.ext x (eI _)
  by_cases hgt : L.length < n
  · have d3 : decide ((L.length : Int) < (n : Int)) = true := by simp; omega
    simp (disch := omega) only [aD, bN, d1, iU, aB, rZ, eD, cJ, Bool.false_eq_true, if_false, cL, dM, d2, c0, aP, oU, d3, aK, aJ]
    exact tail _ (by omega)
  · have d3 : decide ((L.length : Int) < (n : Int)) = false := by simp; omega
    simp (disch := omega) only [aD, bN, d1, iU, aB, rZ, eD, cJ, Bool.false_eq_true, if_false, cL, dM, d2, c0, aP, oU, d3, aJ]
    exact tail _ (by omega)
theorem WL {lo hi lack : Nat} {b : Value} {L : List Bool} {w : World} (h : RB w lo hi b L lack) (hL : L.length ≤ 10000000) (hk : lack ≤ 1000000000) :
    cC pg zX #[b] w (fun r w' => r = .int .i64 ((L.length : Int) - lack) ∧ bZ w w' fN) := by
  refine Uy ?_
  obtain ⟨v, rfl, hs, hat⟩ := h
  obtain ⟨a, c, rfl, hc⟩ := Br hs
  unfold Wd GF
  refine kT fun w1 o1 x1 s1 => ?_
  simp only [Value.cells] at o1
  have c0 := o1.cell (off := 0)
  have c1 := o1.cell (off := 1)
  simp only [List.getElem?_cons_zero, List.getElem?_cons_succ] at c0 c1
  simp (disch := omega) only [aD, iU, mG, Nat.zero_add, aB, cP, rZ, c0, aP, oU, c1, dY, bD, true_and]
  exact x1
end Go.Proofs.Ytoepfjgekpdddaa
namespace Go.Proofs.Ytoepfjgekpdddaa
open Go Go.En Go.Pu
set_option maxRecDepth 4000
set_option linter.unusedSimpArgs false
set_option linter.unusedVariables false
def fL (L : List T3) (s : Int) : Nat := if 0 ≤ s then (match L[s.toNat]? with | some e => e.2.1.toNat | none => 0) else 0
def lU (L : List T3) (s : Int) (x : Nat) : Int := if 0 ≤ s then (match L[s.toNat]? with | some e => e.2.2 + x | none => 0) else 0
theorem W8 {L : List T3} (h : Low L) (s : Int) : fL L s ≤ 20 := by
  unfold fL
  split
  · split
    · rename_i e he
      obtain ⟨n, h1, h2, _⟩ := h _ (List.mem_of_getElem? he)
      rw [h1]; simpa using h2
    · omega
  · omega
theorem VB {log lo hi : Nat} {a : Option Addr} {k c : Nat} {l : List UInt8} {left : Int} {w : World} (h : XZ w lo hi l left) (hlh : lo ≤ hi) (hhi : hi < w.heap.size) (hn : log ≤ 20) (h1 : left ≤ 8 * l.length) (h2 : -100000000 ≤ left) (hl : l.length ≤ 1000000) :
    cC pg Ga #[.agg #[.int .i64 log, .slice a k c], .pointer (some ⟨hi, 0, none⟩)] w (fun r w' => r = .int .i64 (kH ((bS l).take left.toNat) log : Nat) ∧ XZ w' lo hi l (left - log) ∧ bZ w w' (fun y => y = hi)) := by
  refine VW ?_
  unfold W3 I7
  refine kT fun w1 o1 x1 s1 => ?_
  simp only [Value.cells] at o1
  have c0 := o1.cell (off := 0)
  simp only [List.getElem?_cons_zero, List.getElem?_cons_succ] at c0
  simp (disch := omega) only [aD, R1, aB, cP, c0, aP]
  refine (WF (h.ext x1 (fun _ _ _ h => h) hlh) hlh (by omega) h1 (by omega) hl).mono ?_
  rintro r w2 ⟨rfl, b2, x2⟩
  have hlt := lC ((bS l).take left.toNat) log
  have hp : 2 ^ log ≤ 2 ^ 20 := Nat.pow_le_pow_right (by omega) hn
  generalize kH ((bS l).take left.toNat) log = x at *
  simp (disch := omega) only [gN, bD, aB, true_and]
  exact ⟨b2, (x1.mono fun _ _ h => h.elim).seq x2⟩
theorem abL {log base b lo hi : Nat} {L : List T3} {v : Value} {s : Int} {l : List UInt8} {left : Int} {w : World} (ht : Tbl w base b log L v) (hL : Low L) (hlen : L.length ≤ 1000000) (h : XZ w lo hi l left) (hlh : lo ≤ hi) (hhi : hi < w.heap.size) (hb : b ≠ hi) (h1 : left ≤ 8 * l.length) (h2 : -100000000 ≤ left) (hl : l.length ≤ 1000000) :
    cC pg I5 #[v, .int .i64 s, .pointer (some ⟨hi, 0, none⟩)] w (fun r w' => r = .int .i64 (lU L s (kH ((bS l).take left.toNat) (fL L s))) ∧ XZ w' lo hi l (left - fL L s) ∧ bZ w w' (fun y => y = hi)) := by
  refine Wt ?_
  obtain ⟨rfl, hb0, ob⟩ := ht
  unfold X8 Kw
  refine kT fun w1 o1 x1 s1 => ?_
  simp only [Value.cells] at o1
  have c1 := o1.cell (off := 1)
  simp only [List.getElem?_cons_zero, List.getElem?_cons_succ] at c1
  have hbw := h.ext x1 (fun _ _ _ h => h) hlh
  by_cases hs0 : s < 0
  · have d1 : decide (s < 0) = true := by simpa using hs0
    have e1 : fL L s = 0 := by unfold fL; rw [if_neg (by omega)]
    have e2 : ∀ x, lU L s x = 0 := fun x => by unfold lU; rw [if_neg (by omega)]
    rw [e1]
    simp (disch := omega) only [aD, bN, d1, hP, Nat.zero_add, aB, gZ, and_true, true_and, kB, gD, cJ, if_true, aK, dG]
    exact ⟨by rw [e2], by simpa using hbw, x1.mono fun _ _ h => h.elim⟩
  have d1 : decide (s < 0) = false := by simpa using hs0
  obtain ⟨i, rfl⟩ : ∃ i : Nat, s = i := ⟨s.toNat, by omega⟩
  by_cases hge : L.length ≤ i
  · have d2 : decide ((L.length : Int) ≤ (i : Int)) = true := by simp; omega
    have hnone : L[i]? = none := List.getElem?_eq_none hge
    have e1 : fL L i = 0 := by unfold fL; simp [hnone]
    have e2 : ∀ x, lU L i x = 0 := fun x => by unfold lU; simp [hnone]
    rw [e1]
    simp (disch := omega) only [aD, bN, d1, hP, Nat.zero_add, aB, gZ, and_true, true_and, kB, eD, cJ, Bool.false_eq_true, if_false, cL, c1, aP, vK, kU, d2, aK]
    exact ⟨by rw [e2], by simpa using hbw, x1.mono fun _ _ h => h.elim⟩
  have d2 : decide ((L.length : Int) ≤ (i : Int)) = false := by simp; omega
  have hlt : i < L.length := by omega
  have l1 := MP (off := i * 3) (ob.ext x1 (fun h => h)) (by rw [jB]; omega)
  rw [Xo hlt] at l1
  obtain ⟨n, hn, hn2, hb0', hb1⟩ := hL _ (List.getElem_mem hlt)
  have hsome : L[i]? = some L[i] := List.getElem?_eq_getElem hlt
  have e1 : fL L i = n := by unfold fL; simp [hsome, hn]
  have e2 : ∀ x : Nat, lU L i x = L[i].2.2 + x := fun x => by unfold lU; simp [hsome]
  generalize L[i] = e at *
  obtain ⟨e0, en, eb⟩ := e
  simp only at hn hb0' hb1 l1 e2
  subst hn
  rw [e1, e2]
  simp (disch := omega) only [aD, bN, d1, hP, Nat.zero_add, aB, gZ, and_true, true_and, kB, eD, cJ, Bool.false_eq_true, if_false, cL, c1, aP, vK, kU, d2, mK, Int.toNat_natCast, l1, aJ]
  refine PG fun w3 o3 x3 s3 => ?_
  refine MX o3 rfl (by simp [one]) (by simp) fun w4 o4 x4 s4 => ?_
  simp only [cY, List.set_cons_zero, List.set_cons_succ] at o4
  have x14 : bZ w1 w4 fN := x3.new x4 (by omega)
  have od := iO o4
  have k1 := o4.cell (off := 1)
  have k2 := o4.cell (off := 2)
  have k1d := od.cell (off := 1)
  have k2d := od.cell (off := 2)
  simp only [List.getElem?_cons_zero, List.getElem?_cons_succ] at k1 k2 k1d k2d
  simp (disch := omega) only [F7, Nat.zero_add, rO, Result.ok.injEq, Next.value.injEq, and_true, aB, cP, k1d, aP, true_and, k2d]
  have z3 := x3.size
  refine (WF ((hbw.ext x14 (fun _ _ _ h => h) hlh).ext (bZ.dr _ fN) (fun _ _ _ h => h) hlh) hlh (by omega) h1 (by omega) hl).mono ?_
  rintro r w5 ⟨rfl, b5, x5⟩
  have x45 : bZ w4 w5 (fun y => y = hi) := (bZ.dr _ _).seq x5
  have k2e := (o4.ext x45 (by omega)).cell (off := 2)
  simp only [List.getElem?_cons_zero, List.getElem?_cons_succ] at k2e
  have hlt := lC ((bS l).take left.toNat) n
  have hp : 2 ^ n ≤ 2 ^ 20 := Nat.pow_le_pow_right (by omega) hn2
  generalize kH ((bS l).take left.toNat) n = x at *
  simp (disch := omega) only [k2e, aP, gN, bD, aB, bY, true_and]
  exact ⟨b5, ((x1.seq x14).mono fun _ _ h => h.elim).seq x45⟩
end Go.Proofs.Ytoepfjgekpdddaa
namespace Go.Proofs.Ytoepfjgekpdddaa
open Go Go.En Go.Pu
set_option maxRecDepth 4000
set_option linter.unusedSimpArgs false
set_option linter.unusedVariables false
def RT (w : World) (b log : Nat) (L : List T3) (v : Value) : Prop := ∃ cc rest, v = .agg #[.int .i64 log, .slice (some ⟨b, 0, none⟩) L.length cc] ∧ fA w b (fe .i64 L ++ rest)
theorem RT.ext {w w' : World} {b log : Nat} {L : List T3} {v : Value} {M : Nat → Prop} (h : RT w b log L v) (hx : bZ w w' M) (hM : ¬ M b) : RT w' b log L v := by
  obtain ⟨cc, rest, h1, h2⟩ := h
  exact ⟨cc, rest, h1, h2.ext hx hM⟩
theorem V5 {log lo hi lack k cc : Nat} {a : Option Addr} {b : Value} {L : List Bool} {w : World} (h : RB w lo hi b L lack) (hhi : hi ≤ w.heap.size) (hn : log ≤ 20) (hL : L.length ≤ 10000000) (hk : lack ≤ 100000000) :
    cC pg vB #[.agg #[.int .i64 log, .slice a k cc], b] w (fun r w' => ∃ b', r = .tuple #[b', .int .i64 (kH L log : Nat)] ∧ RB w' lo hi b' (L.take (L.length - min log L.length)) (lack + (log - min log L.length)) ∧ bZ w w' fN) := by
  refine Tu ?_
  unfold TO E3
  have hb := h
  obtain ⟨v, rfl, hs, hat⟩ := h
  obtain ⟨a', c', rfl, hc⟩ := Br hs
  refine kT fun w1 o1 x1 s1 => ?_
  refine kT fun w2 o2 x2 s2 => ?_
  refine iM fun w3 o3 x3 s3 => ?_
  simp only [Value.cells] at o1 o2
  have o13 := (o1.ext x2 (fun h => h)).ext x3 (fun h => h)
  have o23 := o2.ext x3 (fun h => h)
  have x03 : bZ w w3 fN := (x1.seq x2).seq x3
  have c0 := o13.cell (off := 0)
  have l1 := fC (off := 0) o23 (by simp)
  simp only [List.getElem?_cons_zero, List.getElem?_cons_succ, List.drop_zero, List.take_succ_cons, List.take_zero] at c0 l1
  simp (disch := omega) only [aD, l1, Ho, aB, cP, c0, aP]
  refine (WK (hb.ext x03 (fun _ _ _ h => h)) (by omega) hL (by omega)).mono ?_
  rintro r w4 ⟨b', rfl, hb4, x4⟩
  have hlt := lC L log
  have hp : 2 ^ log ≤ 2 ^ 20 := Nat.pow_le_pow_right (by omega) hn
  generalize kH L log = x at *
  have hb4' := hb4
  obtain ⟨v4, rfl, hs4, hat4⟩ := hb4
  obtain ⟨a4, c4, rfl, hc4⟩ := Br hs4
  simp (disch := omega) only [vU, wU, aB, gN, bD]
  refine dK (o23.ext x4 (fun h => h)) rfl (by simp [one]) (by simp) fun w5 o5 x5 s5 => ?_
  simp only [cY, List.set_cons_zero, List.set_cons_succ] at o5
  have l5 := fC (off := 0) o5 (by simp)
  simp only [List.drop_zero, List.take_succ_cons, List.take_zero] at l5
  simp (disch := omega) only [l5, aB]
  refine dK ((o3.ext x4 (fun h => h)).ext x5 (by omega)) rfl (by simp [one]) (by simp) fun w6 o6 x6 s6 => ?_
  refine gR o6 (by simp [cY]) ?_
  simp only [cY, List.set_cons_zero, List.set_cons_succ, List.drop_zero, List.take_succ_cons, List.take_zero]
  have z3 := x3.size
  have x46 : bZ w3 w6 (fun y => y = w1.heap.size ∨ y = w2.heap.size) := ((x4.mono fun _ _ h => h.elim).seq (x5.mono fun _ _ h => .inl h)).seq (x6.mono fun _ _ h => .inr h)
  have x06 : bZ w w6 fN := x03.trans x46 fun b hb h => by omega
  refine ⟨_, rfl, ?_, x06⟩
  exact ⟨_, rfl, hs4.ext ((x5.mono fun _ _ h => .inl h : bZ w4 w5 (fun y => y = w1.heap.size ∨ y = w2.heap.size)).seq (x6.mono fun _ _ h => .inr h)) (hat4 _ fun b hb hh => by omega), hat4⟩
theorem Y1 {log b lo hi lack : Nat} {v bv : Value} {L : List T3} {s : Int} {B : List Bool} {w : World} (ht : RT w b log L v) (hL : Low L) (hlen : L.length ≤ 1000000) (h : RB w lo hi bv B lack) (hhi : hi ≤ w.heap.size) (hB : B.length ≤ 10000000) (hk : lack ≤ 100000000) :
    cC pg D1 #[v, .int .i64 s, bv] w (fun r w' => ∃ b', r = .tuple #[b', .int .i64 (lU L s (kH B (fL L s)))] ∧ RB w' lo hi b' (B.take (B.length - min (fL L s) B.length)) (lack + (fL L s - min (fL L s) B.length)) ∧ bZ w w' fN) := by
  refine U6 ?_
  have htt := ht
  obtain ⟨cc, rest, rfl, ob⟩ := ht
  have hb := h
  obtain ⟨v, rfl, hs, hat⟩ := h
  obtain ⟨a', c', rfl, hc⟩ := Br hs
  unfold VR Gq
  refine kT fun w1 o1 x1 s1 => ?_
  refine kT fun w2 o2 x2 s2 => ?_
  refine iM fun w3 o3 x3 s3 => ?_
  simp only [Value.cells] at o1 o2
  have o13 := (o1.ext x2 (fun h => h)).ext x3 (fun h => h)
  have o23 := o2.ext x3 (fun h => h)
  have x03 : bZ w w3 fN := (x1.seq x2).seq x3
  have c1 := o13.cell (off := 1)
  have l1 := fC (off := 0) o23 (by simp)
  simp only [List.getElem?_cons_zero, List.getElem?_cons_succ, List.drop_zero, List.take_succ_cons, List.take_zero] at c1 l1
  have hlb := ob.lt
  have bad : fL L s = 0 → (∀ x, lU L s x = 0) → ∀ w6, bZ w3 w6 (fun y => y = w2.heap.size) → ∃ b', Value.tuple #[.agg #[.slice a' B.length c', .int .i64 lack], .int .i64 0] = Value.tuple #[b', .int .i64 (lU L s (kH B (fL L s)))] ∧ RB w6 lo hi b' (B.take (B.length - min (fL L s) B.length)) (lack + (fL L s - min (fL L s) B.length)) ∧ bZ w w6 fN := by
    intro e1 e2 w6 x6
    have x06 : bZ w w6 fN := x03.new x6 (by omega)
    refine ⟨_, by rw [e2], ⟨_, ?_, ?_, hat⟩, x06⟩
    · rw [e1]; simp
    · have : B.take (B.length - min (fL L s) B.length) = B := List.take_of_length_le (by omega)
      rw [this]
      exact hs.ext x06 (eI _)
  by_cases hs0 : s < 0
  · have d1 : decide (s < 0) = true := by simpa using hs0
    have e1 : fL L s = 0 := by unfold fL; rw [if_neg (by omega)]
    have e2 : ∀ x, lU L s x = 0 := fun x => by unfold lU; rw [if_neg (by omega)]
    simp (disch := omega) only [aD, bN, d1, dX, Nat.zero_add, aB, gZ, and_true, Result.ok.injEq, Next.value.injEq, true_and, dQ, gD, cJ, if_true, aK, dG, l1]
    refine dK o3 rfl (by simp [one]) (by simp) fun w6 o6 x6 s6 => ?_
    refine gR o6 (by simp [cY]) ?_
    simp only [cY, List.set_cons_zero, List.set_cons_succ, List.drop_zero, List.take_succ_cons, List.take_zero]
    exact bad e1 e2 w6 x6
  have d1 : decide (s < 0) = false := by simpa using hs0
  obtain ⟨i, rfl⟩ : ∃ i : Nat, s = i := ⟨s.toNat, by omega⟩
  by_cases hge : L.length ≤ i
  · have d2 : decide ((L.length : Int) ≤ (i : Int)) = true := by simp; omega
    have hnone : L[i]? = none := List.getElem?_eq_none hge
    have e1 : fL L i = 0 := by unfold fL; simp [hnone]
    have e2 : ∀ x, lU L i x = 0 := fun x => by unfold lU; simp [hnone]
    simp (disch := omega) only [aD, bN, d1, dX, Nat.zero_add, aB, gZ, and_true, Result.ok.injEq, Next.value.injEq, true_and, dQ, eD, cJ, Bool.false_eq_true, if_false, cL, c1, aP, yD, kU, d2, l1, aK]
    refine dK o3 rfl (by simp [one]) (by simp) fun w6 o6 x6 s6 => ?_
    refine gR o6 (by simp [cY]) ?_
    simp only [cY, List.set_cons_zero, List.set_cons_succ, List.drop_zero, List.take_succ_cons, List.take_zero]
    exact bad e1 e2 w6 x6
  clear bad
  have d2 : decide ((L.length : Int) ≤ (i : Int)) = false := by simp; omega
  have hlt : i < L.length := by omega
  obtain ⟨n, hn, hn2, hb0', hb1⟩ := hL _ (List.getElem_mem hlt)
  have hsome : L[i]? = some L[i] := List.getElem?_eq_getElem hlt
  have e1 : fL L i = n := by unfold fL; simp [hsome, hn]
  have e2 : ∀ x : Nat, lU L i x = L[i].2.2 + x := fun x => by unfold lU; simp [hsome]
  obtain ⟨q1, q2, q3⟩ := agO (k := .i64) hsome
  have hq : i * 3 + 2 < (fe .i64 L).length := by rw [jB]; omega
  rw [← List.getElem?_append_left (l₂ := rest) (by omega)] at q1 q2 q3
  generalize L[i] = e at *
  obtain ⟨e0, en, eb⟩ := e
  simp only at hn hb0' hb1 q1 q2 q3 e2
  subst hn
  rw [e1, e2]
  have ob3 := ob.ext x03 (fun h => h)
  have od := iO o13
  have o2d := iO o23
  have obd := iO ob3
  have c1d := od.cell (off := 1)
  have l1d := fC (off := 0) o2d (by simp)
  have r2d := obd.cell (off := i * 3 + 1)
  have r2 := ob3.cell (off := i * 3 + 1)
  rw [q2] at r2 r2d
  simp only [List.getElem?_cons_zero, List.getElem?_cons_succ, List.drop_zero, List.take_succ_cons, List.take_zero] at c1d l1d
  simp (disch := omega) only [aD, bN, d1, dX, Nat.zero_add, aB, gZ, and_true, Result.ok.injEq, Next.value.injEq, true_and, dQ, eD, cJ, Bool.false_eq_true, if_false, cL, c1, aP, yD, kU, d2, l1, l1d, c1d, fH, Int.toNat_natCast, mH, cP, r2d, aJ]
  refine (WK ((hb.ext x03 (fun _ _ _ h => h)).ext (bZ.dr _ fN) (fun _ _ _ h => h)) (by omega) hB (by omega)).mono ?_
  rintro r w4 ⟨b', rfl, hb4, x4⟩
  have hlt := lC B n
  have hp : 2 ^ n ≤ 2 ^ 20 := Nat.pow_le_pow_right (by omega) hn2
  generalize kH B n = x at *
  obtain ⟨v4, rfl, hs4, hat4⟩ := hb4
  obtain ⟨a4, c4, rfl, hc4⟩ := Br hs4
  simp (disch := omega) only [vU, wU, Result.ok.injEq, Next.value.injEq, and_true, aB, gN, bD, true_and]
  refine dK (o2d.ext x4 (fun h => h)) rfl (by simp [one]) (by simp) fun w5 o5 x5 s5 => ?_
  simp only [cY, List.set_cons_zero, List.set_cons_succ] at o5
  have z3 := x3.size
  have z4 : w3.heap.size ≤ w4.heap.size := x4.size
  have x35 : bZ w3 w5 (fun y => y = w1.heap.size) := (((bZ.dr w3 fN).seq x4).mono fun _ _ h => h.elim).seq x5
  have o15 := o13.ext x35 (by omega)
  have ob5 := ob3.ext x35 (by omega)
  have o5d := iO o5
  have l5 := fC (off := 0) o5d (by simp)
  have c15 := (iO o15).cell (off := 1)
  have r3 := (iO ob5).cell (off := i * 3 + 2)
  rw [q3] at r3
  simp only [List.getElem?_cons_zero, List.getElem?_cons_succ, List.drop_zero, List.take_succ_cons, List.take_zero] at l5 c15
  simp (disch := omega) only [l5, c15, aP, aB, fH, Int.toNat_natCast, Nat.zero_add, Result.ok.injEq, Next.value.injEq, and_true, tW, true_and, cP, r3, bY, bD]
  refine dK (iO (o3.ext x35 (by omega))) rfl (by simp [one]) (by simp) fun w6 o6 x6 s6 => ?_
  simp only [cY, List.set_cons_zero, List.set_cons_succ] at o6
  have x56 : bZ w5 w6 (fun y => y = w2.heap.size) := (bZ.dr _ _).seq x6
  have c16 := (o15.ext x56 (by omega)).cell (off := 1)
  have r36 := (ob5.ext x56 (by omega)).cell (off := i * 3 + 2)
  rw [q3] at r36
  simp only [List.getElem?_cons_zero, List.getElem?_cons_succ] at c16
  simp (disch := omega) only [r36, aP, c16, and_true, true_and]
  refine gR o6 (by simp) ?_
  simp only [List.drop_zero, List.take_succ_cons, List.take_zero]
  have x36 : bZ w3 w6 (fun y => y = w1.heap.size ∨ y = w2.heap.size) := (x35.mono fun _ _ h => .inl h).seq (x56.mono fun _ _ h => .inr h)
  have x06 : bZ w w6 fN := x03.trans x36 fun b hb h => by omega
  refine ⟨_, rfl, ⟨_, rfl, hs4.ext ((x5.mono fun _ _ h => .inl h : bZ w4 w5 (fun y => y = w1.heap.size ∨ y = w2.heap.size)).seq (x56.mono fun _ _ h => .inr h)) (hat4 _ fun b hb hh => by omega), hat4⟩, x06⟩
end Go.Proofs.Ytoepfjgekpdddaa
namespace Go.Pu
open Go Go.En
set_option linter.unusedVariables false
def jG (L : List Bool) (st n : Nat) : Nat := qC ((L.drop st).take n)
theorem zQ (L : List Bool) (st n : Nat) : jG L st n < 2 ^ n := by
  have h := RA ((L.drop st).take n)
  have : ((L.drop st).take n).length ≤ n := by rw [List.length_take]; omega
  exact Nat.lt_of_lt_of_le h (Nat.pow_le_pow_right (by omega) this)
def P0 (L : List Bool) (st left : Nat) : Option (Nat × Nat) :=
  let n := bl (left + 1)
  if L.length < st + (n - 1) then none
  else
    let low := jG L st (n - 1)
    let free := 2 ^ n - 2 - left
    if low < free then some (low, st + (n - 1))
    else if L.length < st + (n - 1) + 1 then none
    else if jG L (st + (n - 1)) 1 = 0 then some (low, st + (n - 1) + 1)
    else some (low + 2 ^ (n - 1) - free, st + (n - 1) + 1)
def Wp (L : List Bool) : Nat → Nat → Option (Nat × Nat)
  | 0, _ => none
  | f + 1, st => if L.length < st + 2 then none else if jG L st 2 < 3 then some (jG L st 2, st + 2) else match Wp L f (st + 2) with
    | none => none
    | some (k, st') => some (3 + k, st')
def RM (L : List Bool) (sym : Nat) : Nat → Nat → Nat → List Int → Except Int (List Int × Nat)
  | 0, _, _, _ => .error 10
  | f + 1, st, left, ps => if left = 0 then .ok (ps, st) else match P0 L st left with
    | none => .error 10
    | some (v, st1) =>
      if v = 1 then match Wp L (L.length + 1) st1 with
        | none => .error 10
        | some (k, st2) => if sym < ps.length + 1 + k then .error 11 else RM L sym f st2 left (ps ++ 0 :: List.replicate k 0)
      else if sym < ps.length + 1 then .error 11 else RM L sym f st1 (left - (eM ((v : Int) - 1)).toNat) (ps ++ [(v : Int) - 1])
theorem Vl {L : List Bool} {st left v st1 : Nat} (h : P0 L st left = some (v, st1)) (h0 : 0 < left) : st < st1 ∧ st1 ≤ L.length ∧ v ≤ left + 1 := by
  have hb1 := Hb (k := left + 1) (by omega)
  have hb2 := Q5 (k := left + 1) (by omega)
  have hb3 := MM (left + 1)
  have hn : 2 ≤ bl (left + 1) := by
    rcases Nat.lt_or_ge (bl (left + 1)) 2 with h | h
    · have : bl (left + 1) = 1 := by omega
      rw [this] at hb3; omega
    · exact h
  unfold P0 at h
  simp only at h
  generalize bl (left + 1) = n at *
  obtain ⟨m, rfl⟩ : ∃ m, n = m + 1 := ⟨n - 1, by omega⟩
  rw [Nat.add_sub_cancel] at *
  rw [Nat.pow_succ] at *
  have hl := zQ L st m
  generalize 2 ^ m = q at *
  generalize jG L st m = low at *
  split at h
  · cases h
  · split at h
    · obtain ⟨rfl, rfl⟩ := Prod.mk.inj (Option.some.inj h); omega
    · split at h
      · cases h
      · split at h
        · obtain ⟨rfl, rfl⟩ := Prod.mk.inj (Option.some.inj h); omega
        · obtain ⟨rfl, rfl⟩ := Prod.mk.inj (Option.some.inj h); omega
theorem XS {L : List Bool} : ∀ {f st k st1 : Nat}, Wp L f st = some (k, st1) → st < st1 ∧ st1 ≤ L.length ∧ 2 * k ≤ 3 * (st1 - st)
  | 0, st, k, st1, h => by cases h
  | f + 1, st, k, st1, h => by
    rw [Wp] at h
    split at h
    · cases h
    · have hl := zQ L st 2
      split at h
      · obtain ⟨rfl, rfl⟩ := Prod.mk.inj (Option.some.inj h); omega
      · cases hn : Wp L f (st + 2) with
        | none => rw [hn] at h; cases h
        | some x =>
          obtain ⟨k', st'⟩ := x
          rw [hn] at h
          obtain ⟨rfl, rfl⟩ := Prod.mk.inj (Option.some.inj h)
          have := XS hn
          omega
def uY (L : List Bool) (most : Int) (sym : Nat) : Except Int (Nat × List Int × Nat) :=
  if L.length < 4 then .error 10
  else
    let log := jG L 0 4 + 5
    if most < log ∨ 15 < log then .error 12
    else match RM L sym (L.length + 1) 4 (2 ^ log) [] with
      | .error e => .error e
      | .ok (ps, st) => .ok (log, ps, (st + 7) / 8)
theorem VL : ∀ k : Nat, yK (List.replicate k 0) = 0
  | 0 => rfl
  | k + 1 => by rw [List.replicate_succ, Bt, VL k]; rfl
theorem So {L : List Bool} {sym : Nat} {out : List Int} {stE : Nat} {tot : Int} : ∀ {f st left : Nat} {ps : List Int}, RM L sym f st left ps = .ok (out, stE) → (∀ p ∈ ps, -1 ≤ p) → yK ps + left = tot →
    (left = 0 → ps.length ≤ sym ∧ ps.getLast? ≠ some 0 ∧ 1 ≤ ps.length) → (∀ p ∈ out, -1 ≤ p) ∧ yK out = tot ∧ out.length ≤ sym ∧ out.getLast? ≠ some 0 ∧ 1 ≤ out.length
  | 0, st, left, ps, h, _, _, _ => by cases h
  | f + 1, st, left, ps, h, hlo, hs, hz => by
    rw [RM] at h
    split at h
    · rename_i h0
      cases h
      obtain ⟨z1, z2, z3⟩ := hz h0
      exact ⟨hlo, by omega, z1, z2, z3⟩
    · rename_i h0
      cases hv : P0 L st left with
      | none => rw [hv] at h; cases h
      | some x =>
        obtain ⟨v, st1⟩ := x
        obtain ⟨v1, v2, v3⟩ := Vl hv (by omega)
        rw [hv] at h
        simp only at h
        split at h
        · rename_i hv1
          cases hn : Wp L (L.length + 1) st1 with
          | none => rw [hn] at h; cases h
          | some y =>
            obtain ⟨k, st2⟩ := y
            rw [hn] at h
            simp only at h
            split at h
            · cases h
            · refine So h ?_ ?_ (fun h => absurd h h0)
              · intro p hp
                rcases List.mem_append.1 hp with hp | hp
                · exact hlo p hp
                · rcases List.mem_cons.1 hp with rfl | hp
                  · omega
                  · rw [List.eq_of_mem_replicate hp]; omega
              · rw [Ld, Bt]
                have e := VL k
                rw [e]
                have : eM 0 = 0 := rfl
                omega
        · rename_i hv1
          split at h
          · cases h
          · have hp1 : -1 ≤ (v : Int) - 1 := by omega
            have hpn := kM hp1
            have hpl : eM ((v : Int) - 1) ≤ left := by unfold eM; split <;> omega
            refine So h ?_ ?_ ?_
            · intro p hp
              rcases List.mem_append.1 hp with hp | hp
              · exact hlo p hp
              · rw [List.mem_singleton.1 hp]; exact hp1
            · rw [Ld, Bt]
              have e : yK [] = 0 := rfl
              rw [e]; omega
            · intro _
              rw [List.length_append, List.length_singleton, List.getLast?_concat]
              refine ⟨by omega, ?_, by omega⟩
              intro e
              have := Option.some.inj e
              omega
end Go.Pu
namespace Go.En
open Go
set_option linter.unusedVariables false
set_option linter.unusedSimpArgs false
section
variable {P : Program} {w : World} {t e : TypeId}
theorem Yl {S : Nat → Prop} {sz n m : Nat} {i : TypeInfo} {z : Value} {ty t2 : TypeId} {k : IntKind} (hu : P.underlying t = some (.slice e)) (hu2 : P.underlying t2 = some (.int k)) (hi : P.info? e = some i) (hsz : i.size = sz) (hz : i.zero = some z) (hzs : z.cells.size = sz)
    {v : Value} {l : List Value} (h : OSS w S sz v n l) (hsz0 : 0 < sz) (hone : ∀ y ∈ z.cells.toList, one y = true) (hb : ∀ b, w.heap.size ≤ b → S b)
    (hn : n + m ≤ 9223372036854775807) (hbytes : (n + m) * i.bytes ≤ 140737488355328) (hmb : m * i.bytes ≤ 140737488355328)
    {K : Value → World → Prop} (hk : ∀ v' w', OSS w' S sz v' (n + m) (l ++ (Builtin.zeroCells z.cells m).toList) → bZ w w' S → K v' w') : aD P (iJ .append #[t, t2] ty [v, .int k m]) w K := by
  generalize hnews : (Builtin.zeroCells z.cells m).toList = news at *
  have hnl : news.length = m * sz := by rw [← hnews, Array.length_toList, lL, hzs]
  have hone' : ∀ y ∈ news, one y = true := by
    intro y hy
    rw [← hnews] at hy
    simp only [Builtin.zeroCells, Array.toList_map, List.mem_map] at hy
    obtain ⟨j, _, rfl⟩ := hy
    refine hone _ ?_
    have : j % z.cells.size < z.cells.size := Nat.mod_lt _ (by omega)
    rw [getElem!_pos z.cells _ this]
    exact Array.getElem_mem_toList this
  have hmw : IntKind.i64.wrap ((m : Nat) : Int) = (m : Int) := bD (by omega) (by omega)
  have hm0 : ¬ ((m : Int) < 0) := by omega
  have hmx : ¬ ((m : Int) * (i.bytes : Nat) > 2 ^ 48) := by
    have : (m : Int) * (i.bytes : Nat) = ((m * i.bytes : Nat) : Int) := by simp
    rw [this]; omega
  have has : ∀ w, (asInt (.int k m)).run P w = .ok (m : Int) w := fun w => rfl
  have hz' : ∀ w, (zeroValue e).run P w = .ok z w := fun w => by simp [zeroValue, typeInfo, hi, hz]
  have hnw : ∀ w, (if m * sz = 0 then pure #[] else do pure (Builtin.zeroCells (← zeroValue e).cells m) : Sem (Array Value)).run P w = .ok news.toArray w := fun w => by
    by_cases h0 : m * sz = 0
    · rw [if_pos h0, Sem.run_pure]
      have : news = [] := List.length_eq_zero_iff.1 (by omega)
      rw [this]
    · rw [if_neg h0, Sem.run_bind, hz', Result.andThen_ok, Sem.run_pure, ← hnews, Array.toArray_toList]
  have hmax : IntKind.i64.max = 9223372036854775807 := by decide
  have hnot : ¬ (((n + m : Nat) : Int) > IntKind.i64.max) := by rw [hmax]; omega
  have hlen := h.1
  rcases h.2 with ⟨rfl, rfl⟩ | ⟨b, c, rest, rfl, h2, h3, h4, h5⟩
  · have hl0 : l = [] := List.length_eq_zero_iff.1 (by omega)
    subst hl0
    by_cases hm : m = 0
    · subst hm
      have hn0 : news = [] := List.length_eq_zero_iff.1 (by omega)
      subst hn0
      have : (iJ .append #[t, t2] ty [.slice none 0 0, .int k (0 : Nat)]).run P w = .ok (.value (.slice none 0 0)) w := by
        unfold iJ builtin
        simp only [Builtin.append_, List.getElem?_toArray, List.getElem?_cons_zero, List.getElem?_cons_succ]
        simp only [underlying, typeInfo, Sem.run_bind, run_program, Result.andThen_ok, hu, hu2, hi, Sem.run_pure, gV hi, hsz, has, hmw, hm0, hmx, if_true, if_false, Int.toNat_natCast, Bool.not_true, Bool.false_eq_true, Nat.le_refl, Nat.add_zero, hnw]
      unfold aD
      rw [this]
      exact hk _ _ ⟨by simp, .inl ⟨rfl, by omega⟩⟩ (bZ.refl _ _)
    · have hfit := growslice_fits (need := 0 + m) (old := 0) (bytes := i.bytes) (by omega) (by omega)
      have hfit' : ¬ (Builtin.nextslicecap (0 + m) 0 * i.bytes > 2 ^ 48) := by omega
      have hle : ¬ (0 + m ≤ 0) := by omega
      have hq : (Question.appendCap (0 + m) 0 e).forced = false := rfl
      obtain ⟨r, hr⟩ : ∃ r, (Question.appendCap (0 + m) 0 e).cut (w.tape w.drawn (.appendCap (0 + m) 0 e)) = m + r :=
        ⟨(w.tape w.drawn (.appendCap (0 + m) 0 e)) % (2 ^ 63 - (0 + m)), by simp only [Question.cut]; omega⟩
      have : (iJ .append #[t, t2] ty [.slice none 0 0, .int k m]).run P w = .ok (.value (.slice (some ⟨w.heap.size, 0, none⟩) (0 + m) (m + r))) ((dr w).alloc (.cells (news ++ (Builtin.zeroCells z.cells (m + r - (0 + m))).toList).toArray e)) := by
        unfold iJ builtin
        simp only [Builtin.append_, List.getElem?_toArray, List.getElem?_cons_zero, List.getElem?_cons_succ]
        simp only [underlying, typeInfo, Sem.run_bind, run_program, Result.andThen_ok, hu, hu2, hi, Sem.run_pure, gV hi, hsz, has, hmw, hm0, hmx, if_true, if_false, Int.toNat_natCast, Bool.not_true, Bool.false_eq_true, hle, hnot, false_and, hfit', run_choose, hq, hr, run_askRoom]
        change ((Sem.run P _ (dr w)).andThen _).andThen _ = _
        simp only [Sem.run_bind, hnw, run_firstCells_none, Result.andThen_ok, hz', Sem.run_pure, newRow, run_newObj]
        have e1 : (#[] ++ news.toArray ++ Builtin.zeroCells z.cells (m + r - (0 + m)) : Array Value) = (news ++ (Builtin.zeroCells z.cells (m + r - (0 + m))).toList).toArray := by
          apply Array.ext'; simp
        rw [e1]
        rfl
      unfold aD
      rw [this]
      refine hk _ _ ⟨by simp only [List.nil_append]; rw [hnl, Nat.zero_add], .inr ⟨w.heap.size, m + r, (Builtin.zeroCells z.cells (m + r - (0 + m))).toList, by rw [Nat.zero_add], hb _ (Nat.le_refl _), fA.alloc (dr w) _ _, ?_, by omega⟩⟩ ((bZ.dr w _).seq (bZ.alloc _ _ _))
      simp only [List.nil_append, List.length_append, Array.length_toList, lL, hzs, hnl]
      rw [show m + r - (0 + m) = r from by omega, Nat.add_mul]
  · by_cases hc : n + m ≤ c
    · have hroom : news.length ≤ rest.length := by
        rw [List.length_append, hlen] at h4
        have : (n + m) * sz ≤ c * sz := Nat.mul_le_mul_right _ hc
        rw [Nat.add_mul] at this; omega
      obtain ⟨w', s1, s2, s3, s4, _⟩ := Fq (P := P) (M := S) h2 news w (n * sz) 0 (l ++ rest) h3 (by rw [List.length_append, hlen]; omega) hone'
      have : (iJ .append #[t, t2] ty [.slice (some ⟨b, 0, none⟩) n c, .int k m]).run P w = .ok (.value (.slice (some ⟨b, 0, none⟩) (n + m) c)) w' := by
        unfold iJ builtin
        simp only [Builtin.append_, List.getElem?_toArray, List.getElem?_cons_zero, List.getElem?_cons_succ]
        simp only [underlying, typeInfo, Sem.run_bind, run_program, Result.andThen_ok, hu, hu2, hi, Sem.run_pure, gV hi, hsz, has, hmw, hm0, hmx, if_true, if_false, Int.toNat_natCast, Bool.not_true, Bool.false_eq_true, hc, hnw, EL, Nat.zero_add, s1]
      unfold aD
      rw [this]
      rw [Nat.add_zero, ← hlen, MU _ _ _ hroom] at s2
      refine hk _ _ ⟨by rw [List.length_append, hlen, hnl, Nat.add_mul], .inr ⟨b, c, rest.drop news.length, rfl, h2, s2, ?_, hc⟩⟩ s3
      rw [← h4]; simp; omega
    · have hfit := growslice_fits (need := n + m) (old := c) (bytes := i.bytes) (by omega) hbytes
      have hfit' : ¬ (Builtin.nextslicecap (n + m) c * i.bytes > 2 ^ 48) := by omega
      have hq : (Question.appendCap (n + m) c e).forced = false := rfl
      obtain ⟨r, hr⟩ : ∃ r, (Question.appendCap (n + m) c e).cut (w.tape w.drawn (.appendCap (n + m) c e)) = n + m + r :=
        ⟨(w.tape w.drawn (.appendCap (n + m) c e)) % (2 ^ 63 - (n + m)), by simp only [Question.cut]⟩
      have hold : Cl (dr w) sz (.slice (some ⟨b, 0, none⟩) n c) n l := ⟨_, _, rfl, hlen, fun _ => ⟨b, 0, rfl, fun i hi => by
        show w.cell? _ = _
        rw [h3.cell, Nat.zero_add, List.getElem?_append_left hi]⟩⟩
      have : (iJ .append #[t, t2] ty [.slice (some ⟨b, 0, none⟩) n c, .int k m]).run P w = .ok (.value (.slice (some ⟨w.heap.size, 0, none⟩) (n + m) (n + m + r))) ((dr w).alloc (.cells (l ++ news ++ (Builtin.zeroCells z.cells (n + m + r - (n + m))).toList).toArray e)) := by
        have hfo := vE (P := P) hold
        unfold iJ builtin
        simp only [Builtin.append_, List.getElem?_toArray, List.getElem?_cons_zero, List.getElem?_cons_succ]
        simp only [underlying, typeInfo, Sem.run_bind, run_program, Result.andThen_ok, hu, hu2, hi, Sem.run_pure, gV hi, hsz, has, hmw, hm0, hmx, if_true, if_false, Int.toNat_natCast, Bool.not_true, Bool.false_eq_true, hc, hnot, false_and, hfit', run_choose, hq, hr, run_askRoom]
        change ((Sem.run P _ (dr w)).andThen _).andThen _ = _
        simp only [Sem.run_bind, hnw, hfo, Result.andThen_ok, hz', Sem.run_pure, newRow, run_newObj]
        have e1 : (l.toArray ++ news.toArray ++ Builtin.zeroCells z.cells (n + m + r - (n + m)) : Array Value) = (l ++ news ++ (Builtin.zeroCells z.cells (n + m + r - (n + m))).toList).toArray := by
          apply Array.ext'; simp
        rw [e1]
        rfl
      unfold aD
      rw [this]
      refine hk _ _ ⟨by rw [List.length_append, hlen, hnl, Nat.add_mul], .inr ⟨w.heap.size, n + m + r, _, rfl, hb _ (Nat.le_refl _), fA.alloc (dr w) _ _, ?_, by omega⟩⟩ ((bZ.dr w _).seq (bZ.alloc _ _ _))
      simp only [List.length_append, Array.length_toList, lL, hzs, hnl, hlen]
      rw [show n + m + r - (n + m) = r from by omega, Nat.add_mul, Nat.add_mul]
end
end Go.En
namespace Go.Proofs.Ytoepfjgekpdddaa
open Go Go.En Go.Pu
set_option maxRecDepth 4000
set_option linter.unusedSimpArgs false
set_option linter.unusedVariables false
theorem agD {y : Nat} (h : y ≠ 0) : bl y = bl (y / 2) + 1 := by
  by_cases h2 : y / 2 = 0
  · obtain rfl : y = 1 := by omega
    decide
  · have a := Q5 h2
    have b := MM (y / 2)
    have c := Hb h2
    obtain ⟨m, hm⟩ : ∃ m, bl (y / 2) = m + 1 := ⟨bl (y / 2) - 1, by omega⟩
    rw [hm, Nat.add_sub_cancel] at a
    rw [hm] at b ⊢
    refine agZ ?_ ?_
    · rw [Nat.pow_succ]; omega
    · rw [Nat.pow_succ]; omega
theorem afS {x : Nat} (hx : x < 2 ^ 40) (w : World) : cC pg Cg #[.int .i64 x] w (fun r w' => r = .int .i64 (bl x : Nat) ∧ w' = w) := by
  refine Tl ?_
  unfold T2 Fy Ei AB EQ FP
  have hb : bl x ≤ 40 := lR hx
  refine cV.rule (fun m (t : Value × Value) w' => ∃ n : Nat, t = (.int .i64 m, .int .i64 n) ∧ bl m + n = bl x ∧ m ≤ x ∧ w' = w) x ⟨0, rfl, rfl, Nat.le_refl _, rfl⟩ ?_
  rintro m t w1 ⟨n, rfl, hn, hmx, rfl⟩
  unfold Ax
  by_cases h0 : m = 0
  · subst h0
    have d1 : decide ((0 : Int) < ((0 : Nat) : Int)) = false := rfl
    unfold Aq
    have : n = bl x := by rw [← hn]; simp [afV]
    subst this
    simp (disch := omega) only [aD, dM, d1, kX, bY, bD, aB, true_and, and_true, aJ]
  · have d1 : decide ((0 : Int) < (m : Int)) = true := by simp; omega
    have e1 : (m : Int).tdiv 2 = ((m / 2 : Nat) : Int) := by rw [Int.tdiv_eq_ediv_of_nonneg (by omega)]; omega
    have hh := agD h0
    simp (disch := omega) only [aD, dM, d1, kX, e1, bD, bY, aB, and_true, aK]
    exact ⟨m / 2, by omega, n + 1, rfl, by omega, by omega⟩
theorem LX {v : Value} {L : List Bool} {st n : Nat} {w : World} (hs : Bl w v L) (hn : n ≤ 32) (hst : st ≤ L.length) (hl : L.length ≤ 10000000) :
    cC pg oP #[.agg #[v, .int .i64 st], .int .i64 n] w (fun r w' => ((L.length < st + n ∧ r = .tuple #[.agg #[v, .int .i64 st], .int .u64 0, .int .i64 10]) ∨
      (st + n ≤ L.length ∧ r = .tuple #[.agg #[v, .int .i64 (st + n : Nat)], .int .u64 (jG L st n : Nat), .int .i64 0])) ∧ bZ w w' fN) := by
  refine Uf ?_
  obtain ⟨a, c, rfl, hc⟩ := Br hs
  unfold VJ Hu
  refine kT fun w1 o1 x1 s1 => ?_
  refine sF fun w2 o2 x2 s2 => ?_
  simp only [Value.cells] at o1
  have o1 := o1.ext x2 (fun h => h)
  have c0 := o1.cell (off := 0)
  have c1 := o1.cell (off := 1)
  have l1 := eU (off := 0) o1 (by simp)
  simp only [List.getElem?_cons_zero, List.getElem?_cons_succ, List.drop_zero, List.take_succ_cons, List.take_zero] at c0 c1 l1
  have x02 : bZ w w2 fN := x1.seq x2
  have d1 : decide ((n : Int) < 0) = false := by simp
  have d2 : decide ((32 : Int) < (n : Int)) = false := by simp; omega
  by_cases hsh : L.length < st + n
  · have d3 : decide ((L.length : Int) - (st : Int) < (n : Int)) = true := by simp; omega
    simp (disch := omega) only [aD, bN, d1, Ar, oK, Nat.zero_add, aB, cP, rZ, eD, cJ, Bool.false_eq_true, if_false, cL, dM, d2, l1, c0, aP, oU, c1, dY, bD, d3, bY, aK, aJ]
    refine cS o2 rfl (by simp [one]) (by simp) fun w3 o3 x3 s3 => ?_
    refine jA o3 (by simp [cY]) ?_
    simp only [cY, List.set_cons_zero, List.set_cons_succ, List.drop_zero, List.take_succ_cons, List.take_zero]
    exact ⟨.inl ⟨hsh, by trivial⟩, x02.new x3 (by omega)⟩
  · have d3 : decide ((L.length : Int) - (st : Int) < (n : Int)) = false := by simp; omega
    have e1 : (st : Int) + (n : Int) = ((st + n : Nat) : Int) := by omega
    have hs2 := (hs.ext x02 (eI _)).drop' (k := st) (by omega)
    rw [← List.map_drop] at hs2
    have hs3 := aeR hs2 (k := n) (by omega)
    rw [← List.map_take] at hs3
    have e2 : st + n - st = n := by omega
    simp (disch := omega) only [aD, bN, d1, Ar, oK, Nat.zero_add, aB, cP, rZ, eD, cJ, Bool.false_eq_true, if_false, cL, dM, d2, c0, aP, oU, c1, dY, bD, d3, bY, e1, Uw, Int.toNat_natCast, e2, aJ]
    refine (T9 hs3 (by rw [List.length_take]; omega)).mono ?_
    rintro r w3 ⟨rfl, rfl⟩
    simp (disch := omega) only [c1, aP, aB, bY, e1, bD]
    refine pH o1 rfl (by simp) fun w4 o4 x4 s4 => ?_
    simp only [List.set_cons_zero, List.set_cons_succ] at o4
    have l4 := eU (off := 0) o4 (by simp)
    simp only [List.drop_zero, List.take_succ_cons, List.take_zero] at l4
    simp (disch := omega) only [l4, aB]
    refine cS (o2.ext x4 (by omega)) rfl (by simp [one]) (by simp) fun w5 o5 x5 s5 => ?_
    refine jA o5 (by simp [cY]) ?_
    simp only [cY, List.set_cons_zero, List.set_cons_succ, List.drop_zero, List.take_succ_cons, List.take_zero]
    exact ⟨.inr ⟨by omega, by trivial⟩, (x02.new x4 (by omega)).new x5 (by omega)⟩
theorem aaT {v : Value} {st : Nat} {w : World} (hst : st ≤ 1000000000) : cC pg DU #[.agg #[v, .int .i64 st]] w (fun r w' => r = .int .i64 (((st + 7) / 8 : Nat)) ∧ bZ w w' fN) := by
  refine Ve ?_
  unfold We GK
  refine kT fun w1 o1 x1 s1 => ?_
  simp only [Value.cells] at o1
  have c1 := o1.cell (off := 1)
  simp only [List.getElem?_cons_zero, List.getElem?_cons_succ] at c1
  have e1 : ((st : Int) + 7).tdiv 8 = (((st + 7) / 8 : Nat) : Int) := by rw [Int.tdiv_eq_ediv_of_nonneg (by omega)]; omega
  simp (disch := omega) only [aD, oK, Nat.zero_add, aB, cP, c1, aP, bY, bD, kX, e1, true_and]
  exact x1
end Go.Proofs.Ytoepfjgekpdddaa
