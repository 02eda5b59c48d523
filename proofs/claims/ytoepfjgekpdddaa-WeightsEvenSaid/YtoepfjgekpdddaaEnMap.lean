/- The engine: arrays of bytes compared; maps whose keys are told apart by a plain equality. -/
import Derived.Test.YtoepfjgekpdddaaEnLit
namespace Go.En
open Go

section
variable {P : Program} {w : World} {t e : TypeId}

theorem part_run {d : TypeDesc} (he : P.underlying e = some d) (hd : agg? d = false) {cs : Array Value} {k : Nat} {v : Value} (h : cs[k]? = some v) : (part e cs k).run P w = .ok v w := by
  unfold part
  simp only [Sem.run_bind, isAgg_run he, hd, Result.andThen_ok, Bool.false_eq_true, if_false, h, Sem.run_pure]

theorem b2v_inj {a b : UInt8} : (((a.toNat : Int)) == (b.toNat : Int)) = decide (a = b) := by
  rw [Bool.eq_iff_iff]
  simp only [← UInt8.toNat_inj, beq_iff_eq, decide_eq_true_eq]
  omega

theorem eqIn_bytes {i : TypeInfo} (m n : Nat) (hu : P.underlying t = some (.array n e)) (he : P.underlying e = some (.int .u8)) (hi : P.info? e = some i) (h1 : i.size = 1) (l l' : List UInt8) (hl : l.length = n) (hl' : l'.length = n) :
    (Op.equalIn (m + 2) t (.agg (l.map b2v).toArray) (.agg (l'.map b2v).toArray)).run P w = .ok (decide (l = l')) w := by
  unfold Op.equalIn
  simp only [underlying, Sem.run_bind, run_program, Result.andThen_ok, hu, Sem.run_pure, sizeOf_run hi, Std.Legacy.Range.forIn_eq_forIn_range', Std.Legacy.Range.size, Nat.sub_zero, Nat.add_one_sub_one, Nat.div_one, h1, Nat.mul_one]
  have key : ∀ (c k : Nat), k + c = n → l.take k = l'.take k →
      ∃ r, (forIn (List.range' k c) (none, ()) fun (i : Nat) (_ : Option Bool × Unit) => (do
            let a ← part e (List.map b2v l).toArray i
            let b ← part e (List.map b2v l').toArray i
            let c ← Op.equalIn (m + 1) e a b
            if (!c) = true then pure (ForInStep.done (some false, ())) else pure (ForInStep.yield (none, ())) : Sem (ForInStep (Option Bool × Unit)))).run P w = .ok (r, ()) w ∧ r.getD true = decide (l = l') := by
    intro c
    induction c with
    | zero =>
      intro k hk ht
      refine ⟨none, by simp, ?_⟩
      have : l = l' := by
        rw [List.take_of_length_le (by omega), List.take_of_length_le (by omega)] at ht; exact ht
      simp [this]
    | succ c ih =>
      intro k hk ht
      have g : ∀ (q : List UInt8) (h : k < q.length), (q.map b2v).toArray[k]? = some (b2v q[k]) := fun q h => by simp [h]
      have hv : (Op.equalIn (m + 1) e (b2v (l[k]'(by omega))) (b2v (l'[k]'(by omega)))).run P w = .ok (decide (l[k]'(by omega) = l'[k]'(by omega))) w := by
        unfold Op.equalIn b2v
        simp only [underlying, Sem.run_bind, run_program, Result.andThen_ok, he, Sem.run_pure, if_true, b2v_inj]
      rw [List.range'_succ]
      simp only [List.forIn_cons, Sem.run_bind, part_run he rfl (g l (by omega)), part_run he rfl (g l' (by omega)), Result.andThen_ok, hv]
      by_cases hx : l[k]'(by omega) = l'[k]'(by omega)
      · simp only [hx, decide_true, Bool.not_true, Bool.false_eq_true, if_false, Sem.run_pure, Result.andThen_ok]
        refine ih (k + 1) (by omega) ?_
        rw [List.take_add_one, List.take_add_one, ht, List.getElem?_eq_getElem (by omega), List.getElem?_eq_getElem (by omega), hx]
      · simp only [hx, decide_false, Bool.not_false, if_true, Sem.run_pure, Result.andThen_ok]
        refine ⟨some false, rfl, ?_⟩
        have : l ≠ l' := fun h => hx (by subst h; rfl)
        simp [this]
  obtain ⟨r, h1, h2⟩ := key n 0 (by omega) (by simp)
  rw [h1, ← h2]
  cases r <;> simp

/- MAPS. -/
/-- Keys of a type, written as values of another, are told apart as those are. -/
structure KeyOf {κ : Type} [DecidableEq κ] (P : Program) (t : TypeId) (enc : κ → Value) : Prop where
  eq : ∀ a b (w : World), (Op.equal t (enc a) (enc b)).run P w = .ok (decide (a = b)) w
  now : ∃ d, P.underlying t = some d ∧ ∀ a b, Instr.sameNow d (enc a) (enc b) = none ∨ Instr.sameNow d (enc a) (enc b) = some (decide (a = b))
  chk : ∀ (e : Bool) a (w : World), (Instr.checkKey e 10000 t (enc a)).run P w = .ok () w
  stay : ∀ a, Instr.sameBits 10000 (enc a) (enc a) = true

def assoc {κ : Type} [DecidableEq κ] (k : κ) : List (κ × Value) → Option Value
  | [] => none
  | p :: r => if k = p.1 then some p.2 else assoc k r
def upd {κ : Type} [DecidableEq κ] (k : κ) (v : Value) : List (κ × Value) → List (κ × Value)
  | [] => [(k, v)]
  | p :: r => if k = p.1 then (k, v) :: r else p :: upd k v r

theorem assoc_upd {κ : Type} [DecidableEq κ] (k j : κ) (v : Value) : ∀ (l : List (κ × Value)), assoc j (upd k v l) = if j = k then some v else assoc j l := by
  intro l
  induction l with
  | nil => simp only [upd, assoc]
  | cons p r ih =>
    simp only [upd]
    by_cases h : k = p.1
    · rw [if_pos h]
      simp only [assoc]
      by_cases hj : j = k
      · rw [if_pos hj, if_pos hj]
      · rw [if_neg hj, if_neg hj, if_neg (fun e => hj (e.trans h.symm))]
    · rw [if_neg h]
      simp only [assoc, ih]
      by_cases hj : j = p.1
      · rw [if_pos hj, if_pos hj, if_neg (fun e => h (e.symm.trans hj))]
      · rw [if_neg hj, if_neg hj]
theorem upd_mem {κ : Type} [DecidableEq κ] {k : κ} {v : Value} {l : List (κ × Value)} {p : κ × Value} (h : p ∈ upd k v l) : p = (k, v) ∨ p ∈ l := by
  induction l with
  | nil => simp [upd] at h; exact .inl h
  | cons q r ih =>
    simp only [upd] at h
    split at h
    · rcases List.mem_cons.1 h with h | h
      · exact .inl h
      · exact .inr (List.mem_cons_of_mem _ h)
    · rcases List.mem_cons.1 h with h | h
      · exact .inr (h ▸ List.mem_cons_self)
      · rcases ih h with h | h
        · exact .inl h
        · exact .inr (List.mem_cons_of_mem _ h)
theorem assoc_mem {κ : Type} [DecidableEq κ] {k : κ} {v : Value} {l : List (κ × Value)} (h : assoc k l = some v) : (k, v) ∈ l := by
  induction l with
  | nil => simp [assoc] at h
  | cons q r ih =>
    simp only [assoc] at h
    split at h
    · rename_i e; cases h; rw [e]; exact List.mem_cons_self
    · exact List.mem_cons_of_mem _ (ih h)

/-- entries that came one after the other -/
def Grown (es : Array MapEntry) (clock : Nat) : Prop := (es.toList.map (·.born)).Pairwise (· < ·) ∧ ∀ e ∈ es.toList, e.born < clock
/-- The block is a map with just these entries, of different keys. -/
def Mp {κ : Type} (w : World) (m : Nat) (enc : κ → Value) (l : List (κ × Value)) : Prop :=
  ∃ es clock, w.heap[m]? = some (.map es clock) ∧ es.toList.map (fun e => (e.key, e.val)) = l.map (fun p => (enc p.1, p.2)) ∧ Grown es clock ∧ (l.map (·.1)).Nodup

theorem grown_push {es : Array MapEntry} {c : Nat} (h : Grown es c) (k v : Value) : Grown (es.push ⟨k, v, c⟩) (c + 1) := by
  obtain ⟨h1, h2⟩ := h
  refine ⟨?_, ?_⟩
  · rw [Array.toList_push, List.map_append, List.pairwise_append]
    refine ⟨h1, by simp, fun a ha b hb => ?_⟩
    simp at hb
    subst hb
    obtain ⟨e, he, rfl⟩ := List.mem_map.1 ha
    exact h2 e he
  · intro e he
    rw [Array.toList_push] at he
    rcases List.mem_append.1 he with he | he
    · have := h2 e he; omega
    · simp at he; subst he; exact Nat.lt_succ_self c
theorem grown_same {es es' : Array MapEntry} {c : Nat} (h : Grown es c) (he : es'.toList.map (·.born) = es.toList.map (·.born)) : Grown es' c := by
  refine ⟨by rw [he]; exact h.1, fun e h' => ?_⟩
  have : e.born ∈ es'.toList.map (·.born) := List.mem_map.2 ⟨e, h', rfl⟩
  rw [he] at this
  obtain ⟨x, hx, hxe⟩ := List.mem_map.1 this
  rw [← hxe]; exact h.2 x hx
theorem upd_keys {κ : Type} [DecidableEq κ] {k : κ} {v : Value} : ∀ {l : List (κ × Value)}, (l.map (·.1)).Nodup → ((upd k v l).map (·.1)).Nodup
  | [], _ => by simp [upd]
  | p :: r, h => by
    simp only [upd]
    have h' := h
    rw [List.map_cons, List.nodup_cons] at h
    split
    · rename_i e
      rw [List.map_cons, List.nodup_cons]
      exact ⟨fun hm => h.1 (e ▸ hm), h.2⟩
    · rename_i e
      rw [List.map_cons, List.nodup_cons]
      refine ⟨fun hm => ?_, upd_keys h.2⟩
      obtain ⟨q, hq, hqe⟩ := List.mem_map.1 hm
      rcases upd_mem hq with h1 | h1
      · rw [h1] at hqe; exact e hqe
      · exact h.1 (List.mem_map.2 ⟨q, h1, hqe⟩)

theorem Mp.lt {κ : Type} {m : Nat} {enc : κ → Value} {l : List (κ × Value)} (h : Mp w m enc l) : m < w.heap.size := by
  obtain ⟨es, c, h, _⟩ := h
  rcases Nat.lt_or_ge m w.heap.size with h' | h'
  · exact h'
  · rw [Array.getElem?_eq_none h'] at h; cases h
theorem Mp.ext {κ : Type} {w w' : World} {m : Nat} {enc : κ → Value} {l : List (κ × Value)} {M : Nat → Prop} (h : Mp w m enc l) (hx : Ext w w' M) (hM : ¬ M m) : Mp w' m enc l := by
  have := h.lt
  obtain ⟨es, c, h, k⟩ := h
  exact ⟨es, c, by rw [hx.keep m this hM]; exact h, k⟩
theorem Mp.dr {κ : Type} {w : World} {m : Nat} {enc : κ → Value} {l : List (κ × Value)} (h : Mp w m enc l) : Mp (dr w) m enc l := h

def idxK {κ : Type} [DecidableEq κ] (k : κ) : List (κ × Value) → Nat → Option (Nat × Value)
  | [], _ => none
  | p :: r, i => if k = p.1 then some (i, p.2) else idxK k r (i + 1)
theorem idxK_assoc {κ : Type} [DecidableEq κ] (k : κ) : ∀ (l : List (κ × Value)) (i : Nat), (idxK k l i).map (·.2) = assoc k l := by
  intro l
  induction l with
  | nil => intro i; rfl
  | cons p r ih => intro i; simp only [idxK, assoc]; split <;> simp [ih]

variable {κ : Type} [DecidableEq κ] {enc : κ → Value}

theorem getMap_run {r : Nat} {es : Array MapEntry} {c : Nat} (hb : w.heap[r]? = some (.map es c)) : (getObj r).run P w = .ok (.map es c) w := by simp [getObj, Sem.run, hb]
theorem setMap_run {r : Nat} {es : Array MapEntry} {c : Nat} (o : Obj) (hb : w.heap[r]? = some (.map es c)) : (setObj r o).run P w = .ok () { w with heap := w.heap.setIfInBounds r o } := by simp [setObj, Sem.run, hb]

theorem findAsking_run (K : KeyOf P t enc) (k : κ) : ∀ (es : List MapEntry) (l : List (κ × Value)) (i : Nat), es.map (fun e => (e.key, e.val)) = l.map (fun p => (enc p.1, p.2)) →
    (Instr.findAsking t (enc k) es i).run P w = .ok (idxK k l i) w := by
  intro es
  induction es with
  | nil => intro l i h; cases l with
    | nil => rfl
    | cons p r => simp at h
  | cons x es ih =>
    intro l i h
    cases l with
    | nil => simp at h
    | cons p r =>
      simp only [List.map_cons, List.cons.injEq, Prod.mk.injEq] at h
      obtain ⟨⟨h1, h2⟩, h3⟩ := h
      simp only [Instr.findAsking, Sem.run_bind, h1, K.eq, Result.andThen_ok, idxK]
      by_cases hx : k = p.1
      · simp [hx, h2]
      · simp only [hx, decide_false, Bool.false_eq_true, if_false]
        exact ih r (i + 1) h3
theorem findNow_some {d : TypeDesc} (hn : ∀ a b, Instr.sameNow d (enc a) (enc b) = none ∨ Instr.sameNow d (enc a) (enc b) = some (decide (a = b))) (k : κ) : ∀ (es : List MapEntry) (l : List (κ × Value)) (i : Nat) (r : Option (Nat × Value)), es.map (fun e => (e.key, e.val)) = l.map (fun p => (enc p.1, p.2)) →
    Instr.findNow d (enc k) es i = some r → r = idxK k l i := by
  intro es
  induction es with
  | nil => intro l i r h hr; cases l with
    | nil => simp [Instr.findNow] at hr; exact hr.symm
    | cons p r => simp at h
  | cons x es ih =>
    intro l i r h hr
    cases l with
    | nil => simp at h
    | cons p q =>
      simp only [List.map_cons, List.cons.injEq, Prod.mk.injEq] at h
      obtain ⟨⟨h1, h2⟩, h3⟩ := h
      simp only [Instr.findNow, h1] at hr
      rcases hn k p.1 with hh | hh
      · rw [hh] at hr; cases hr
      · rw [hh] at hr
        simp only [idxK]
        by_cases hx : k = p.1
        · simp only [hx, decide_true, Option.some.injEq] at hr
          rw [if_pos hx, ← hr, h2]
        · simp only [hx, decide_false] at hr
          rw [if_neg hx]
          exact ih q (i + 1) r h3 hr
theorem findKey_run (K : KeyOf P t enc) (k : κ) (es : List MapEntry) (l : List (κ × Value)) (h : es.map (fun e => (e.key, e.val)) = l.map (fun p => (enc p.1, p.2))) :
    (Instr.findKey t (enc k) es).run P w = .ok (idxK k l 0) w := by
  obtain ⟨d, hd, hn⟩ := K.now
  unfold Instr.findKey
  simp only [underlying, Sem.run_bind, run_program, Result.andThen_ok, hd, Sem.run_pure]
  cases hr : Instr.findNow d (enc k) es 0 with
  | none => exact findAsking_run K k es l 0 h
  | some r => rw [findNow_some hn k es l 0 r h hr]; rfl

theorem r_look {kt et : TypeId} {i : TypeInfo} {z : Value} (hu : P.underlying t = some (.map kt et)) (hi : P.info? et = some i) (hz : i.zero = some z) (K : KeyOf P kt enc) {m : Nat} {l : List (κ × Value)} (hm : Mp w m enc l) (k : κ) :
    (sLook t (.map (some m)) (enc k) true).run P w = .ok (.value (.tuple #[(assoc k l).getD z, .bool (assoc k l).isSome])) w := by
  obtain ⟨es, c, hb, he, _⟩ := hm
  unfold sLook; rw [runV]
  unfold Instr.lookup
  simp only [underlying, Sem.run_bind, run_program, Result.andThen_ok, hu, Sem.run_pure, getMap_run hb, K.chk, findKey_run K k es.toList l he, ← idxK_assoc k l 0]
  cases idxK k l 0 with
  | none => simp [zeroValue, typeInfo, hi, hz]
  | some p => simp

omit [DecidableEq κ] in
theorem stp_mkMap {K : Value → World → Prop} (enc : κ → Value) (hk : ∀ w', Mp w' w.heap.size enc ([] : List (κ × Value)) → Ext w w' nob → w'.heap.size = w.heap.size + 1 → K (.map (some w.heap.size)) w') : Stp P (sMkMap t none) w K := by
  have : (sMkMap t none).run P w = .ok (.value (.map (some w.heap.size))) (w.alloc (.map #[] 0)) := by
    unfold sMkMap; rw [runV]
    simp [Instr.makeMap]
  unfold Stp
  rw [this]
  exact hk _ ⟨#[], 0, by show (w.heap.push _)[w.heap.size]? = _; simp, rfl, ⟨by simp, by simp⟩, by simp⟩ (Ext.alloc _ _ _) (by simp)

theorem stp_mapUp {kt et : TypeId} (hu : P.underlying t = some (.map kt et)) (Ke : KeyOf P kt enc) {m : Nat} {l : List (κ × Value)} (hm : Mp w m enc l) (k : κ) (v : Value) {K : Value → World → Prop}
    (hk : ∀ w', Mp w' m enc (upd k v l) → Ext w w' (fun y => y = m) → w'.heap.size = w.heap.size → K undef w') : Stp P (sMapUp t (.map (some m)) (enc k) v) w K := by
  have hlt := hm.lt
  obtain ⟨es, c, hb, he, hgr, hnd⟩ := hm
  have hext : ∀ o, Ext w { w with heap := w.heap.setIfInBounds m o } (fun y => y = m) := fun o =>
    ⟨rfl, rfl, rfl, by simp, fun b hb hn => by
      show (w.heap.setIfInBounds m o)[b]? = _
      rw [Array.getElem?_setIfInBounds_ne (fun e => hn e.symm)]⟩
  have key : ∃ es' c', (sMapUp t (.map (some m)) (enc k) v).run P w = .ok .skip { w with heap := w.heap.setIfInBounds m (.map es' c') } ∧ es'.toList.map (fun e => (e.key, e.val)) = ((upd k v l).map fun p => (enc p.1, p.2)) ∧ Grown es' c' := by
    have gen : ∀ (es : List MapEntry) (l : List (κ × Value)) (i : Nat), es.map (fun e => (e.key, e.val)) = l.map (fun p => (enc p.1, p.2)) →
        (idxK k l i = none → ∀ b, (es ++ [(⟨enc k, v, b⟩ : MapEntry)]).map (fun e => (e.key, e.val)) = (upd k v l).map fun p => (enc p.1, p.2)) ∧
        (∀ j x, idxK k l i = some (j, x) → i ≤ j ∧ ∃ old, es[j - i]? = some old ∧ old.key = enc k ∧ (es.set (j - i) ({ old with key := enc k, val := v } : MapEntry)).map (fun e => (e.key, e.val)) = (upd k v l).map fun p => (enc p.1, p.2)) := by
      intro es
      induction es with
      | nil =>
        intro l i h
        cases l with
        | nil => exact ⟨fun _ b => rfl, fun j x h => by simp [idxK] at h⟩
        | cons p r => simp at h
      | cons x es ih =>
        intro l i h
        cases l with
        | nil => simp at h
        | cons p r =>
          simp only [List.map_cons, List.cons.injEq, Prod.mk.injEq] at h
          obtain ⟨⟨h1, h2⟩, h3⟩ := h
          simp only [idxK, upd]
          by_cases hx : k = p.1
          · rw [if_pos hx, if_pos hx]
            refine ⟨fun h => by (cases h), fun j y h => ?_⟩
            cases h
            refine ⟨Nat.le_refl _, x, by simp, by rw [h1, hx], ?_⟩
            simp [h3]
          · rw [if_neg hx, if_neg hx]
            obtain ⟨a, b⟩ := ih r (i + 1) h3
            refine ⟨fun h q => ?_, fun j y h => ?_⟩
            · simp only [List.cons_append, List.map_cons, a h q, h1, h2]
            · obtain ⟨hj, old, o1, o2, o3⟩ := b j y h
              refine ⟨by omega, old, ?_, o2, ?_⟩
              · rw [show j - i = (j - (i + 1)) + 1 from by omega, List.getElem?_cons_succ]; exact o1
              · rw [show j - i = (j - (i + 1)) + 1 from by omega, List.set_cons_succ]
                simp only [List.map_cons, o3, h1, h2]
    obtain ⟨g1, g2⟩ := gen es.toList l 0 he
    unfold sMapUp
    rw [runU]
    unfold Instr.mapUpdate
    simp only [underlying, Sem.run_bind, run_program, Result.andThen_ok, hu, Sem.run_pure, getMap_run hb, Ke.chk, findKey_run Ke k es.toList l he]
    cases hi : idxK k l 0 with
    | none =>
      refine ⟨es.push ⟨enc k, v, c⟩, c + 1, ?_, by simpa using g1 hi c, grown_push hgr _ _⟩
      simp only [setMap_run _ hb, Result.andThen_ok]
    | some q =>
      obtain ⟨j, x⟩ := q
      obtain ⟨_, old, o1, o2, o3⟩ := g2 j x hi
      rw [Nat.sub_zero] at o1 o3
      have o1' : es[j]? = some old := by simpa using o1
      refine ⟨es.modify j fun e => { e with key := enc k, val := v }, c, ?_, ?_, grown_same hgr ?_⟩
      · simp only [o1', Option.map_some, Option.getD_some, o2, Instr.keyThatStays, Ke.stay, if_true, Sem.run_pure, Result.andThen_ok, setMap_run _ hb, Sem.run_bind]
      · have hj : j < es.toList.length := by
          rcases Nat.lt_or_ge j es.toList.length with h | h
          · exact h
          · rw [List.getElem?_eq_none h] at o1; cases o1
        rw [← o3]
        congr 1
        apply List.ext_getElem?
        intro y
        rw [Array.getElem?_toList, Array.getElem?_modify, List.getElem?_set]
        by_cases hy : j = y
        · subst hy
          have hj' : j < es.size := by simpa using hj
          have e1 : es[j] = old := by rw [Array.getElem?_eq_getElem hj'] at o1'; exact Option.some.inj o1'
          simp [hj', e1]
        · simp [hy]
      · apply List.ext_getElem?
        intro y
        rw [List.getElem?_map, List.getElem?_map, Array.getElem?_toList, Array.getElem?_toList, Array.getElem?_modify]
        split
        · rename_i h; subst h
          cases es[j]? <;> rfl
        · rfl
  obtain ⟨es', c', h1, h2, h3⟩ := key
  unfold Stp
  rw [h1]
  refine hk _ ⟨es', c', by show (w.heap.setIfInBounds m _)[m]? = _; rw [Array.getElem?_setIfInBounds_self_of_lt hlt], h2, h3, upd_keys hnd⟩ (hext _) (by simp)

/-- keys that are arrays of n bytes -/
theorem keyOf_bytes {κ : Type} [DecidableEq κ] {i : TypeInfo} {n : Nat} (hu : P.underlying t = some (.array n e)) (he : P.underlying e = some (.int .u8)) (hi : P.info? e = some i) (h1 : i.size = 1)
    (bs : κ → List UInt8) (hb : ∀ k, (bs k).length = n) (hinj : ∀ a b, bs a = bs b → a = b) : KeyOf P t (fun k => .agg ((bs k).map b2v).toArray) := by
  refine ⟨fun a b w => ?_, ⟨_, hu, fun a b => .inl rfl⟩, fun c a w => ?_, fun a => ?_⟩
  · unfold Op.equal Op.maxDepth
    rw [eqIn_bytes 9998 n hu he hi h1 _ _ (hb a) (hb b)]
    congr 1
    rw [decide_eq_decide]
    exact ⟨hinj a b, fun h => h ▸ rfl⟩
  · unfold Instr.checkKey
    simp only [underlying, Sem.run_bind, run_program, Result.andThen_ok, hu, Sem.run_pure, Std.Legacy.Range.forIn_eq_forIn_range', Std.Legacy.Range.size, Nat.sub_zero, Nat.add_one_sub_one, Nat.div_one]
    have key : ∀ (q k : Nat), k + q = n → (forIn (List.range' k q) () fun (i : Nat) (_ : Unit) => (do
        let z ← sizeOf e
        let x ← part e (List.map b2v (bs a)).toArray (i * z)
        Instr.checkKey c 9999 e x
        pure (ForInStep.yield ()) : Sem (ForInStep Unit))).run P w = .ok () w := by
      intro q
      induction q with
      | zero => intro k _; simp
      | succ q ih =>
        intro k hk
        have g : ((bs a).map b2v).toArray[k]? = some (b2v ((bs a)[k]'(by rw [hb]; omega))) := by
          have : k < (bs a).length := by rw [hb]; omega
          simp [this]
        have hc : ∀ x : UInt8, (Instr.checkKey c 9999 e (b2v x)).run P w = .ok () w := fun x => by
          unfold Instr.checkKey b2v
          simp only [underlying, Sem.run_bind, run_program, Result.andThen_ok, he, Sem.run_pure]
        rw [List.range'_succ]
        simp only [List.forIn_cons, Sem.run_bind, sizeOf_run hi, h1, Nat.mul_one, part_run he rfl g, Result.andThen_ok, hc, Sem.run_pure]
        exact ih (k + 1) (by omega)
    have := key n 0 (by omega)
    rw [this]; rfl
  · unfold Instr.sameBits
    simp only [beq_self_eq_true, Bool.true_and, List.all_eq_true]
    intro x hx
    have : ∀ l : List Value, ∀ x ∈ l.zip l, x.1 = x.2 := by
      intro l
      induction l with
      | nil => simp
      | cons a r ih => intro x hx; simp at hx; rcases hx with rfl | hx; · rfl
                       · exact ih x hx
    have e1 := this _ x hx
    have hm := (List.of_mem_zip hx).1
    obtain ⟨x1, x2⟩ := x
    simp only at e1 hm ⊢
    subst e1
    simp at hm
    obtain ⟨u, _, rfl⟩ := hm
    simp [b2v, Instr.sameBits]

/-- n bytes as a key -/
abbrev Vec (n : Nat) := { l : List UInt8 // l.length = n }
def encV {n : Nat} (k : Vec n) : Value := .agg (k.1.map b2v).toArray
theorem keyOf_vec {i : TypeInfo} {n : Nat} (hu : P.underlying t = some (.array n e)) (he : P.underlying e = some (.int .u8)) (hi : P.info? e = some i) (h1 : i.size = 1) : KeyOf P t (encV (n := n)) :=
  keyOf_bytes (κ := Vec n) hu he hi h1 (fun k => k.1) (fun k => k.2) (fun _ _ h => Subtype.ext h)

theorem keyOf_str (hu : P.underlying t = some .string) : KeyOf P t (fun s : ByteArray => Value.string s) := by
  have hb : ∀ a b : ByteArray, (a == b) = decide (a = b) := fun a b => by
    have h1 : (a == b) = (a.data == b.data) := rfl
    rw [h1, Bool.eq_iff_iff, beq_iff_eq, decide_eq_true_eq]
    exact ⟨fun h => by cases a; cases b; simp only at h; rw [h], fun h => h ▸ rfl⟩
  refine ⟨fun a b w => ?_, ⟨_, hu, fun a b => .inr (by simp [Instr.sameNow, hb])⟩, fun c a w => ?_, fun a => ?_⟩
  · unfold Op.equal Op.maxDepth Op.equalIn
    simp only [underlying, Sem.run_bind, run_program, Result.andThen_ok, hu, Sem.run_pure, hb]
  · unfold Instr.checkKey
    simp only [underlying, Sem.run_bind, run_program, Result.andThen_ok, hu, Sem.run_pure]
  · simp [Instr.sameBits, hb]

theorem r_arr {n : Nat} (hu : P.underlying t = some (.array n e)) (x : Option Addr) (m c : Nat) (h : n ≤ m) : (sArr t (.slice x m c)).run P w = .ok (.value (.pointer x)) w := by
  unfold sArr; rw [runV]
  simp only [Instr.arrayAt, underlying, Sem.run_bind, run_program, Result.andThen_ok, hu, Sem.run_pure, if_neg (Nat.not_lt.2 h)]

/-- A load of an array or a struct out of readable cells. -/
theorem r_loadB {d : TypeDesc} {i : TypeInfo} (hu : P.underlying t = some d) (hd : agg? d = true) (hi : P.info? t = some i) {b off : Nat} {l : List Value} (hl : i.size = l.length) (h : ∀ j, j < l.length → w.cell? ⟨b, off + j, none⟩ = l[j]?) :
    (sLoad t (.pointer (some ⟨b, off, none⟩))).run P w = .ok (.value (.agg l.toArray)) w := by
  unfold sLoad
  rw [runV]
  simp only [Instr.loadAt, Instr.sureAddr, loadVar, pure_bind, Sem.run_bind, isAgg_run hu, hd, Result.andThen_ok, if_true, sizeOf_run hi, hl, loadCells_cl h, Sem.run_pure]
end

theorem own_dr {w : World} {b : Nat} {cs : List Value} (h : Own w b cs) : Own (dr w) b cs := h.ext (Ext.dr w nob) (fun h => h)
theorem Sl.dr {w : World} {v : Value} {l : List Value} (h : Sl w v l) : Sl (dr w) v l := h
/-- a slice of bytes, opened -/
theorem Sl.open {w : World} {v : Value} {l : List UInt8} (h : Bs w v l) (h0 : 0 < l.length) : ∃ b off c, v = .slice (some ⟨b, off, none⟩) l.length c ∧ l.length ≤ c ∧ ∀ i, (h : i < l.length) → w.cell? ⟨b, off + i, none⟩ = some (b2v l[i]) := by
  obtain ⟨a, n, c, rfl, hn, hc, h⟩ := h
  simp only [List.length_map] at hn
  subst hn
  obtain ⟨b, off, rfl, hh⟩ := h h0
  exact ⟨b, off, c, rfl, hc, fun i hi => by rw [hh i hi]; simp [hi]⟩
theorem Sl.len {w : World} {v : Value} {l : List Value} (h : Sl w v l) : ∃ a c, v = .slice a l.length c ∧ l.length ≤ c := by
  obtain ⟨a, n, c, rfl, rfl, hc, _⟩ := h
  exact ⟨a, c, rfl, hc⟩
theorem inB_nob (v : Value) : ¬ inB v nob := by unfold inB nob; split <;> simp
theorem shift_some {b o m l : Nat} (h : l ≠ m) : shift? (some ⟨b, o, none⟩) m l 1 = some ⟨b, o + l, none⟩ := by
  unfold shift?; rw [if_neg (fun e => h e.symm)]; simp [add_at]
theorem inB_mono {v : Value} {M N : Nat → Prop} (h : inB v M) (hm : ∀ b, M b → N b) : inB v N := by
  unfold inB at *
  split at h
  · exact hm _ h
  · exact h
end Go.En
