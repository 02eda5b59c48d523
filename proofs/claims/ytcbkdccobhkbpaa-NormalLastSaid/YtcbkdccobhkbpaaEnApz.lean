/- The engine: a slice that the call owns grows by noughts (append of a slice that is made there). -/
import Derived.Test.YtcbkdccobhkbpaaEnApp
namespace Go.En
open Go
set_option linter.unusedVariables false
set_option linter.unusedSimpArgs false
section
variable {P : Program} {w : World} {t e : TypeId}

/-- append(v, make([]T, m)...) -/
theorem stp_appendZ {S : Nat → Prop} {sz n m : Nat} {i : TypeInfo} {z : Value} {ty t2 : TypeId} {k : IntKind} (hu : P.underlying t = some (.slice e)) (hu2 : P.underlying t2 = some (.int k)) (hi : P.info? e = some i) (hsz : i.size = sz) (hz : i.zero = some z) (hzs : z.cells.size = sz)
    {v : Value} {l : List Value} (h : OSS w S sz v n l) (hsz0 : 0 < sz) (hone : ∀ y ∈ z.cells.toList, one y = true) (hb : ∀ b, w.heap.size ≤ b → S b)
    (hn : n + m ≤ 9223372036854775807) (hbytes : (n + m) * i.bytes ≤ 140737488355328) (hmb : m * i.bytes ≤ 140737488355328)
    {K : Value → World → Prop} (hk : ∀ v' w', OSS w' S sz v' (n + m) (l ++ (Builtin.zeroCells z.cells m).toList) → Ext w w' S → K v' w') : Stp P (sBi .append #[t, t2] ty [v, .int k m]) w K := by
  generalize hnews : (Builtin.zeroCells z.cells m).toList = news at *
  have hnl : news.length = m * sz := by rw [← hnews, Array.length_toList, zeroCells_length, hzs]
  have hone' : ∀ y ∈ news, one y = true := by
    intro y hy
    rw [← hnews] at hy
    simp only [Builtin.zeroCells, Array.toList_map, List.mem_map] at hy
    obtain ⟨j, _, rfl⟩ := hy
    refine hone _ ?_
    have : j % z.cells.size < z.cells.size := Nat.mod_lt _ (by omega)
    rw [getElem!_pos z.cells _ this]
    exact Array.getElem_mem_toList this
  have hmw : IntKind.i64.wrap ((m : Nat) : Int) = (m : Int) := w_i64 (by omega) (by omega)
  have hm0 : ¬ ((m : Int) < 0) := by omega
  have hmx : ¬ ((m : Int) * (i.bytes : Nat) > 2 ^ 48) := by
    have : (m : Int) * (i.bytes : Nat) = ((m * i.bytes : Nat) : Int) := by simp
    rw [this]; omega
  have has : ∀ w, (asInt (.int k m)).run P w = .ok (m : Int) w := fun w => rfl
  have hz' : ∀ w, (zeroValue e).run P w = .ok z w := fun w => by simp [zeroValue, typeInfo, hi, hz]
  have hnw : ∀ w, (if m * sz = 0 then pure #[] else do pure (Builtin.zeroCells (← zeroValue e).cells m) : Sem (Array Value)).run P w = .ok news.toArray w := fun w => by
    by_cases h0 : m * sz = 0
    · rw [if_pos h0, Sem.run_pure]
      have : news = [] := List.length_eq_zero_iff.1 (by omega)
      rw [this]
    · rw [if_neg h0, Sem.run_bind, hz', Result.andThen_ok, Sem.run_pure, ← hnews, Array.toArray_toList]
  have hmax : IntKind.i64.max = 9223372036854775807 := by decide
  have hnot : ¬ (((n + m : Nat) : Int) > IntKind.i64.max) := by rw [hmax]; omega
  have hlen := h.1
  rcases h.2 with ⟨rfl, rfl⟩ | ⟨b, c, rest, rfl, h2, h3, h4, h5⟩
  · have hl0 : l = [] := List.length_eq_zero_iff.1 (by omega)
    subst hl0
    by_cases hm : m = 0
    · subst hm
      have hn0 : news = [] := List.length_eq_zero_iff.1 (by omega)
      subst hn0
      have : (sBi .append #[t, t2] ty [.slice none 0 0, .int k (0 : Nat)]).run P w = .ok (.value (.slice none 0 0)) w := by
        unfold sBi builtin
        simp only [Builtin.append_, List.getElem?_toArray, List.getElem?_cons_zero, List.getElem?_cons_succ]
        simp only [underlying, typeInfo, Sem.run_bind, run_program, Result.andThen_ok, hu, hu2, hi, Sem.run_pure, sizeOf_run hi, hsz, has, hmw, hm0, hmx, if_true, if_false, Int.toNat_natCast, Bool.not_true, Bool.false_eq_true, Nat.le_refl, Nat.add_zero, hnw]
      unfold Stp
      rw [this]
      exact hk _ _ ⟨by simp, .inl ⟨rfl, by omega⟩⟩ (Ext.refl _ _)
    · have hfit := growslice_fits (need := 0 + m) (old := 0) (bytes := i.bytes) (by omega) (by omega)
      have hfit' : ¬ (Builtin.nextslicecap (0 + m) 0 * i.bytes > 2 ^ 48) := by omega
      have hle : ¬ (0 + m ≤ 0) := by omega
      have hq : (Question.appendCap (0 + m) 0 e).forced = false := rfl
      obtain ⟨r, hr⟩ : ∃ r, (Question.appendCap (0 + m) 0 e).cut (w.tape w.drawn (.appendCap (0 + m) 0 e)) = m + r :=
        ⟨(w.tape w.drawn (.appendCap (0 + m) 0 e)) % (2 ^ 63 - (0 + m)), by simp only [Question.cut]; omega⟩
      have : (sBi .append #[t, t2] ty [.slice none 0 0, .int k m]).run P w = .ok (.value (.slice (some ⟨w.heap.size, 0, none⟩) (0 + m) (m + r))) ((dr w).alloc (.cells (news ++ (Builtin.zeroCells z.cells (m + r - (0 + m))).toList).toArray e)) := by
        unfold sBi builtin
        simp only [Builtin.append_, List.getElem?_toArray, List.getElem?_cons_zero, List.getElem?_cons_succ]
        simp only [underlying, typeInfo, Sem.run_bind, run_program, Result.andThen_ok, hu, hu2, hi, Sem.run_pure, sizeOf_run hi, hsz, has, hmw, hm0, hmx, if_true, if_false, Int.toNat_natCast, Bool.not_true, Bool.false_eq_true, hle, hnot, false_and, hfit', run_choose, hq, hr, run_askRoom]
        change ((Sem.run P _ (dr w)).andThen _).andThen _ = _
        simp only [Sem.run_bind, hnw, run_firstCells_none, Result.andThen_ok, hz', Sem.run_pure, newRow, run_newObj]
        have e1 : (#[] ++ news.toArray ++ Builtin.zeroCells z.cells (m + r - (0 + m)) : Array Value) = (news ++ (Builtin.zeroCells z.cells (m + r - (0 + m))).toList).toArray := by
          apply Array.ext'; simp
        rw [e1]
        rfl
      unfold Stp
      rw [this]
      refine hk _ _ ⟨by simp only [List.nil_append]; rw [hnl, Nat.zero_add], .inr ⟨w.heap.size, m + r, (Builtin.zeroCells z.cells (m + r - (0 + m))).toList, by rw [Nat.zero_add], hb _ (Nat.le_refl _), Own.alloc (dr w) _ _, ?_, by omega⟩⟩ ((Ext.dr w _).seq (Ext.alloc _ _ _))
      simp only [List.nil_append, List.length_append, Array.length_toList, zeroCells_length, hzs, hnl]
      rw [show m + r - (0 + m) = r from by omega, Nat.add_mul]
  · by_cases hc : n + m ≤ c
    · have hroom : news.length ≤ rest.length := by
        rw [List.length_append, hlen] at h4
        have : (n + m) * sz ≤ c * sz := Nat.mul_le_mul_right _ hc
        rw [Nat.add_mul] at this; omega
      obtain ⟨w', s1, s2, s3, s4, _⟩ := storeCells_run (P := P) (M := S) h2 news w (n * sz) 0 (l ++ rest) h3 (by rw [List.length_append, hlen]; omega) hone'
      have : (sBi .append #[t, t2] ty [.slice (some ⟨b, 0, none⟩) n c, .int k m]).run P w = .ok (.value (.slice (some ⟨b, 0, none⟩) (n + m) c)) w' := by
        unfold sBi builtin
        simp only [Builtin.append_, List.getElem?_toArray, List.getElem?_cons_zero, List.getElem?_cons_succ]
        simp only [underlying, typeInfo, Sem.run_bind, run_program, Result.andThen_ok, hu, hu2, hi, Sem.run_pure, sizeOf_run hi, hsz, has, hmw, hm0, hmx, if_true, if_false, Int.toNat_natCast, Bool.not_true, Bool.false_eq_true, hc, hnw, add_at, Nat.zero_add, s1]
      unfold Stp
      rw [this]
      rw [Nat.add_zero, ← hlen, setAll_append _ _ _ hroom] at s2
      refine hk _ _ ⟨by rw [List.length_append, hlen, hnl, Nat.add_mul], .inr ⟨b, c, rest.drop news.length, rfl, h2, s2, ?_, hc⟩⟩ s3
      rw [← h4]; simp; omega
    · have hfit := growslice_fits (need := n + m) (old := c) (bytes := i.bytes) (by omega) hbytes
      have hfit' : ¬ (Builtin.nextslicecap (n + m) c * i.bytes > 2 ^ 48) := by omega
      have hq : (Question.appendCap (n + m) c e).forced = false := rfl
      obtain ⟨r, hr⟩ : ∃ r, (Question.appendCap (n + m) c e).cut (w.tape w.drawn (.appendCap (n + m) c e)) = n + m + r :=
        ⟨(w.tape w.drawn (.appendCap (n + m) c e)) % (2 ^ 63 - (n + m)), by simp only [Question.cut]⟩
      have hold : Cl (dr w) sz (.slice (some ⟨b, 0, none⟩) n c) n l := ⟨_, _, rfl, hlen, fun _ => ⟨b, 0, rfl, fun i hi => by
        show w.cell? _ = _
        rw [h3.cell, Nat.zero_add, List.getElem?_append_left hi]⟩⟩
      have : (sBi .append #[t, t2] ty [.slice (some ⟨b, 0, none⟩) n c, .int k m]).run P w = .ok (.value (.slice (some ⟨w.heap.size, 0, none⟩) (n + m) (n + m + r))) ((dr w).alloc (.cells (l ++ news ++ (Builtin.zeroCells z.cells (n + m + r - (n + m))).toList).toArray e)) := by
        have hfo := firstCells_cl (P := P) hold
        unfold sBi builtin
        simp only [Builtin.append_, List.getElem?_toArray, List.getElem?_cons_zero, List.getElem?_cons_succ]
        simp only [underlying, typeInfo, Sem.run_bind, run_program, Result.andThen_ok, hu, hu2, hi, Sem.run_pure, sizeOf_run hi, hsz, has, hmw, hm0, hmx, if_true, if_false, Int.toNat_natCast, Bool.not_true, Bool.false_eq_true, hc, hnot, false_and, hfit', run_choose, hq, hr, run_askRoom]
        change ((Sem.run P _ (dr w)).andThen _).andThen _ = _
        simp only [Sem.run_bind, hnw, hfo, Result.andThen_ok, hz', Sem.run_pure, newRow, run_newObj]
        have e1 : (l.toArray ++ news.toArray ++ Builtin.zeroCells z.cells (n + m + r - (n + m)) : Array Value) = (l ++ news ++ (Builtin.zeroCells z.cells (n + m + r - (n + m))).toList).toArray := by
          apply Array.ext'; simp
        rw [e1]
        rfl
      unfold Stp
      rw [this]
      refine hk _ _ ⟨by rw [List.length_append, hlen, hnl, Nat.add_mul], .inr ⟨w.heap.size, n + m + r, _, rfl, hb _ (Nat.le_refl _), Own.alloc (dr w) _ _, ?_, by omega⟩⟩ ((Ext.dr w _).seq (Ext.alloc _ _ _))
      simp only [List.length_append, Array.length_toList, zeroCells_length, hzs, hnl, hlen]
      rw [show n + m + r - (n + m) = r from by omega, Nat.add_mul, Nat.add_mul]
end
end Go.En
