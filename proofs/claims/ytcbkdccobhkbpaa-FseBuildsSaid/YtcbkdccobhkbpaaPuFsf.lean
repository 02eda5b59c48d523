/- Plain laws: each symbol has as many states as its part says. -/
import Derived.Test.YtcbkdccobhkbpaaPuFse
namespace Go.Pu
set_option linter.unusedVariables false

def negs : List Int → Nat → List Nat
  | [], _ => []
  | p :: r, s => if p = -1 then s :: negs r (s + 1) else negs r (s + 1)
def toI (l : List Nat) : List Int := l.map Int.ofNat

theorem tops_spec : ∀ (ps : List Int) (s high : Nat) (arr : List Int), (negs ps s).length ≤ high → high ≤ arr.length →
    tops ps s high arr = (high - (negs ps s).length, arr.take (high - (negs ps s).length) ++ toI (negs ps s).reverse ++ arr.drop high) := by
  intro ps
  induction ps with
  | nil => intro s high arr h1 h2; simp [tops, negs, toI]
  | cons p r ih =>
    intro s high arr h1 h2
    unfold tops negs
    unfold negs at h1
    by_cases hp : p = -1
    · rw [if_pos hp, if_pos hp]
      rw [if_pos hp] at h1
      simp only [List.length_cons] at h1 ⊢
      rw [ih (s + 1) (high - 1) _ (by omega) (by simp; omega)]
      congr 1
      · omega
      · have hlt : high - 1 < arr.length := by omega
        rw [List.take_set_of_le (by omega), show high - 1 - (negs r (s + 1)).length = high - ((negs r (s + 1)).length + 1) from by omega]
        have : (arr.set (high - 1) (s : Int)).drop (high - 1) = (s : Int) :: arr.drop high := by
          rw [List.drop_eq_getElem_cons (by simp; omega)]
          simp only [List.getElem_set_self]
          rw [show high - 1 + 1 = high from by omega, List.drop_set_of_lt (by omega)]
        rw [this]
        simp [toI]
    · rw [if_neg hp, if_neg hp]
      rw [if_neg hp] at h1
      exact ih (s + 1) high arr h1 h2

theorem setAt_length : ∀ (l : List (Nat × Nat)) (arr : List Int), (setAt l arr).length = arr.length
  | [], _ => rfl
  | (q, s) :: r, arr => by rw [setAt, setAt_length]; simp
theorem setAt_other {q : Nat} : ∀ (l : List (Nat × Nat)) (arr : List Int), (∀ x ∈ l, x.1 ≠ q) → (setAt l arr)[q]? = arr[q]?
  | [], _, _ => rfl
  | (a, s) :: r, arr, h => by
    rw [setAt, setAt_other r _ fun x hx => h x (List.mem_cons_of_mem _ hx), List.getElem?_set_ne (h (a, s) (by simp))]
theorem setAt_get : ∀ (us : List Nat) (ss : List Nat) (arr : List Int) (t : Nat), us.Nodup → us.length = ss.length → (∀ q ∈ us, q < arr.length) → (ht : t < us.length) → (ht' : t < ss.length) →
    (setAt (us.zip ss) arr)[us[t]]? = some (ss[t] : Int) := by
  intro us
  induction us with
  | nil => intro ss arr t _ _ _ ht; simp at ht
  | cons u us ih =>
    intro ss arr t hd hl hb ht ht'
    cases ss with
    | nil => simp at hl
    | cons x ss =>
      obtain ⟨h1, h2⟩ := List.nodup_cons.1 hd
      rw [List.zip_cons_cons, setAt]
      cases t with
      | zero =>
        simp only [List.getElem_cons_zero]
        rw [setAt_other _ _ (fun y hy => fun e => h1 (by have := (List.of_mem_zip (a := y.1) (b := y.2) hy).1; rw [e] at this; exact this))]
        have : u < arr.length := hb u (by simp)
        simp [this]
      | succ t =>
        simp only [List.getElem_cons_succ]
        exact ih ss _ t h2 (by simpa using hl) (fun q hq => by simpa using hb q (List.mem_cons_of_mem _ hq)) (by simpa using ht) (by simpa using ht')

theorem perm_range : ∀ (n : Nat) (l : List Nat), l.Nodup → (∀ a ∈ l, a < n) → l.length = n → l.Perm (List.range n) := by
  intro n
  induction n with
  | zero => intro l _ _ h; rw [List.length_eq_zero_iff.1 h]; exact List.Perm.refl _
  | succ n ih =>
    intro l hd h hl
    have hn : n ∈ l := nodup_all hd h hl (by omega)
    have p1 := List.perm_cons_erase hn
    have p2 := ih (l.erase n) (hd.erase n) (fun a ha => by
      have h1 := h a (List.mem_of_mem_erase ha)
      have h2 : a ≠ n := fun e => by subst e; exact hd.not_mem_erase ha
      omega) (by rw [List.length_erase_of_mem hn]; omega)
    rw [List.range_succ]
    exact p1.trans ((p2.cons n).trans (List.perm_append_singleton n _).symm)

theorem reps_len : ∀ (ps : List Int) (s : Nat), (∀ p ∈ ps, -1 ≤ p) → ((reps ps s).length : Int) + (negs ps s).length = sumP ps := by
  intro ps
  induction ps with
  | nil => intro s _; simp [reps, negs, sumP]
  | cons p r ih =>
    intro s h
    have := ih (s + 1) fun q hq => h q (List.mem_cons_of_mem _ hq)
    have hp := h p (by simp)
    rw [sumP_cons]
    unfold reps negs partsI
    by_cases h1 : p = -1
    · rw [if_pos h1, if_pos (by omega)]; subst h1; simp; omega
    · rw [if_neg h1, if_neg (by omega)]; simp; omega
theorem reps_count : ∀ (ps : List Int) (s i : Nat), (reps ps s).count (s + i) = if h : i < ps.length then ps[i].toNat else 0 := by
  intro ps
  induction ps with
  | nil => intro s i; simp [reps]
  | cons p r ih =>
    intro s i
    have low : ∀ (ps : List Int) (s a : Nat), a < s → (reps ps s).count a = 0 := by
      intro ps
      induction ps with
      | nil => intro s a _; simp [reps]
      | cons p r ih =>
        intro s a h
        unfold reps
        rw [List.count_append, ih (s + 1) a (by omega), List.count_replicate]
        simp; omega
    unfold reps
    rw [List.count_append, List.count_replicate]
    cases i with
    | zero => rw [Nat.add_zero, low r (s + 1) s (by omega)]; simp
    | succ i =>
      rw [show s + (i + 1) = s + 1 + i from by omega, ih (s + 1) i]
      have : (s == s + 1 + i) = false := by simp; omega
      rw [this]; simp
theorem negs_count : ∀ (ps : List Int) (s i : Nat), (negs ps s).count (s + i) = if h : i < ps.length then (if ps[i] = -1 then 1 else 0) else 0 := by
  intro ps
  induction ps with
  | nil => intro s i; simp [negs]
  | cons p r ih =>
    intro s i
    have low : ∀ (ps : List Int) (s a : Nat), a < s → (negs ps s).count a = 0 := by
      intro ps
      induction ps with
      | nil => intro s a _; simp [negs]
      | cons p r ih =>
        intro s a h
        unfold negs
        split
        · rw [List.count_cons, ih (s + 1) a (by omega)]; simp; omega
        · exact ih (s + 1) a (by omega)
    unfold negs
    cases i with
    | zero =>
      rw [Nat.add_zero]
      by_cases h : p = -1
      · rw [if_pos h, List.count_cons, low r (s + 1) s (by omega)]; simp [h]
      · rw [if_neg h, low r (s + 1) s (by omega)]; simp [h]
    | succ i =>
      have e : s + (i + 1) = s + 1 + i := by omega
      by_cases h : p = -1
      · rw [if_pos h, List.count_cons, e, ih (s + 1) i]
        have : (s == s + 1 + i) = false := by simp; omega
        rw [this]; simp
      · rw [if_neg h, e, ih (s + 1) i]; simp
theorem negs_len : ∀ (ps : List Int) (s : Nat), (negs ps s).length = ps.count (-1) := by
  intro ps
  induction ps with
  | nil => intro s; rfl
  | cons p r ih =>
    intro s
    unfold negs
    rw [List.count_cons]
    by_cases h : p = -1
    · rw [if_pos h]; simp [ih, h]
    · rw [if_neg h]; simp [ih, h]
theorem negs_at : ∀ (ps : List Int) (s i : Nat) (h : i < ps.length), ps[i] = -1 → (negs ps s)[(ps.take i).count (-1)]? = some (s + i) := by
  intro ps
  induction ps with
  | nil => intro s i h; simp at h
  | cons p r ih =>
    intro s i h hp
    unfold negs
    cases i with
    | zero => simp only [List.getElem_cons_zero] at hp; rw [if_pos hp]; simp
    | succ i =>
      simp only [List.getElem_cons_succ] at hp
      have := ih (s + 1) i (by simpa using h) hp
      rw [List.take_succ_cons, List.count_cons]
      by_cases h1 : p = -1
      · rw [if_pos h1]; simp only [h1, beq_self_eq_true, if_true, List.getElem?_cons_succ]; rw [this]; congr 1; omega
      · rw [if_neg h1]
        have : (p == -1) = false := by simpa using h1
        rw [this]; simp only [Bool.false_eq_true, if_false, Nat.add_zero]
        rw [‹(negs r (s + 1))[_]? = _›]; congr 1; omega

theorem usedFrom_zero {log high : Nat} (hl : 5 ≤ log) (hh : high ≤ 2 ^ log) : (usedFrom (2 ^ log) high 0).Nodup ∧ (∀ a ∈ usedFrom (2 ^ log) high 0, a < high) ∧ (usedFrom (2 ^ log) high 0).length = high := by
  have hn : 0 < 2 ^ log := Nat.two_pow_pos log
  have hnd : ((List.range (2 ^ log)).map (pos (2 ^ log))).Nodup := by
    rw [List.nodup_iff_pairwise_ne, List.pairwise_map]
    refine List.pairwise_iff_getElem.2 fun i j hi hj hij => ?_
    simp only [List.length_range] at hi hj
    simp only [List.getElem_range]
    exact pos_inj hl hij hj
  have hp := perm_range (2 ^ log) _ hnd (fun a ha => by
    obtain ⟨j, _, rfl⟩ := List.mem_map.1 ha
    exact pos_lt hn j) (by simp)
  unfold usedFrom
  rw [Nat.sub_zero, ← List.range_eq_range']
  refine ⟨hnd.filter _, fun a ha => by simpa using (List.mem_filter.1 ha).2, ?_⟩
  rw [(hp.filter _).length_eq]
  have : ∀ m : Nat, high ≤ m → ((List.range m).filter (· < high)).length = high := by
    intro m
    induction m with
    | zero => intro h; simp; omega
    | succ m ih =>
      intro h
      rw [List.range_succ, List.filter_append, List.length_append]
      by_cases hm : high ≤ m
      · rw [ih hm]; simp; omega
      · have : high = m + 1 := by omega
        subst this
        have : (List.range m).filter (fun x => decide (x < m + 1)) = List.range m := List.filter_eq_self.2 fun a ha => by have := List.mem_range.1 ha; simp; omega
        rw [this]; simp
  exact this _ hh

/-- symbols over states, as parts say -/
structure Lay (log : Nat) (ps : List Int) (S : List Int) : Prop where
  len : S.length = 2 ^ log
  cnt : ∀ s (h : s < ps.length), S.count (s : Int) = (partsI ps[s]).toNat
  rng : ∀ x ∈ S, ∃ s : Nat, s < ps.length ∧ x = s
  top : ∀ s (h : s < ps.length), ps[s] = -1 → S[2 ^ log - 1 - (ps.take s).count (-1)]? = some (s : Int)

theorem toI_count (l : List Nat) (s : Nat) : (toI l).count (s : Int) = l.count s := by
  induction l with
  | nil => rfl
  | cons a r ih =>
    show List.count _ (Int.ofNat a :: toI r) = _
    rw [List.count_cons, List.count_cons, ih]
    congr 1
    by_cases h : a = s
    · subst h; simp
    · simp [h]; omega
theorem reps_rng : ∀ (ps : List Int) (s : Nat), ∀ x ∈ reps ps s, s ≤ x ∧ x < s + ps.length := by
  intro ps
  induction ps with
  | nil => intro s x h; simp [reps] at h
  | cons p r ih =>
    intro s x h
    unfold reps at h
    rcases List.mem_append.1 h with h | h
    · have := (List.mem_replicate.1 h).2; simp; omega
    · have := ih (s + 1) x h; simp; omega
theorem negs_rng : ∀ (ps : List Int) (s : Nat), ∀ x ∈ negs ps s, s ≤ x ∧ x < s + ps.length := by
  intro ps
  induction ps with
  | nil => intro s x h; simp [negs] at h
  | cons p r ih =>
    intro s x h
    unfold negs at h
    split at h
    · rcases List.mem_cons.1 h with rfl | h
      · simp
      · have := ih (s + 1) x h; simp; omega
    · have := ih (s + 1) x h; simp; omega

/-- the states below the rare symbols, and these -/
theorem spread_form {log : Nat} {ps : List Int} (h : May log ps) (x0 : Int) :
    ∃ low : List Int, spreadL x0 log ps = low ++ toI (negs ps 0).reverse ∧ low.Perm (toI (reps ps 0)) ∧ ((negs ps 0).length + low.length = 2 ^ log) ∧
      (∀ t (h1 : t < (usedFrom (2 ^ log) (reps ps 0).length 0).length) (h2 : t < (reps ps 0).length), low[(usedFrom (2 ^ log) (reps ps 0).length 0)[t]]? = some ((reps ps 0)[t] : Int)) := by
  have hrl := reps_len ps 0 h.low
  rw [h.sum] at hrl
  have hpow : ((2 ^ log : Nat) : Int) = (2 : Int) ^ log := by simp
  obtain ⟨m, hm⟩ : ∃ m, m = (negs ps 0).length := ⟨_, rfl⟩
  obtain ⟨hi, hhi⟩ : ∃ x, x = (reps ps 0).length := ⟨_, rfl⟩
  rw [← hm, ← hhi] at hrl
  have hsum : hi + m = 2 ^ log := by omega
  have ht := tops_spec ps 0 (2 ^ log) (List.replicate (2 ^ log) x0) (by omega) (by simp)
  rw [← hm, show 2 ^ log - m = hi from by omega] at ht
  have e2 : (List.replicate (2 ^ log) x0).take hi = List.replicate hi x0 := by rw [List.take_replicate]; congr 1; omega
  have e3 : (List.replicate (2 ^ log) x0).drop (2 ^ log) = [] := by simp
  rw [e2, e3, List.append_nil] at ht
  unfold spreadL
  rw [ht]
  simp only
  obtain ⟨u1, u2, u3⟩ := usedFrom_zero (high := hi) h.log5 (by omega)
  by_cases h0 : hi = 0
  · have hr : reps ps 0 = [] := List.length_eq_zero_iff.1 (by omega)
    rw [hr, h0]
    refine ⟨[], by simp [place], by simp [toI], by simp; omega, fun t _ h2 => by simp at h2⟩
  · have hp := place_used (n := 2 ^ log) (high := hi) (by omega) (reps ps 0) 0 0 (List.replicate hi x0 ++ toI (negs ps 0).reverse) (by omega) (by rw [u3]; omega) (fun _ => by
      rw [usedFrom_lt (Nat.two_pow_pos log), pos_zero, if_pos (by omega)]; rfl)
    rw [hp]
    generalize hU : usedFrom (2 ^ log) hi 0 = U at *
    have hb : ∀ q ∈ U, q < (List.replicate hi x0 ++ toI (negs ps 0).reverse).length := fun q hq => by have := u2 q hq; simp; omega
    obtain ⟨R, hR⟩ : ∃ R, R = setAt (U.zip (reps ps 0)) (List.replicate hi x0 ++ toI (negs ps 0).reverse) := ⟨_, rfl⟩
    have hRl : R.length = hi + m := by rw [hR, setAt_length]; simp [toI, hm]
    have hRd : R.drop hi = toI (negs ps 0).reverse := by
      apply List.ext_getElem?
      intro i
      rw [List.getElem?_drop, hR, setAt_other _ _ (fun x hx => by
        have := u2 _ (List.of_mem_zip (a := x.1) (b := x.2) hx).1
        omega), List.getElem?_append_right (by simp)]
      simp
    have hget : ∀ t (h1 : t < U.length) (h2 : t < (reps ps 0).length), R[U[t]]? = some ((reps ps 0)[t] : Int) := fun t h1 h2 => by
      rw [hR]; exact setAt_get U _ _ t u1 (by omega) hb h1 h2
    rw [← hR]
    refine ⟨R.take hi, by rw [← hRd, List.take_append_drop], ?_, by rw [List.length_take]; omega, fun t h1 h2 => ?_⟩
    · have p1 : (U.map fun q => R.getD q 0).Perm ((List.range hi).map fun q => R.getD q 0) := (perm_range hi U u1 u2 u3).map _
      have p2 : (U.map fun q => R.getD q 0) = toI (reps ps 0) := by
        apply List.ext_getElem
        · simp [toI]; omega
        · intro t h1 h2
          simp only [List.length_map] at h1
          have := hget t h1 (by omega)
          simp only [List.getElem_map, toI, List.getD_eq_getElem?_getD, this]
          rfl
      have p3 : ((List.range hi).map fun q => R.getD q 0) = R.take hi := by
        apply List.ext_getElem
        · simp; omega
        · intro q h1 h2
          simp only [List.length_map, List.length_range] at h1
          simp only [List.getElem_map, List.getElem_range, List.getElem_take, List.getD_eq_getElem?_getD]
          rw [List.getElem?_eq_getElem (by omega)]; rfl
      rw [p2, p3] at p1
      exact p1.symm
    · subst hhi
      simp only [hU] at h1 ⊢
      have := hget t h1 h2
      rw [List.getElem?_take_of_lt (u2 _ (List.getElem_mem h1))]
      exact this

theorem spread_lay {log : Nat} {ps : List Int} (h : May log ps) (x0 : Int) : Lay log ps (spreadL x0 log ps) := by
  obtain ⟨low, e, hp, hl, _⟩ := spread_form h x0
  rw [e]
  refine ⟨by simp [toI]; omega, fun s hs => ?_, fun x hx => ?_, fun s hs hps => ?_⟩
  · rw [List.count_append, hp.count_eq, toI_count, toI_count, List.count_reverse]
    have h1 := reps_count ps 0 s
    have h2 := negs_count ps 0 s
    rw [Nat.zero_add] at h1 h2
    rw [h1, h2, dif_pos hs, dif_pos hs]
    have := h.low _ (List.getElem_mem hs)
    unfold partsI
    split <;> split <;> omega
  · rcases List.mem_append.1 hx with hx | hx
    · have hx := hp.mem_iff.1 hx
      obtain ⟨s, hs, rfl⟩ := List.mem_map.1 hx
      exact ⟨s, by have := reps_rng ps 0 s hs; omega, rfl⟩
    · obtain ⟨s, hs, rfl⟩ := List.mem_map.1 hx
      exact ⟨s, by have := negs_rng ps 0 s (List.mem_reverse.1 hs); omega, rfl⟩
  · have h1 := negs_at ps 0 s hs hps
    rw [Nat.zero_add] at h1
    have hlt : (ps.take s).count (-1) < (negs ps 0).length := by
      rcases Nat.lt_or_ge ((ps.take s).count (-1)) (negs ps 0).length with h | h
      · exact h
      · rw [List.getElem?_eq_none h] at h1; cases h1
    rw [List.getElem?_append_right (by omega)]
    unfold toI
    rw [List.getElem?_map, List.getElem?_reverse (by omega), show (negs ps 0).length - 1 - (2 ^ log - 1 - List.count (-1) (List.take s ps) - low.length) = (ps.take s).count (-1) from by omega, h1]
    rfl

theorem spread_x0 {log : Nat} {ps : List Int} (h : May log ps) (x y : Int) : spreadL x log ps = spreadL y log ps := by
  obtain ⟨a, e1, p1, l1, g1⟩ := spread_form h x
  obtain ⟨b, e2, p2, l2, g2⟩ := spread_form h y
  rw [e1, e2]
  congr 1
  apply List.ext_getElem?
  intro q
  have hrl : (reps ps 0).length = a.length := by rw [p1.length_eq]; simp [toI]
  by_cases hq : q < a.length
  · obtain ⟨u1, u2, u3⟩ := usedFrom_zero (high := (reps ps 0).length) h.log5 (by omega)
    have hm := nodup_all u1 u2 u3 (a := q) (by omega)
    obtain ⟨t, ht, rfl⟩ := List.getElem_of_mem hm
    rw [g1 t ht (by omega), g2 t ht (by omega)]
  · rw [List.getElem?_eq_none (by omega), List.getElem?_eq_none (by omega)]
end Go.Pu
