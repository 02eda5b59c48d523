/- Plain laws: each state is reached from just one state of each symbol. -/
import Derived.Test.YtcbkdccobhkbpaaPuFsb
namespace Go.Pu
set_option linter.unusedVariables false

/-- the entry tells the way to a state -/
def inE (sym s : Int) (e : Int × Int × Int) : Bool := decide (e.1 = sym ∧ e.2.2 ≤ s ∧ s < e.2.2 + 2 ^ e.2.1.toNat)

theorem bl_div {log x j : Nat} (h1 : 2 ^ log ≤ x) (h2 : x < 2 ^ (log + 1)) (hj : j ≤ log) : bl (x / 2 ^ j) = log + 1 - j := by
  have hp := Nat.two_pow_pos j
  have a : 2 ^ (log - j) ≤ x / 2 ^ j := by
    rw [Nat.le_div_iff_mul_le hp, ← Nat.pow_add]
    rw [show log - j + j = log from by omega]; exact h1
  have b : x / 2 ^ j < 2 ^ (log - j + 1) := by
    rw [Nat.div_lt_iff_lt_mul hp, ← Nat.pow_add]
    rw [show log - j + 1 + j = log + 1 from by omega]; exact h2
  rw [bl_eq a b]; omega

/-- which number leads to x -/
theorem k_iff {log x k : Nat} (h1 : 2 ^ log ≤ x) (h2 : x < 2 ^ (log + 1)) (hk1 : 1 ≤ k) (hk2 : k < 2 ^ (log + 1)) :
    (k * 2 ^ (log + 1 - bl k) ≤ x ∧ x < (k + 1) * 2 ^ (log + 1 - bl k)) ↔ ∃ j, j ≤ log ∧ x / 2 ^ j = k := by
  have hb1 := bl_pos (k := k) (by omega)
  have hb2 := bl_le_of hk2
  constructor
  · rintro ⟨a, b⟩
    refine ⟨log + 1 - bl k, by omega, ?_⟩
    have hp := Nat.two_pow_pos (log + 1 - bl k)
    apply Nat.le_antisymm
    · have := (Nat.div_lt_iff_lt_mul hp).2 b; omega
    · exact (Nat.le_div_iff_mul_le hp).2 a
  · rintro ⟨j, hj, rfl⟩
    rw [bl_div h1 h2 hj, show log + 1 - (log + 1 - j) = j from by omega]
    have hp := Nat.two_pow_pos j
    exact ⟨Nat.div_mul_le_self _ _, by rw [Nat.mul_comm]; exact Nat.lt_mul_div_succ x hp⟩

/-- just one number of q, q+1, .., 2q-1 leads to x -/
theorem k_ex {log x q : Nat} (h1 : 2 ^ log ≤ x) (h2 : x < 2 ^ (log + 1)) (hq1 : 1 ≤ q) (hq2 : q ≤ 2 ^ log) : ∃ j, j ≤ log ∧ q ≤ x / 2 ^ j ∧ x / 2 ^ j < 2 * q := by
  have key : ∀ j, j ≤ log → x / 2 ^ j < 2 * q → ∃ j, j ≤ log ∧ q ≤ x / 2 ^ j ∧ x / 2 ^ j < 2 * q := by
    intro j
    induction j with
    | zero =>
      intro _ h
      refine ⟨0, by omega, ?_, h⟩
      rw [Nat.pow_zero, Nat.div_one]; omega
    | succ j ih =>
      intro hj h
      by_cases hx : x / 2 ^ j < 2 * q
      · exact ih (by omega) hx
      · refine ⟨j + 1, hj, ?_, h⟩
        rw [Nat.pow_succ, ← Nat.div_div_eq_div_mul]
        omega
  refine key log (Nat.le_refl _) ?_
  have : x / 2 ^ log < 2 := by
    rw [Nat.div_lt_iff_lt_mul (Nat.two_pow_pos _), Nat.mul_comm, ← Nat.pow_succ]; exact h2
  omega
theorem k_one {x q i j : Nat} (hi1 : q ≤ x / 2 ^ i) (hi2 : x / 2 ^ i < 2 * q) (hj1 : q ≤ x / 2 ^ j) (hj2 : x / 2 ^ j < 2 * q) : x / 2 ^ i = x / 2 ^ j := by
  have half : ∀ {a b : Nat}, a < b → x / 2 ^ b ≤ x / 2 ^ a / 2 := by
    intro a b h
    rw [Nat.div_div_eq_div_mul, ← Nat.pow_succ]
    exact Nat.div_le_div_left (Nat.pow_le_pow_right (by omega) h) (Nat.two_pow_pos _)
  rcases Nat.lt_trichotomy i j with h | h | h
  · have := half h; omega
  · rw [h]
  · have := half h; omega

/-- the place of an occurrence -/
theorem nth_occ {S : List Int} {v : Int} : ∀ (n c : Nat), c < (S.take n).count v → ∃ i, ∃ h : i < S.length, i < n ∧ S[i] = v ∧ (S.take i).count v = c := by
  intro n
  induction n with
  | zero => intro c h; simp at h
  | succ n ih =>
    intro c h
    by_cases hn : n < S.length
    · rw [List.take_add_one, List.getElem?_eq_getElem hn, List.count_append] at h
      simp only [Option.toList, List.count_singleton] at h
      by_cases hc : c < (S.take n).count v
      · obtain ⟨i, h1, h2, h3, h4⟩ := ih c hc
        exact ⟨i, h1, by omega, h3, h4⟩
      · by_cases hv : S[n] = v
        · have : (S[n] == v) = true := by simpa using hv
          rw [this] at h
          simp only [if_true] at h
          exact ⟨n, hn, by omega, hv, by omega⟩
        · have : (S[n] == v) = false := by simpa using hv
          rw [this] at h
          simp at h; omega
    · rw [List.take_of_length_le (by omega)] at h
      have := ih c (by rw [List.take_of_length_le (by omega)]; exact h)
      obtain ⟨i, h1, h2, h3, h4⟩ := this
      exact ⟨i, h1, by omega, h3, h4⟩
theorem occ_lt {S : List Int} {v : Int} {i j : Nat} (hi : i < S.length) (hv : S[i] = v) (hij : i < j) : (S.take i).count v < (S.take j).count v := by
  obtain ⟨d, rfl⟩ : ∃ d, j = i + 1 + d := ⟨j - (i + 1), by omega⟩
  rw [List.take_add, List.count_append, List.take_add_one, List.getElem?_eq_getElem hi, List.count_append]
  simp only [Option.toList, List.count_singleton]
  have : (S[i] == v) = true := by simpa using hv
  rw [this]; simp; omega

theorem buildL_at {log : Nat} {ps : List Int} {i : Nat} (h : i < 2 ^ log) : (buildL log ps)[i]? = some (entAt log ps (spreadL 0 log ps) i) := by
  unfold buildL
  rw [List.getElem?_map, List.getElem?_range h]; rfl

/-- what an entry's way is, by its number -/
theorem inE_iff {log : Nat} {ps : List Int} (hm : May log ps) {sy i s : Nat} (hsy : sy < ps.length) (hi : i < 2 ^ log) (hs : s < 2 ^ log) :
    inE (sy : Int) s (entAt log ps (spreadL 0 log ps) i) = true ↔
      ((spreadL 0 log ps).getD i 0 = (sy : Int) ∧ ∃ j, j ≤ log ∧ (s + 2 ^ log) / 2 ^ j = (partsI ps[sy]).toNat + ((spreadL 0 log ps).take i).count (sy : Int)) := by
  have L := spread_lay hm 0
  obtain ⟨s', hs', hg, hp1, hp2, hk, hc⟩ := kAt_bd hm L hi
  generalize hS : spreadL 0 log ps = S at *
  obtain ⟨k, hkk⟩ : ∃ k, k = kAt ps S i := ⟨_, rfl⟩
  rw [← hkk] at hk
  have hk2 : k < 2 ^ (log + 1) := by rw [Nat.pow_succ]; omega
  obtain ⟨e1, e2, e3, e4⟩ := ent_bd (log := log) (k := k) (by omega) hk2
  unfold inE entAt entOf
  rw [hg, ← hkk]
  simp only [decide_eq_true_eq, Int.toNat_natCast]
  have hpow : ((2 ^ log : Nat) : Int) = (2 : Int) ^ log := by simp
  have hpow2 : ((2 ^ (log + 1 - bl k) : Nat) : Int) = (2 : Int) ^ (log + 1 - bl k) := by simp
  rw [← hpow, ← hpow2]
  have hx1 : 2 ^ log ≤ s + 2 ^ log := by omega
  have hx2 : s + 2 ^ log < 2 ^ (log + 1) := by rw [Nat.pow_succ]; omega
  have hki := k_iff hx1 hx2 (k := k) (by omega) hk2
  constructor
  · rintro ⟨a, b, c⟩
    have hss : s' = sy := by omega
    subst hss
    refine ⟨rfl, ?_⟩
    rw [← hk]
    refine hki.1 ⟨by omega, ?_⟩
    rw [Nat.succ_mul]; omega
  · rintro ⟨a, j, hj, hje⟩
    have hss : s' = sy := by omega
    subst hss
    rw [← hk] at hje
    obtain ⟨b, c⟩ := hki.2 ⟨j, hj, hje⟩
    rw [Nat.succ_mul] at c
    exact ⟨rfl, by omega, by omega⟩

/-- just one state of the symbol leads to a state -/
theorem one_way {log : Nat} {ps : List Int} (hm : May log ps) {sy s : Nat} (hsy : sy < ps.length) (hp : ps[sy] ≠ 0) (hs : s < 2 ^ log) :
    ∃ i, ∃ hi : i < 2 ^ log, inE (sy : Int) s (entAt log ps (spreadL 0 log ps) i) = true ∧ ∀ j, j < 2 ^ log → inE (sy : Int) s (entAt log ps (spreadL 0 log ps) j) = true → j = i := by
  have L := spread_lay hm 0
  have hl := hm.low _ (List.getElem_mem hsy)
  have hq1 : 1 ≤ (partsI ps[sy]).toNat := by unfold partsI; split <;> omega
  have hq2 := partsI_sum hm hsy
  have hcnt := L.cnt sy hsy
  obtain ⟨j, hj, a, b⟩ := k_ex (log := log) (x := s + 2 ^ log) (q := (partsI ps[sy]).toNat) (by omega) (by rw [Nat.pow_succ]; omega) hq1 hq2
  have hfind := nth_occ (S := spreadL 0 log ps) (v := (sy : Int)) (2 ^ log) ((s + 2 ^ log) / 2 ^ j - (partsI ps[sy]).toNat) (by
    rw [List.take_of_length_le (by rw [L.len]; exact Nat.le_refl _), hcnt]; omega)
  obtain ⟨i, h1, h2, h3, h4⟩ := hfind
  have hgd : ∀ {i} (h : i < (spreadL 0 log ps).length), (spreadL 0 log ps).getD i 0 = (spreadL 0 log ps)[i] := fun h => by rw [List.getD_eq_getElem?_getD, List.getElem?_eq_getElem h]; rfl
  refine ⟨i, h2, (inE_iff hm hsy h2 hs).2 ⟨by rw [hgd h1, h3], j, hj, by rw [h4]; omega⟩, fun i' hi' h => ?_⟩
  obtain ⟨g, j', hj', e⟩ := (inE_iff hm hsy hi' hs).1 h
  have hi'l : i' < (spreadL 0 log ps).length := by rw [L.len]; exact hi'
  rw [hgd hi'l] at g
  have hclt := count_take_lt hi'l
  rw [g, hcnt] at hclt
  have := k_one (x := s + 2 ^ log) (q := (partsI ps[sy]).toNat) (i := j) (j := j') a b (by omega) (by omega)
  have hceq : ((spreadL 0 log ps).take i').count (sy : Int) = ((spreadL 0 log ps).take i).count (sy : Int) := by omega
  rcases Nat.lt_trichotomy i' i with h | h | h
  · have := occ_lt hi'l g h; omega
  · exact h
  · have := occ_lt h1 h3 h; omega
end Go.Pu
