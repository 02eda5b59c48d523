/- Plain laws: what each state tells. -/
import Derived.Test.YtcbkdccobhkbpaaPuFsf
namespace Go.Pu
set_option linter.unusedVariables false

/-- how many bits a number has -/
def bl (k : Nat) : Nat := if k = 0 then 0 else k.log2 + 1
theorem bl_zero : bl 0 = 0 := rfl
theorem bl_lt (k : Nat) : k < 2 ^ bl k := by
  unfold bl
  split
  · subst_vars; simp
  · exact Nat.lt_log2_self
theorem bl_le {k : Nat} (h : k ≠ 0) : 2 ^ (bl k - 1) ≤ k := by
  unfold bl
  rw [if_neg h, Nat.add_sub_cancel]
  exact Nat.log2_self_le h
theorem bl_pos {k : Nat} (h : k ≠ 0) : 1 ≤ bl k := by unfold bl; rw [if_neg h]; omega
theorem bl_le_of {k n : Nat} (h : k < 2 ^ n) : bl k ≤ n := by
  by_cases h0 : k = 0
  · subst h0; simp [bl]
  · rcases Nat.lt_or_ge n (bl k) with hh | hh
    · have h1 := bl_le h0
      have := Nat.pow_le_pow_right (n := 2) (by omega) (show n ≤ bl k - 1 by omega)
      omega
    · exact hh
theorem bl_eq {k n : Nat} (h1 : 2 ^ n ≤ k) (h2 : k < 2 ^ (n + 1)) : bl k = n + 1 := by
  have h0 : k ≠ 0 := by have := Nat.two_pow_pos n; omega
  have a := bl_le_of h2
  have b := bl_lt k
  rcases Nat.lt_or_ge (bl k) (n + 1) with h | h
  · have := Nat.pow_le_pow_right (n := 2) (by omega) (show bl k ≤ n by omega)
    omega
  · omega

/-- of a state: its symbol's part, and how often the symbol stands below it -/
def kAt (ps S : List Int) (i : Nat) : Nat := (partsI (ps.getD (S.getD i 0).toNat 0)).toNat + (S.take i).count (S.getD i 0)
def entOf (log : Nat) (x : Int) (k : Nat) : Int × Int × Int := (x, ((log + 1 - bl k : Nat) : Int), ((k * 2 ^ (log + 1 - bl k) : Nat) : Int) - 2 ^ log)
def entAt (log : Nat) (ps S : List Int) (i : Nat) : Int × Int × Int := entOf log (S.getD i 0) (kAt ps S i)
def buildL (log : Nat) (ps : List Int) : List (Int × Int × Int) := (List.range (2 ^ log)).map (entAt log ps (spreadL 0 log ps))

theorem buildL_length (log : Nat) (ps : List Int) : (buildL log ps).length = 2 ^ log := by simp [buildL]

theorem count_take_lt {S : List Int} {i : Nat} (h : i < S.length) : (S.take i).count S[i] + 1 ≤ S.count S[i] := by
  have e : S = S.take i ++ S[i] :: S.drop (i + 1) := by rw [← List.drop_eq_getElem_cons h, List.take_append_drop]
  have : S.count S[i] = (S.take i ++ S[i] :: S.drop (i + 1)).count S[i] := by rw [← e]
  rw [this, List.count_append, List.count_cons]; simp

theorem partsI_sum {log : Nat} {ps : List Int} (h : May log ps) {s : Nat} (hs : s < ps.length) : (partsI ps[s]).toNat ≤ 2 ^ log := by
  have := part_le h.low (List.getElem_mem hs)
  rw [h.sum] at this
  have hpow : ((2 ^ log : Nat) : Int) = (2 : Int) ^ log := by simp
  rw [← hpow] at this
  exact Int.toNat_le.2 this

/-- the numbers of states -/
theorem kAt_bd {log : Nat} {ps S : List Int} (h : May log ps) (L : Lay log ps S) {i : Nat} (hi : i < 2 ^ log) :
    ∃ s : Nat, ∃ hs : s < ps.length, S.getD i 0 = (s : Int) ∧ 1 ≤ (partsI ps[s]).toNat ∧ (partsI ps[s]).toNat ≤ 2 ^ log ∧ kAt ps S i = (partsI ps[s]).toNat + (S.take i).count (s : Int) ∧ (S.take i).count (s : Int) < (partsI ps[s]).toNat := by
  have hil : i < S.length := by rw [L.len]; exact hi
  have hg : S.getD i 0 = S[i] := by rw [List.getD_eq_getElem?_getD, List.getElem?_eq_getElem hil]; rfl
  obtain ⟨s, hs, e⟩ := L.rng _ (List.getElem_mem hil)
  have hc := count_take_lt hil
  rw [e, L.cnt s hs] at hc
  refine ⟨s, hs, by rw [hg, e], by omega, partsI_sum h hs, ?_, by omega⟩
  unfold kAt
  rw [hg, e, Int.toNat_natCast, List.getD_eq_getElem?_getD, List.getElem?_eq_getElem hs]; rfl

theorem ent_bd {log k : Nat} (h1 : 1 ≤ k) (h2 : k < 2 ^ (log + 1)) : 2 ^ log ≤ k * 2 ^ (log + 1 - bl k) ∧ (k + 1) * 2 ^ (log + 1 - bl k) ≤ 2 ^ (log + 1) ∧ bl k ≤ log + 1 ∧ 1 ≤ bl k := by
  have a := bl_le_of h2
  have b := bl_pos (k := k) (by omega)
  have c := bl_le (k := k) (by omega)
  have d := bl_lt k
  refine ⟨?_, ?_, a, b⟩
  · calc 2 ^ log = 2 ^ (bl k - 1) * 2 ^ (log + 1 - bl k) := by rw [← Nat.pow_add]; congr 1; omega
      _ ≤ k * 2 ^ (log + 1 - bl k) := Nat.mul_le_mul_right _ c
  · calc (k + 1) * 2 ^ (log + 1 - bl k) ≤ 2 ^ bl k * 2 ^ (log + 1 - bl k) := Nat.mul_le_mul_right _ d
      _ = 2 ^ (log + 1) := by rw [← Nat.pow_add]; congr 1; omega

theorem pos_hit (n j : Nat) (hn : 0 < n) : ∃ d, d < n ∧ pos n (j + d) = 0 := by
  refine ⟨(n - j % n) % n, Nat.mod_lt _ hn, ?_⟩
  unfold pos
  have : (j + (n - j % n) % n) % n = 0 := by
    rw [Nat.add_mod_mod]
    have h1 := Nat.mod_lt j hn
    have h2 := Nat.div_add_mod j n
    have : j + (n - j % n) = n * (j / n + 1) := by
      rw [Nat.mul_add, Nat.mul_one]
      generalize n * (j / n) = y at *
      generalize j % n = r at *
      omega
    rw [this, Nat.mul_mod_right]
  rw [Nat.mul_mod, this, Nat.zero_mul, Nat.zero_mod]
theorem seek_spec {n high : Nat} (hn : 0 < n) (hh : 0 < high) (j : Nat) : ∃ d, (∀ e, e < d → high ≤ pos n (j + e)) ∧ pos n (j + d) < high ∧ seek n high n (pos n j) = pos n (j + d) := by
  obtain ⟨D, hD, h0⟩ := pos_hit n j hn
  have key : ∀ (D f j : Nat), D ≤ f → pos n (j + D) < high → ∃ d, (∀ e, e < d → high ≤ pos n (j + e)) ∧ pos n (j + d) < high ∧ seek n high f (pos n j) = pos n (j + d) := by
    intro D
    induction D with
    | zero =>
      intro f j _ h
      refine ⟨0, fun e he => by omega, h, ?_⟩
      rw [Nat.add_zero] at h ⊢
      cases f with
      | zero => rfl
      | succ f => unfold seek; rw [if_pos h]
    | succ D ih =>
      intro f j hf h
      obtain ⟨f, rfl⟩ : ∃ g, f = g + 1 := ⟨f - 1, by omega⟩
      by_cases hj : pos n j < high
      · exact ⟨0, fun e he => by omega, hj, by unfold seek; rw [if_pos hj]; rfl⟩
      · obtain ⟨d, h1, h2, h3⟩ := ih f (j + 1) (by omega) (by rw [show j + 1 + D = j + (D + 1) from by omega]; exact h)
        refine ⟨d + 1, fun e he => ?_, by rw [show j + (d + 1) = j + 1 + d from by omega]; exact h2, ?_⟩
        · cases e with
          | zero => rw [Nat.add_zero]; omega
          | succ e => rw [show j + (e + 1) = j + 1 + e from by omega]; exact h1 e (by omega)
        · unfold seek; rw [if_neg hj, adv_pos, h3]; congr 1; omega
  exact key D n j (by omega) (by rw [h0]; exact hh)

theorem spread_spec {log : Nat} {ps : List Int} (h : May log ps) (x0 : Int) : ∃ arr, tops ps 0 (2 ^ log) (List.replicate (2 ^ log) x0) = ((reps ps 0).length, arr) ∧ arr.length = 2 ^ log ∧ (negs ps 0).length + (reps ps 0).length = 2 ^ log ∧ spreadL x0 log ps = place (2 ^ log) (reps ps 0).length (reps ps 0) 0 arr := by
  have hrl := reps_len ps 0 h.low
  rw [h.sum] at hrl
  have hpow : ((2 ^ log : Nat) : Int) = (2 : Int) ^ log := by simp
  have hsum : (negs ps 0).length + (reps ps 0).length = 2 ^ log := by omega
  have ht := tops_spec ps 0 (2 ^ log) (List.replicate (2 ^ log) x0) (by omega) (by simp)
  rw [show 2 ^ log - (negs ps 0).length = (reps ps 0).length from by omega] at ht
  refine ⟨_, ht, ?_, hsum, ?_⟩
  · simp [toI]; omega
  · unfold spreadL; rw [ht]
end Go.Pu
