/- Plain laws: symbols laid over states. -/
import Derived.Test.YtcbkdccobhkbpaaPuNrm
namespace Go.Pu
set_option linter.unusedVariables false

def adv (n a : Nat) : Nat := (a + n / 2 + n / 8 + 3) % n
def seek (n high : Nat) : Nat → Nat → Nat
  | 0, a => a
  | f + 1, a => if a < high then a else seek n high f (adv n a)
def tops : List Int → Nat → Nat → List Int → Nat × List Int
  | [], _, high, arr => (high, arr)
  | p :: r, s, high, arr => if p = -1 then tops r (s + 1) (high - 1) (arr.set (high - 1) s) else tops r (s + 1) high arr
def reps : List Int → Nat → List Nat
  | [], _ => []
  | p :: r, s => List.replicate p.toNat s ++ reps r (s + 1)
def place (n high : Nat) : List Nat → Nat → List Int → List Int
  | [], _, arr => arr
  | s :: r, a, arr => place n high r (seek n high n (adv n a)) (arr.set a s)
def spreadL (x0 : Int) (log : Nat) (ps : List Int) : List Int :=
  place (2 ^ log) (tops ps 0 (2 ^ log) (List.replicate (2 ^ log) x0)).1 (reps ps 0) 0 (tops ps 0 (2 ^ log) (List.replicate (2 ^ log) x0)).2

def pos (n j : Nat) : Nat := (j * (n / 2 + n / 8 + 3)) % n

theorem adv_pos (n j : Nat) : adv n (pos n j) = pos n (j + 1) := by
  unfold adv pos
  rw [Nat.add_assoc, Nat.add_assoc, Nat.mod_add_mod, Nat.add_mul, Nat.one_mul, Nat.add_assoc]

theorem odd_mul {s : Nat} (hs : s % 2 = 1) : ∀ (k x : Nat), 2 ^ k ∣ s * x → 2 ^ k ∣ x := by
  intro k
  induction k with
  | zero => intro x _; simp
  | succ k ih =>
    intro x h
    have h2 : 2 ∣ s * x := Nat.dvd_trans ⟨2 ^ k, by rw [Nat.pow_succ, Nat.mul_comm]⟩ h
    have hx : x % 2 = 0 := by
      have : (s * x) % 2 = 0 := Nat.mod_eq_zero_of_dvd h2
      rw [Nat.mul_mod, hs, Nat.one_mul, Nat.mod_mod] at this
      exact this
    obtain ⟨y, rfl⟩ : ∃ y, x = 2 * y := ⟨x / 2, by omega⟩
    rw [Nat.pow_succ, Nat.mul_comm (2 ^ k) 2, show s * (2 * y) = 2 * (s * y) by rw [Nat.mul_left_comm]] at h
    rw [Nat.pow_succ, Nat.mul_comm (2 ^ k) 2]
    exact Nat.mul_dvd_mul_left 2 (ih y (Nat.dvd_of_mul_dvd_mul_left (by omega) h))

theorem step_odd {log : Nat} (h : 5 ≤ log) : (2 ^ log / 2 + 2 ^ log / 8 + 3) % 2 = 1 := by
  obtain ⟨k, rfl⟩ : ∃ k, log = k + 5 := ⟨log - 5, by omega⟩
  have : 2 ^ (k + 5) = 32 * 2 ^ k := by rw [Nat.pow_add, Nat.mul_comm]
  omega

theorem pos_inj {log : Nat} (h : 5 ≤ log) {i j : Nat} (hij : i < j) (hj : j < 2 ^ log) : pos (2 ^ log) i ≠ pos (2 ^ log) j := by
  unfold pos
  generalize hst : 2 ^ log / 2 + 2 ^ log / 8 + 3 = st
  have hodd : st % 2 = 1 := by rw [← hst]; exact step_odd h
  intro e
  have hle : i * st ≤ j * st := Nat.mul_le_mul_right _ (by omega)
  have hd : 2 ^ log ∣ st * (j - i) := by
    rw [Nat.mul_comm, Nat.sub_mul]
    exact Nat.dvd_of_mod_eq_zero (Nat.sub_mod_eq_zero_of_mod_eq e.symm)
  have := Nat.le_of_dvd (by omega) (odd_mul hodd _ _ hd)
  omega

theorem nodup_le : ∀ (n : Nat) (l : List Nat), l.Nodup → (∀ a ∈ l, a < n) → l.length ≤ n := by
  intro n
  induction n with
  | zero => intro l _ h; cases l with
    | nil => simp
    | cons a r => exact absurd (h a (by simp)) (by omega)
  | succ n ih =>
    intro l hd h
    by_cases hn : n ∈ l
    · have := ih (l.erase n) (hd.erase n) (fun a ha => by
        have h1 := h a (List.mem_of_mem_erase ha)
        have h2 : a ≠ n := fun e => by subst e; exact hd.not_mem_erase ha
        omega)
      rw [List.length_erase_of_mem hn] at this
      omega
    · have := ih l hd (fun a ha => by
        have h1 := h a ha
        have h2 : a ≠ n := fun e => by subst e; exact hn ha
        omega)
      omega
theorem nodup_all {n : Nat} {l : List Nat} (hd : l.Nodup) (h : ∀ a ∈ l, a < n) (hl : l.length = n) {a : Nat} (ha : a < n) : a ∈ l := by
  refine Classical.byContradiction fun hn => ?_
  have := nodup_le n (a :: l) (List.nodup_cons.2 ⟨hn, hd⟩) (fun b hb => (List.mem_cons.1 hb).elim (fun e => e ▸ ha) (h b))
  simp at this; omega

def usedFrom (n high j : Nat) : List Nat := ((List.range' j (n - j)).map (pos n)).filter (· < high)
theorem usedFrom_lt {n high j : Nat} (h : j < n) : usedFrom n high j = if pos n j < high then pos n j :: usedFrom n high (j + 1) else usedFrom n high (j + 1) := by
  unfold usedFrom
  rw [show n - j = (n - (j + 1)) + 1 from by omega, List.range'_succ, List.map_cons, List.filter_cons]
  simp
theorem usedFrom_end (n high : Nat) : usedFrom n high n = [] := by unfold usedFrom; simp
theorem pos_lt {n : Nat} (h : 0 < n) (j : Nat) : pos n j < n := Nat.mod_lt _ h
theorem pos_zero (n : Nat) : pos n 0 = 0 := by simp [pos]
theorem pos_n (n : Nat) : pos n n = 0 := by simp [pos, Nat.mul_mod_right]

theorem seek_used {n high : Nat} (hh : 0 < high) : ∀ (d j f : Nat), j + d = n → d ≤ f → seek n high f (pos n j) = (usedFrom n high j).headD 0 := by
  intro d
  induction d with
  | zero =>
    intro j f hj _
    obtain rfl : j = n := by omega
    rw [usedFrom_end, pos_n]
    cases f with
    | zero => rfl
    | succ f => unfold seek; rw [if_pos hh]; rfl
  | succ d ih =>
    intro j f hj hf
    obtain ⟨f, rfl⟩ : ∃ g, f = g + 1 := ⟨f - 1, by omega⟩
    rw [usedFrom_lt (by omega)]
    unfold seek
    split
    · rfl
    · rw [adv_pos]; exact ih (j + 1) f (by omega) (by omega)
/-- the walk comes below high -/
theorem seek_lt {n high : Nat} (hh : 0 < high) : ∀ (d j f : Nat), j + d = n → d ≤ f → seek n high f (pos n j) < high := by
  intro d
  induction d with
  | zero =>
    intro j f hj _
    obtain rfl : j = n := by omega
    rw [pos_n]
    cases f with
    | zero => exact hh
    | succ f => unfold seek; rw [if_pos hh]; exact hh
  | succ d ih =>
    intro j f hj hf
    obtain ⟨f, rfl⟩ : ∃ g, f = g + 1 := ⟨f - 1, by omega⟩
    unfold seek
    split
    · assumption
    · rw [adv_pos]; exact ih (j + 1) f (by omega) (by omega)

def setAt : List (Nat × Nat) → List Int → List Int
  | [], arr => arr
  | (q, s) :: r, arr => setAt r (arr.set q s)

theorem place_used {n high : Nat} (hh : 0 < high) : ∀ (syms : List Nat) (j a : Nat) (arr : List Int), j ≤ n → syms.length ≤ (usedFrom n high j).length → (syms ≠ [] → (usedFrom n high j).headD 0 = a) →
    place n high syms a arr = setAt ((usedFrom n high j).zip syms) arr := by
  intro syms
  induction syms with
  | nil => intro j a arr _ _ _; simp [place, setAt]
  | cons s r ih =>
    intro j a arr hj hlen ha
    have ha := ha (by simp)
    -- the place of a in the walk
    have key : ∀ (d j : Nat), j + d = n → (s :: r).length ≤ (usedFrom n high j).length → (usedFrom n high j).headD 0 = a → ∃ i, i < n ∧ j ≤ i ∧ pos n i = a ∧ usedFrom n high j = a :: usedFrom n high (i + 1) := by
      intro d
      induction d with
      | zero =>
        intro j hj hl _
        obtain rfl : j = n := by omega
        rw [usedFrom_end] at hl; simp at hl
      | succ d ihd =>
        intro j hj hl hd
        have e := usedFrom_lt (high := high) (show j < n by omega)
        by_cases hp : pos n j < high
        · rw [if_pos hp] at e
          rw [e] at hd
          have : pos n j = a := hd
          exact ⟨j, by omega, Nat.le_refl _, this, by rw [e, this]⟩
        · rw [if_neg hp] at e
          rw [e] at hl hd ⊢
          obtain ⟨i, h1, h2, h3, h4⟩ := ihd (j + 1) (by omega) hl hd
          exact ⟨i, h1, by omega, h3, h4⟩
    obtain ⟨i, h1, h2, h3, h4⟩ := key (n - j) j (by omega) hlen ha
    rw [h4] at hlen ⊢
    simp only [List.length_cons] at hlen
    rw [place, List.zip_cons_cons, setAt]
    refine ih (i + 1) _ _ (by omega) (by omega) (fun hr => ?_)
    rw [← h3, adv_pos]
    exact (seek_used hh (n - (i + 1)) (i + 1) n (by omega) (by omega)).symm
end Go.Pu
