/- Plain laws: how often symbols are, in parts of a power of two. -/
import Derived.Test.YtcbkdccobhkbpaaEnKit
namespace Go.Pu
set_option linter.unusedVariables false

def partsI (p : Int) : Int := if p < 0 then 1 else p
def fits : Int → List Int → Bool
  | left, [] => left == 0
  | left, p :: r => if p < -1 ∨ left < partsI p then false else fits (left - partsI p) r
def sumP (ps : List Int) : Int := (ps.map partsI).sum
def headB (log : Int) (ps : List Int) : Bool := decide (5 ≤ log ∧ log ≤ 15 ∧ 1 ≤ ps.length ∧ ps.length ≤ 256 ∧ ps.getLast? ≠ some 0)
def mayB (log : Int) (ps : List Int) : Bool := headB log ps && fits (2 ^ log.toNat) ps

theorem sumP_cons (p : Int) (ps : List Int) : sumP (p :: ps) = partsI p + sumP ps := by simp [sumP]
theorem sumP_append (a b : List Int) : sumP (a ++ b) = sumP a + sumP b := by simp [sumP]
theorem partsI_nonneg {p : Int} (h : -1 ≤ p) : 0 ≤ partsI p := by unfold partsI; split <;> omega
theorem sumP_nonneg {ps : List Int} (h : ∀ p ∈ ps, -1 ≤ p) : 0 ≤ sumP ps := by
  induction ps with
  | nil => simp [sumP]
  | cons p r ih =>
    rw [sumP_cons]
    have := partsI_nonneg (h p (by simp))
    have := ih fun q hq => h q (List.mem_cons_of_mem _ hq)
    omega
theorem fits_iff : ∀ {ps : List Int} {left : Int}, fits left ps = true ↔ (∀ p ∈ ps, -1 ≤ p) ∧ sumP ps = left
  | [], left => by simp [fits, sumP]; constructor <;> intro h <;> omega
  | p :: r, left => by
    rw [fits, sumP_cons]
    by_cases h : p < -1 ∨ left < partsI p
    · rw [if_pos h]
      constructor
      · intro h; cases h
      · rintro ⟨h1, h2⟩
        have hp := h1 p (by simp)
        have := sumP_nonneg (ps := r) fun q hq => h1 q (List.mem_cons_of_mem _ hq)
        omega
    · rw [if_neg h, fits_iff]
      constructor
      · rintro ⟨h1, h2⟩
        exact ⟨fun q hq => by rcases List.mem_cons.1 hq with rfl | hq; · omega
                              · exact h1 q hq, by omega⟩
      · rintro ⟨h1, h2⟩
        exact ⟨fun q hq => h1 q (List.mem_cons_of_mem _ hq), by omega⟩

/-- Counts that may be. -/
structure May (log : Nat) (ps : List Int) : Prop where
  log5 : 5 ≤ log
  log15 : log ≤ 15
  len1 : 1 ≤ ps.length
  len256 : ps.length ≤ 256
  last : ps.getLast? ≠ some 0
  low : ∀ p ∈ ps, -1 ≤ p
  sum : sumP ps = 2 ^ log

theorem may_of {log : Int} {ps : List Int} (h : mayB log ps = true) : ∃ l : Nat, log = l ∧ May l ps := by
  unfold mayB headB at h
  simp only [Bool.and_eq_true, decide_eq_true_eq] at h
  obtain ⟨⟨h1, h2, h3, h4, h5⟩, h6⟩ := h
  obtain ⟨l, rfl⟩ : ∃ l : Nat, log = l := ⟨log.toNat, by omega⟩
  rw [fits_iff, Int.toNat_natCast] at h6
  exact ⟨l, rfl, by omega, by omega, h3, h4, h5, h6.1, h6.2⟩
theorem May.b {log : Nat} {ps : List Int} (h : May log ps) : mayB log ps = true := by
  unfold mayB headB
  simp only [Bool.and_eq_true, decide_eq_true_eq]
  have h1 := h.log5
  have h2 := h.log15
  refine ⟨⟨by omega, by omega, h.len1, h.len256, h.last⟩, ?_⟩
  rw [fits_iff, Int.toNat_natCast]
  exact ⟨h.low, h.sum⟩
theorem pow_le15 {log : Nat} (h : log ≤ 15) : (2 : Int) ^ log ≤ 32768 := by
  have : 2 ^ log ≤ 2 ^ 15 := Nat.pow_le_pow_right (by omega) h
  have e : ((2 ^ log : Nat) : Int) = (2 : Int) ^ log := by simp
  omega
theorem pow_pos' (log : Nat) : (1 : Int) ≤ 2 ^ log := by
  have : 1 ≤ 2 ^ log := Nat.one_le_two_pow
  have e : ((2 ^ log : Nat) : Int) = (2 : Int) ^ log := by simp
  omega
theorem part_le {ps : List Int} (h : ∀ p ∈ ps, -1 ≤ p) {p : Int} (hp : p ∈ ps) : partsI p ≤ sumP ps := by
  induction ps with
  | nil => cases hp
  | cons q r ih =>
    rw [sumP_cons]
    have h0 := partsI_nonneg (h q (by simp))
    have h1 := sumP_nonneg (ps := r) fun q hq => h q (List.mem_cons_of_mem _ hq)
    rcases List.mem_cons.1 hp with rfl | hp
    · omega
    · have := ih (fun q hq => h q (List.mem_cons_of_mem _ hq)) hp
      omega
end Go.Pu
/- Plain laws: symbols laid over states. -/
namespace Go.Pu
set_option linter.unusedVariables false

def adv (n a : Nat) : Nat := (a + n / 2 + n / 8 + 3) % n
def seek (n high : Nat) : Nat → Nat → Nat
  | 0, a => a
  | f + 1, a => if a < high then a else seek n high f (adv n a)
def tops : List Int → Nat → Nat → List Int → Nat × List Int
  | [], _, high, arr => (high, arr)
  | p :: r, s, high, arr => if p = -1 then tops r (s + 1) (high - 1) (arr.set (high - 1) s) else tops r (s + 1) high arr
def reps : List Int → Nat → List Nat
  | [], _ => []
  | p :: r, s => List.replicate p.toNat s ++ reps r (s + 1)
def place (n high : Nat) : List Nat → Nat → List Int → List Int
  | [], _, arr => arr
  | s :: r, a, arr => place n high r (seek n high n (adv n a)) (arr.set a s)
def spreadL (x0 : Int) (log : Nat) (ps : List Int) : List Int :=
  place (2 ^ log) (tops ps 0 (2 ^ log) (List.replicate (2 ^ log) x0)).1 (reps ps 0) 0 (tops ps 0 (2 ^ log) (List.replicate (2 ^ log) x0)).2

def pos (n j : Nat) : Nat := (j * (n / 2 + n / 8 + 3)) % n

theorem adv_pos (n j : Nat) : adv n (pos n j) = pos n (j + 1) := by
  unfold adv pos
  rw [Nat.add_assoc, Nat.add_assoc, Nat.mod_add_mod, Nat.add_mul, Nat.one_mul, Nat.add_assoc]

theorem odd_mul {s : Nat} (hs : s % 2 = 1) : ∀ (k x : Nat), 2 ^ k ∣ s * x → 2 ^ k ∣ x := by
  intro k
  induction k with
  | zero => intro x _; simp
  | succ k ih =>
    intro x h
    have h2 : 2 ∣ s * x := Nat.dvd_trans ⟨2 ^ k, by rw [Nat.pow_succ, Nat.mul_comm]⟩ h
    have hx : x % 2 = 0 := by
      have : (s * x) % 2 = 0 := Nat.mod_eq_zero_of_dvd h2
      rw [Nat.mul_mod, hs, Nat.one_mul, Nat.mod_mod] at this
      exact this
    obtain ⟨y, rfl⟩ : ∃ y, x = 2 * y := ⟨x / 2, by omega⟩
    rw [Nat.pow_succ, Nat.mul_comm (2 ^ k) 2, show s * (2 * y) = 2 * (s * y) by rw [Nat.mul_left_comm]] at h
    rw [Nat.pow_succ, Nat.mul_comm (2 ^ k) 2]
    exact Nat.mul_dvd_mul_left 2 (ih y (Nat.dvd_of_mul_dvd_mul_left (by omega) h))

theorem step_odd {log : Nat} (h : 5 ≤ log) : (2 ^ log / 2 + 2 ^ log / 8 + 3) % 2 = 1 := by
  obtain ⟨k, rfl⟩ : ∃ k, log = k + 5 := ⟨log - 5, by omega⟩
  have : 2 ^ (k + 5) = 32 * 2 ^ k := by rw [Nat.pow_add, Nat.mul_comm]
  omega

theorem pos_inj {log : Nat} (h : 5 ≤ log) {i j : Nat} (hij : i < j) (hj : j < 2 ^ log) : pos (2 ^ log) i ≠ pos (2 ^ log) j := by
  unfold pos
  generalize hst : 2 ^ log / 2 + 2 ^ log / 8 + 3 = st
  have hodd : st % 2 = 1 := by rw [← hst]; exact step_odd h
  intro e
  have hle : i * st ≤ j * st := Nat.mul_le_mul_right _ (by omega)
  have hd : 2 ^ log ∣ st * (j - i) := by
    rw [Nat.mul_comm, Nat.sub_mul]
    exact Nat.dvd_of_mod_eq_zero (Nat.sub_mod_eq_zero_of_mod_eq e.symm)
  have := Nat.le_of_dvd (by omega) (odd_mul hodd _ _ hd)
  omega

theorem nodup_le : ∀ (n : Nat) (l : List Nat), l.Nodup → (∀ a ∈ l, a < n) → l.length ≤ n := by
  intro n
  induction n with
  | zero => intro l _ h; cases l with
    | nil => simp
    | cons a r => exact absurd (h a (by simp)) (by omega)
  | succ n ih =>
    intro l hd h
    by_cases hn : n ∈ l
    · have := ih (l.erase n) (hd.erase n) (fun a ha => by
        have h1 := h a (List.mem_of_mem_erase ha)
        have h2 : a ≠ n := fun e => by subst e; exact hd.not_mem_erase ha
        omega)
      rw [List.length_erase_of_mem hn] at this
      omega
    · have := ih l hd (fun a ha => by
        have h1 := h a ha
        have h2 : a ≠ n := fun e => by subst e; exact hn ha
        omega)
      omega
theorem nodup_all {n : Nat} {l : List Nat} (hd : l.Nodup) (h : ∀ a ∈ l, a < n) (hl : l.length = n) {a : Nat} (ha : a < n) : a ∈ l := by
  refine Classical.byContradiction fun hn => ?_
  have := nodup_le n (a :: l) (List.nodup_cons.2 ⟨hn, hd⟩) (fun b hb => (List.mem_cons.1 hb).elim (fun e => e ▸ ha) (h b))
  simp at this; omega

def usedFrom (n high j : Nat) : List Nat := ((List.range' j (n - j)).map (pos n)).filter (· < high)
theorem usedFrom_lt {n high j : Nat} (h : j < n) : usedFrom n high j = if pos n j < high then pos n j :: usedFrom n high (j + 1) else usedFrom n high (j + 1) := by
  unfold usedFrom
  rw [show n - j = (n - (j + 1)) + 1 from by omega, List.range'_succ, List.map_cons, List.filter_cons]
  simp
theorem usedFrom_end (n high : Nat) : usedFrom n high n = [] := by unfold usedFrom; simp
theorem pos_lt {n : Nat} (h : 0 < n) (j : Nat) : pos n j < n := Nat.mod_lt _ h
theorem pos_zero (n : Nat) : pos n 0 = 0 := by simp [pos]
theorem pos_n (n : Nat) : pos n n = 0 := by simp [pos, Nat.mul_mod_right]

theorem seek_used {n high : Nat} (hh : 0 < high) : ∀ (d j f : Nat), j + d = n → d ≤ f → seek n high f (pos n j) = (usedFrom n high j).headD 0 := by
  intro d
  induction d with
  | zero =>
    intro j f hj _
    obtain rfl : j = n := by omega
    rw [usedFrom_end, pos_n]
    cases f with
    | zero => rfl
    | succ f => unfold seek; rw [if_pos hh]; rfl
  | succ d ih =>
    intro j f hj hf
    obtain ⟨f, rfl⟩ : ∃ g, f = g + 1 := ⟨f - 1, by omega⟩
    rw [usedFrom_lt (by omega)]
    unfold seek
    split
    · rfl
    · rw [adv_pos]; exact ih (j + 1) f (by omega) (by omega)
/-- the walk comes below high -/
theorem seek_lt {n high : Nat} (hh : 0 < high) : ∀ (d j f : Nat), j + d = n → d ≤ f → seek n high f (pos n j) < high := by
  intro d
  induction d with
  | zero =>
    intro j f hj _
    obtain rfl : j = n := by omega
    rw [pos_n]
    cases f with
    | zero => exact hh
    | succ f => unfold seek; rw [if_pos hh]; exact hh
  | succ d ih =>
    intro j f hj hf
    obtain ⟨f, rfl⟩ : ∃ g, f = g + 1 := ⟨f - 1, by omega⟩
    unfold seek
    split
    · assumption
    · rw [adv_pos]; exact ih (j + 1) f (by omega) (by omega)

def setAt : List (Nat × Nat) → List Int → List Int
  | [], arr => arr
  | (q, s) :: r, arr => setAt r (arr.set q s)

theorem place_used {n high : Nat} (hh : 0 < high) : ∀ (syms : List Nat) (j a : Nat) (arr : List Int), j ≤ n → syms.length ≤ (usedFrom n high j).length → (syms ≠ [] → (usedFrom n high j).headD 0 = a) →
    place n high syms a arr = setAt ((usedFrom n high j).zip syms) arr := by
  intro syms
  induction syms with
  | nil => intro j a arr _ _ _; simp [place, setAt]
  | cons s r ih =>
    intro j a arr hj hlen ha
    have ha := ha (by simp)
    -- the place of a in the walk
    have key : ∀ (d j : Nat), j + d = n → (s :: r).length ≤ (usedFrom n high j).length → (usedFrom n high j).headD 0 = a → ∃ i, i < n ∧ j ≤ i ∧ pos n i = a ∧ usedFrom n high j = a :: usedFrom n high (i + 1) := by
      intro d
      induction d with
      | zero =>
        intro j hj hl _
        obtain rfl : j = n := by omega
        rw [usedFrom_end] at hl; simp at hl
      | succ d ihd =>
        intro j hj hl hd
        have e := usedFrom_lt (high := high) (show j < n by omega)
        by_cases hp : pos n j < high
        · rw [if_pos hp] at e
          rw [e] at hd
          have : pos n j = a := hd
          exact ⟨j, by omega, Nat.le_refl _, this, by rw [e, this]⟩
        · rw [if_neg hp] at e
          rw [e] at hl hd ⊢
          obtain ⟨i, h1, h2, h3, h4⟩ := ihd (j + 1) (by omega) hl hd
          exact ⟨i, h1, by omega, h3, h4⟩
    obtain ⟨i, h1, h2, h3, h4⟩ := key (n - j) j (by omega) hlen ha
    rw [h4] at hlen ⊢
    simp only [List.length_cons] at hlen
    rw [place, List.zip_cons_cons, setAt]
    refine ih (i + 1) _ _ (by omega) (by omega) (fun hr => ?_)
    rw [← h3, adv_pos]
    exact (seek_used hh (n - (i + 1)) (i + 1) n (by omega) (by omega)).symm
end Go.Pu
/- Plain laws: each symbol has as many states as its part says. -/
namespace Go.Pu
set_option linter.unusedVariables false

def negs : List Int → Nat → List Nat
  | [], _ => []
  | p :: r, s => if p = -1 then s :: negs r (s + 1) else negs r (s + 1)
def toI (l : List Nat) : List Int := l.map Int.ofNat

theorem tops_spec : ∀ (ps : List Int) (s high : Nat) (arr : List Int), (negs ps s).length ≤ high → high ≤ arr.length →
    tops ps s high arr = (high - (negs ps s).length, arr.take (high - (negs ps s).length) ++ toI (negs ps s).reverse ++ arr.drop high) := by
  intro ps
  induction ps with
  | nil => intro s high arr h1 h2; simp [tops, negs, toI]
  | cons p r ih =>
    intro s high arr h1 h2
    unfold tops negs
    unfold negs at h1
    by_cases hp : p = -1
    · rw [if_pos hp, if_pos hp]
      rw [if_pos hp] at h1
      simp only [List.length_cons] at h1 ⊢
      rw [ih (s + 1) (high - 1) _ (by omega) (by simp; omega)]
      congr 1
      · omega
      · have hlt : high - 1 < arr.length := by omega
        rw [List.take_set_of_le (by omega), show high - 1 - (negs r (s + 1)).length = high - ((negs r (s + 1)).length + 1) from by omega]
        have : (arr.set (high - 1) (s : Int)).drop (high - 1) = (s : Int) :: arr.drop high := by
          rw [List.drop_eq_getElem_cons (by simp; omega)]
          simp only [List.getElem_set_self]
          rw [show high - 1 + 1 = high from by omega, List.drop_set_of_lt (by omega)]
        rw [this]
        simp [toI]
    · rw [if_neg hp, if_neg hp]
      rw [if_neg hp] at h1
      exact ih (s + 1) high arr h1 h2

theorem setAt_length : ∀ (l : List (Nat × Nat)) (arr : List Int), (setAt l arr).length = arr.length
  | [], _ => rfl
  | (q, s) :: r, arr => by rw [setAt, setAt_length]; simp
theorem setAt_other {q : Nat} : ∀ (l : List (Nat × Nat)) (arr : List Int), (∀ x ∈ l, x.1 ≠ q) → (setAt l arr)[q]? = arr[q]?
  | [], _, _ => rfl
  | (a, s) :: r, arr, h => by
    rw [setAt, setAt_other r _ fun x hx => h x (List.mem_cons_of_mem _ hx), List.getElem?_set_ne (h (a, s) (by simp))]
theorem setAt_get : ∀ (us : List Nat) (ss : List Nat) (arr : List Int) (t : Nat), us.Nodup → us.length = ss.length → (∀ q ∈ us, q < arr.length) → (ht : t < us.length) → (ht' : t < ss.length) →
    (setAt (us.zip ss) arr)[us[t]]? = some (ss[t] : Int) := by
  intro us
  induction us with
  | nil => intro ss arr t _ _ _ ht; simp at ht
  | cons u us ih =>
    intro ss arr t hd hl hb ht ht'
    cases ss with
    | nil => simp at hl
    | cons x ss =>
      obtain ⟨h1, h2⟩ := List.nodup_cons.1 hd
      rw [List.zip_cons_cons, setAt]
      cases t with
      | zero =>
        simp only [List.getElem_cons_zero]
        rw [setAt_other _ _ (fun y hy => fun e => h1 (by have := (List.of_mem_zip (a := y.1) (b := y.2) hy).1; rw [e] at this; exact this))]
        have : u < arr.length := hb u (by simp)
        simp [this]
      | succ t =>
        simp only [List.getElem_cons_succ]
        exact ih ss _ t h2 (by simpa using hl) (fun q hq => by simpa using hb q (List.mem_cons_of_mem _ hq)) (by simpa using ht) (by simpa using ht')

theorem perm_range : ∀ (n : Nat) (l : List Nat), l.Nodup → (∀ a ∈ l, a < n) → l.length = n → l.Perm (List.range n) := by
  intro n
  induction n with
  | zero => intro l _ _ h; rw [List.length_eq_zero_iff.1 h]; exact List.Perm.refl _
  | succ n ih =>
    intro l hd h hl
    have hn : n ∈ l := nodup_all hd h hl (by omega)
    have p1 := List.perm_cons_erase hn
    have p2 := ih (l.erase n) (hd.erase n) (fun a ha => by
      have h1 := h a (List.mem_of_mem_erase ha)
      have h2 : a ≠ n := fun e => by subst e; exact hd.not_mem_erase ha
      omega) (by rw [List.length_erase_of_mem hn]; omega)
    rw [List.range_succ]
    exact p1.trans ((p2.cons n).trans (List.perm_append_singleton n _).symm)

theorem reps_len : ∀ (ps : List Int) (s : Nat), (∀ p ∈ ps, -1 ≤ p) → ((reps ps s).length : Int) + (negs ps s).length = sumP ps := by
  intro ps
  induction ps with
  | nil => intro s _; simp [reps, negs, sumP]
  | cons p r ih =>
    intro s h
    have := ih (s + 1) fun q hq => h q (List.mem_cons_of_mem _ hq)
    have hp := h p (by simp)
    rw [sumP_cons]
    unfold reps negs partsI
    by_cases h1 : p = -1
    · rw [if_pos h1, if_pos (by omega)]; subst h1; simp; omega
    · rw [if_neg h1, if_neg (by omega)]; simp; omega
theorem reps_count : ∀ (ps : List Int) (s i : Nat), (reps ps s).count (s + i) = if h : i < ps.length then ps[i].toNat else 0 := by
  intro ps
  induction ps with
  | nil => intro s i; simp [reps]
  | cons p r ih =>
    intro s i
    have low : ∀ (ps : List Int) (s a : Nat), a < s → (reps ps s).count a = 0 := by
      intro ps
      induction ps with
      | nil => intro s a _; simp [reps]
      | cons p r ih =>
        intro s a h
        unfold reps
        rw [List.count_append, ih (s + 1) a (by omega), List.count_replicate]
        simp; omega
    unfold reps
    rw [List.count_append, List.count_replicate]
    cases i with
    | zero => rw [Nat.add_zero, low r (s + 1) s (by omega)]; simp
    | succ i =>
      rw [show s + (i + 1) = s + 1 + i from by omega, ih (s + 1) i]
      have : (s == s + 1 + i) = false := by simp; omega
      rw [this]; simp
theorem negs_count : ∀ (ps : List Int) (s i : Nat), (negs ps s).count (s + i) = if h : i < ps.length then (if ps[i] = -1 then 1 else 0) else 0 := by
  intro ps
  induction ps with
  | nil => intro s i; simp [negs]
  | cons p r ih =>
    intro s i
    have low : ∀ (ps : List Int) (s a : Nat), a < s → (negs ps s).count a = 0 := by
      intro ps
      induction ps with
      | nil => intro s a _; simp [negs]
      | cons p r ih =>
        intro s a h
        unfold negs
        split
        · rw [List.count_cons, ih (s + 1) a (by omega)]; simp; omega
        · exact ih (s + 1) a (by omega)
    unfold negs
    cases i with
    | zero =>
      rw [Nat.add_zero]
      by_cases h : p = -1
      · rw [if_pos h, List.count_cons, low r (s + 1) s (by omega)]; simp [h]
      · rw [if_neg h, low r (s + 1) s (by omega)]; simp [h]
    | succ i =>
      have e : s + (i + 1) = s + 1 + i := by omega
      by_cases h : p = -1
      · rw [if_pos h, List.count_cons, e, ih (s + 1) i]
        have : (s == s + 1 + i) = false := by simp; omega
        rw [this]; simp
      · rw [if_neg h, e, ih (s + 1) i]; simp
theorem negs_len : ∀ (ps : List Int) (s : Nat), (negs ps s).length = ps.count (-1) := by
  intro ps
  induction ps with
  | nil => intro s; rfl
  | cons p r ih =>
    intro s
    unfold negs
    rw [List.count_cons]
    by_cases h : p = -1
    · rw [if_pos h]; simp [ih, h]
    · rw [if_neg h]; simp [ih, h]
theorem negs_at : ∀ (ps : List Int) (s i : Nat) (h : i < ps.length), ps[i] = -1 → (negs ps s)[(ps.take i).count (-1)]? = some (s + i) := by
  intro ps
  induction ps with
  | nil => intro s i h; simp at h
  | cons p r ih =>
    intro s i h hp
    unfold negs
    cases i with
    | zero => simp only [List.getElem_cons_zero] at hp; rw [if_pos hp]; simp
    | succ i =>
      simp only [List.getElem_cons_succ] at hp
      have := ih (s + 1) i (by simpa using h) hp
      rw [List.take_succ_cons, List.count_cons]
      by_cases h1 : p = -1
      · rw [if_pos h1]; simp only [h1, beq_self_eq_true, if_true, List.getElem?_cons_succ]; rw [this]; congr 1; omega
      · rw [if_neg h1]
        have : (p == -1) = false := by simpa using h1
        rw [this]; simp only [Bool.false_eq_true, if_false, Nat.add_zero]
        rw [‹(negs r (s + 1))[_]? = _›]; congr 1; omega

theorem usedFrom_zero {log high : Nat} (hl : 5 ≤ log) (hh : high ≤ 2 ^ log) : (usedFrom (2 ^ log) high 0).Nodup ∧ (∀ a ∈ usedFrom (2 ^ log) high 0, a < high) ∧ (usedFrom (2 ^ log) high 0).length = high := by
  have hn : 0 < 2 ^ log := Nat.two_pow_pos log
  have hnd : ((List.range (2 ^ log)).map (pos (2 ^ log))).Nodup := by
    rw [List.nodup_iff_pairwise_ne, List.pairwise_map]
    refine List.pairwise_iff_getElem.2 fun i j hi hj hij => ?_
    simp only [List.length_range] at hi hj
    simp only [List.getElem_range]
    exact pos_inj hl hij hj
  have hp := perm_range (2 ^ log) _ hnd (fun a ha => by
    obtain ⟨j, _, rfl⟩ := List.mem_map.1 ha
    exact pos_lt hn j) (by simp)
  unfold usedFrom
  rw [Nat.sub_zero, ← List.range_eq_range']
  refine ⟨hnd.filter _, fun a ha => by simpa using (List.mem_filter.1 ha).2, ?_⟩
  rw [(hp.filter _).length_eq]
  have : ∀ m : Nat, high ≤ m → ((List.range m).filter (· < high)).length = high := by
    intro m
    induction m with
    | zero => intro h; simp; omega
    | succ m ih =>
      intro h
      rw [List.range_succ, List.filter_append, List.length_append]
      by_cases hm : high ≤ m
      · rw [ih hm]; simp; omega
      · have : high = m + 1 := by omega
        subst this
        have : (List.range m).filter (fun x => decide (x < m + 1)) = List.range m := List.filter_eq_self.2 fun a ha => by have := List.mem_range.1 ha; simp; omega
        rw [this]; simp
  exact this _ hh

/-- symbols over states, as parts say -/
structure Lay (log : Nat) (ps : List Int) (S : List Int) : Prop where
  len : S.length = 2 ^ log
  cnt : ∀ s (h : s < ps.length), S.count (s : Int) = (partsI ps[s]).toNat
  rng : ∀ x ∈ S, ∃ s : Nat, s < ps.length ∧ x = s
  top : ∀ s (h : s < ps.length), ps[s] = -1 → S[2 ^ log - 1 - (ps.take s).count (-1)]? = some (s : Int)

theorem toI_count (l : List Nat) (s : Nat) : (toI l).count (s : Int) = l.count s := by
  induction l with
  | nil => rfl
  | cons a r ih =>
    show List.count _ (Int.ofNat a :: toI r) = _
    rw [List.count_cons, List.count_cons, ih]
    congr 1
    by_cases h : a = s
    · subst h; simp
    · simp [h]; omega
theorem reps_rng : ∀ (ps : List Int) (s : Nat), ∀ x ∈ reps ps s, s ≤ x ∧ x < s + ps.length := by
  intro ps
  induction ps with
  | nil => intro s x h; simp [reps] at h
  | cons p r ih =>
    intro s x h
    unfold reps at h
    rcases List.mem_append.1 h with h | h
    · have := (List.mem_replicate.1 h).2; simp; omega
    · have := ih (s + 1) x h; simp; omega
theorem negs_rng : ∀ (ps : List Int) (s : Nat), ∀ x ∈ negs ps s, s ≤ x ∧ x < s + ps.length := by
  intro ps
  induction ps with
  | nil => intro s x h; simp [negs] at h
  | cons p r ih =>
    intro s x h
    unfold negs at h
    split at h
    · rcases List.mem_cons.1 h with rfl | h
      · simp
      · have := ih (s + 1) x h; simp; omega
    · have := ih (s + 1) x h; simp; omega

/-- the states below the rare symbols, and these -/
theorem spread_form {log : Nat} {ps : List Int} (h : May log ps) (x0 : Int) :
    ∃ low : List Int, spreadL x0 log ps = low ++ toI (negs ps 0).reverse ∧ low.Perm (toI (reps ps 0)) ∧ ((negs ps 0).length + low.length = 2 ^ log) ∧
      (∀ t (h1 : t < (usedFrom (2 ^ log) (reps ps 0).length 0).length) (h2 : t < (reps ps 0).length), low[(usedFrom (2 ^ log) (reps ps 0).length 0)[t]]? = some ((reps ps 0)[t] : Int)) := by
  have hrl := reps_len ps 0 h.low
  rw [h.sum] at hrl
  have hpow : ((2 ^ log : Nat) : Int) = (2 : Int) ^ log := by simp
  obtain ⟨m, hm⟩ : ∃ m, m = (negs ps 0).length := ⟨_, rfl⟩
  obtain ⟨hi, hhi⟩ : ∃ x, x = (reps ps 0).length := ⟨_, rfl⟩
  rw [← hm, ← hhi] at hrl
  have hsum : hi + m = 2 ^ log := by omega
  have ht := tops_spec ps 0 (2 ^ log) (List.replicate (2 ^ log) x0) (by omega) (by simp)
  rw [← hm, show 2 ^ log - m = hi from by omega] at ht
  have e2 : (List.replicate (2 ^ log) x0).take hi = List.replicate hi x0 := by rw [List.take_replicate]; congr 1; omega
  have e3 : (List.replicate (2 ^ log) x0).drop (2 ^ log) = [] := by simp
  rw [e2, e3, List.append_nil] at ht
  unfold spreadL
  rw [ht]
  simp only
  obtain ⟨u1, u2, u3⟩ := usedFrom_zero (high := hi) h.log5 (by omega)
  by_cases h0 : hi = 0
  · have hr : reps ps 0 = [] := List.length_eq_zero_iff.1 (by omega)
    rw [hr, h0]
    refine ⟨[], by simp [place], by simp [toI], by simp; omega, fun t _ h2 => by simp at h2⟩
  · have hp := place_used (n := 2 ^ log) (high := hi) (by omega) (reps ps 0) 0 0 (List.replicate hi x0 ++ toI (negs ps 0).reverse) (by omega) (by rw [u3]; omega) (fun _ => by
      rw [usedFrom_lt (Nat.two_pow_pos log), pos_zero, if_pos (by omega)]; rfl)
    rw [hp]
    generalize hU : usedFrom (2 ^ log) hi 0 = U at *
    have hb : ∀ q ∈ U, q < (List.replicate hi x0 ++ toI (negs ps 0).reverse).length := fun q hq => by have := u2 q hq; simp; omega
    obtain ⟨R, hR⟩ : ∃ R, R = setAt (U.zip (reps ps 0)) (List.replicate hi x0 ++ toI (negs ps 0).reverse) := ⟨_, rfl⟩
    have hRl : R.length = hi + m := by rw [hR, setAt_length]; simp [toI, hm]
    have hRd : R.drop hi = toI (negs ps 0).reverse := by
      apply List.ext_getElem?
      intro i
      rw [List.getElem?_drop, hR, setAt_other _ _ (fun x hx => by
        have := u2 _ (List.of_mem_zip (a := x.1) (b := x.2) hx).1
        omega), List.getElem?_append_right (by simp)]
      simp
    have hget : ∀ t (h1 : t < U.length) (h2 : t < (reps ps 0).length), R[U[t]]? = some ((reps ps 0)[t] : Int) := fun t h1 h2 => by
      rw [hR]; exact setAt_get U _ _ t u1 (by omega) hb h1 h2
    rw [← hR]
    refine ⟨R.take hi, by rw [← hRd, List.take_append_drop], ?_, by rw [List.length_take]; omega, fun t h1 h2 => ?_⟩
    · have p1 : (U.map fun q => R.getD q 0).Perm ((List.range hi).map fun q => R.getD q 0) := (perm_range hi U u1 u2 u3).map _
      have p2 : (U.map fun q => R.getD q 0) = toI (reps ps 0) := by
        apply List.ext_getElem
        · simp [toI]; omega
        · intro t h1 h2
          simp only [List.length_map] at h1
          have := hget t h1 (by omega)
          simp only [List.getElem_map, toI, List.getD_eq_getElem?_getD, this]
          rfl
      have p3 : ((List.range hi).map fun q => R.getD q 0) = R.take hi := by
        apply List.ext_getElem
        · simp; omega
        · intro q h1 h2
          simp only [List.length_map, List.length_range] at h1
          simp only [List.getElem_map, List.getElem_range, List.getElem_take, List.getD_eq_getElem?_getD]
          rw [List.getElem?_eq_getElem (by omega)]; rfl
      rw [p2, p3] at p1
      exact p1.symm
    · subst hhi
      simp only [hU] at h1 ⊢
      have := hget t h1 h2
      rw [List.getElem?_take_of_lt (u2 _ (List.getElem_mem h1))]
      exact this

theorem spread_lay {log : Nat} {ps : List Int} (h : May log ps) (x0 : Int) : Lay log ps (spreadL x0 log ps) := by
  obtain ⟨low, e, hp, hl, _⟩ := spread_form h x0
  rw [e]
  refine ⟨by simp [toI]; omega, fun s hs => ?_, fun x hx => ?_, fun s hs hps => ?_⟩
  · rw [List.count_append, hp.count_eq, toI_count, toI_count, List.count_reverse]
    have h1 := reps_count ps 0 s
    have h2 := negs_count ps 0 s
    rw [Nat.zero_add] at h1 h2
    rw [h1, h2, dif_pos hs, dif_pos hs]
    have := h.low _ (List.getElem_mem hs)
    unfold partsI
    split <;> split <;> omega
  · rcases List.mem_append.1 hx with hx | hx
    · have hx := hp.mem_iff.1 hx
      obtain ⟨s, hs, rfl⟩ := List.mem_map.1 hx
      exact ⟨s, by have := reps_rng ps 0 s hs; omega, rfl⟩
    · obtain ⟨s, hs, rfl⟩ := List.mem_map.1 hx
      exact ⟨s, by have := negs_rng ps 0 s (List.mem_reverse.1 hs); omega, rfl⟩
  · have h1 := negs_at ps 0 s hs hps
    rw [Nat.zero_add] at h1
    have hlt : (ps.take s).count (-1) < (negs ps 0).length := by
      rcases Nat.lt_or_ge ((ps.take s).count (-1)) (negs ps 0).length with h | h
      · exact h
      · rw [List.getElem?_eq_none h] at h1; cases h1
    rw [List.getElem?_append_right (by omega)]
    unfold toI
    rw [List.getElem?_map, List.getElem?_reverse (by omega), show (negs ps 0).length - 1 - (2 ^ log - 1 - List.count (-1) (List.take s ps) - low.length) = (ps.take s).count (-1) from by omega, h1]
    rfl

theorem spread_x0 {log : Nat} {ps : List Int} (h : May log ps) (x y : Int) : spreadL x log ps = spreadL y log ps := by
  obtain ⟨a, e1, p1, l1, g1⟩ := spread_form h x
  obtain ⟨b, e2, p2, l2, g2⟩ := spread_form h y
  rw [e1, e2]
  congr 1
  apply List.ext_getElem?
  intro q
  have hrl : (reps ps 0).length = a.length := by rw [p1.length_eq]; simp [toI]
  by_cases hq : q < a.length
  · obtain ⟨u1, u2, u3⟩ := usedFrom_zero (high := (reps ps 0).length) h.log5 (by omega)
    have hm := nodup_all u1 u2 u3 (a := q) (by omega)
    obtain ⟨t, ht, rfl⟩ := List.getElem_of_mem hm
    rw [g1 t ht (by omega), g2 t ht (by omega)]
  · rw [List.getElem?_eq_none (by omega), List.getElem?_eq_none (by omega)]
end Go.Pu
/- Plain laws: what each state tells. -/
namespace Go.Pu
set_option linter.unusedVariables false

/-- how many bits a number has -/
def bl (k : Nat) : Nat := if k = 0 then 0 else k.log2 + 1
theorem bl_zero : bl 0 = 0 := rfl
theorem bl_lt (k : Nat) : k < 2 ^ bl k := by
  unfold bl
  split
  · subst_vars; simp
  · exact Nat.lt_log2_self
theorem bl_le {k : Nat} (h : k ≠ 0) : 2 ^ (bl k - 1) ≤ k := by
  unfold bl
  rw [if_neg h, Nat.add_sub_cancel]
  exact Nat.log2_self_le h
theorem bl_pos {k : Nat} (h : k ≠ 0) : 1 ≤ bl k := by unfold bl; rw [if_neg h]; omega
theorem bl_le_of {k n : Nat} (h : k < 2 ^ n) : bl k ≤ n := by
  by_cases h0 : k = 0
  · subst h0; simp [bl]
  · rcases Nat.lt_or_ge n (bl k) with hh | hh
    · have h1 := bl_le h0
      have := Nat.pow_le_pow_right (n := 2) (by omega) (show n ≤ bl k - 1 by omega)
      omega
    · exact hh
theorem bl_eq {k n : Nat} (h1 : 2 ^ n ≤ k) (h2 : k < 2 ^ (n + 1)) : bl k = n + 1 := by
  have h0 : k ≠ 0 := by have := Nat.two_pow_pos n; omega
  have a := bl_le_of h2
  have b := bl_lt k
  rcases Nat.lt_or_ge (bl k) (n + 1) with h | h
  · have := Nat.pow_le_pow_right (n := 2) (by omega) (show bl k ≤ n by omega)
    omega
  · omega

/-- of a state: its symbol's part, and how often the symbol stands below it -/
def kAt (ps S : List Int) (i : Nat) : Nat := (partsI (ps.getD (S.getD i 0).toNat 0)).toNat + (S.take i).count (S.getD i 0)
def entOf (log : Nat) (x : Int) (k : Nat) : Int × Int × Int := (x, ((log + 1 - bl k : Nat) : Int), ((k * 2 ^ (log + 1 - bl k) : Nat) : Int) - 2 ^ log)
def entAt (log : Nat) (ps S : List Int) (i : Nat) : Int × Int × Int := entOf log (S.getD i 0) (kAt ps S i)
def buildL (log : Nat) (ps : List Int) : List (Int × Int × Int) := (List.range (2 ^ log)).map (entAt log ps (spreadL 0 log ps))

theorem buildL_length (log : Nat) (ps : List Int) : (buildL log ps).length = 2 ^ log := by simp [buildL]

theorem count_take_lt {S : List Int} {i : Nat} (h : i < S.length) : (S.take i).count S[i] + 1 ≤ S.count S[i] := by
  have e : S = S.take i ++ S[i] :: S.drop (i + 1) := by rw [← List.drop_eq_getElem_cons h, List.take_append_drop]
  have : S.count S[i] = (S.take i ++ S[i] :: S.drop (i + 1)).count S[i] := by rw [← e]
  rw [this, List.count_append, List.count_cons]; simp

theorem partsI_sum {log : Nat} {ps : List Int} (h : May log ps) {s : Nat} (hs : s < ps.length) : (partsI ps[s]).toNat ≤ 2 ^ log := by
  have := part_le h.low (List.getElem_mem hs)
  rw [h.sum] at this
  have hpow : ((2 ^ log : Nat) : Int) = (2 : Int) ^ log := by simp
  rw [← hpow] at this
  exact Int.toNat_le.2 this

/-- the numbers of states -/
theorem kAt_bd {log : Nat} {ps S : List Int} (h : May log ps) (L : Lay log ps S) {i : Nat} (hi : i < 2 ^ log) :
    ∃ s : Nat, ∃ hs : s < ps.length, S.getD i 0 = (s : Int) ∧ 1 ≤ (partsI ps[s]).toNat ∧ (partsI ps[s]).toNat ≤ 2 ^ log ∧ kAt ps S i = (partsI ps[s]).toNat + (S.take i).count (s : Int) ∧ (S.take i).count (s : Int) < (partsI ps[s]).toNat := by
  have hil : i < S.length := by rw [L.len]; exact hi
  have hg : S.getD i 0 = S[i] := by rw [List.getD_eq_getElem?_getD, List.getElem?_eq_getElem hil]; rfl
  obtain ⟨s, hs, e⟩ := L.rng _ (List.getElem_mem hil)
  have hc := count_take_lt hil
  rw [e, L.cnt s hs] at hc
  refine ⟨s, hs, by rw [hg, e], by omega, partsI_sum h hs, ?_, by omega⟩
  unfold kAt
  rw [hg, e, Int.toNat_natCast, List.getD_eq_getElem?_getD, List.getElem?_eq_getElem hs]; rfl

theorem ent_bd {log k : Nat} (h1 : 1 ≤ k) (h2 : k < 2 ^ (log + 1)) : 2 ^ log ≤ k * 2 ^ (log + 1 - bl k) ∧ (k + 1) * 2 ^ (log + 1 - bl k) ≤ 2 ^ (log + 1) ∧ bl k ≤ log + 1 ∧ 1 ≤ bl k := by
  have a := bl_le_of h2
  have b := bl_pos (k := k) (by omega)
  have c := bl_le (k := k) (by omega)
  have d := bl_lt k
  refine ⟨?_, ?_, a, b⟩
  · calc 2 ^ log = 2 ^ (bl k - 1) * 2 ^ (log + 1 - bl k) := by rw [← Nat.pow_add]; congr 1; omega
      _ ≤ k * 2 ^ (log + 1 - bl k) := Nat.mul_le_mul_right _ c
  · calc (k + 1) * 2 ^ (log + 1 - bl k) ≤ 2 ^ bl k * 2 ^ (log + 1 - bl k) := Nat.mul_le_mul_right _ d
      _ = 2 ^ (log + 1) := by rw [← Nat.pow_add]; congr 1; omega

theorem pos_hit (n j : Nat) (hn : 0 < n) : ∃ d, d < n ∧ pos n (j + d) = 0 := by
  refine ⟨(n - j % n) % n, Nat.mod_lt _ hn, ?_⟩
  unfold pos
  have : (j + (n - j % n) % n) % n = 0 := by
    rw [Nat.add_mod_mod]
    have h1 := Nat.mod_lt j hn
    have h2 := Nat.div_add_mod j n
    have : j + (n - j % n) = n * (j / n + 1) := by
      rw [Nat.mul_add, Nat.mul_one]
      generalize n * (j / n) = y at *
      generalize j % n = r at *
      omega
    rw [this, Nat.mul_mod_right]
  rw [Nat.mul_mod, this, Nat.zero_mul, Nat.zero_mod]
theorem seek_spec {n high : Nat} (hn : 0 < n) (hh : 0 < high) (j : Nat) : ∃ d, (∀ e, e < d → high ≤ pos n (j + e)) ∧ pos n (j + d) < high ∧ seek n high n (pos n j) = pos n (j + d) := by
  obtain ⟨D, hD, h0⟩ := pos_hit n j hn
  have key : ∀ (D f j : Nat), D ≤ f → pos n (j + D) < high → ∃ d, (∀ e, e < d → high ≤ pos n (j + e)) ∧ pos n (j + d) < high ∧ seek n high f (pos n j) = pos n (j + d) := by
    intro D
    induction D with
    | zero =>
      intro f j _ h
      refine ⟨0, fun e he => by omega, h, ?_⟩
      rw [Nat.add_zero] at h ⊢
      cases f with
      | zero => rfl
      | succ f => unfold seek; rw [if_pos h]
    | succ D ih =>
      intro f j hf h
      obtain ⟨f, rfl⟩ : ∃ g, f = g + 1 := ⟨f - 1, by omega⟩
      by_cases hj : pos n j < high
      · exact ⟨0, fun e he => by omega, hj, by unfold seek; rw [if_pos hj]; rfl⟩
      · obtain ⟨d, h1, h2, h3⟩ := ih f (j + 1) (by omega) (by rw [show j + 1 + D = j + (D + 1) from by omega]; exact h)
        refine ⟨d + 1, fun e he => ?_, by rw [show j + (d + 1) = j + 1 + d from by omega]; exact h2, ?_⟩
        · cases e with
          | zero => rw [Nat.add_zero]; omega
          | succ e => rw [show j + (e + 1) = j + 1 + e from by omega]; exact h1 e (by omega)
        · unfold seek; rw [if_neg hj, adv_pos, h3]; congr 1; omega
  exact key D n j (by omega) (by rw [h0]; exact hh)

theorem spread_spec {log : Nat} {ps : List Int} (h : May log ps) (x0 : Int) : ∃ arr, tops ps 0 (2 ^ log) (List.replicate (2 ^ log) x0) = ((reps ps 0).length, arr) ∧ arr.length = 2 ^ log ∧ (negs ps 0).length + (reps ps 0).length = 2 ^ log ∧ spreadL x0 log ps = place (2 ^ log) (reps ps 0).length (reps ps 0) 0 arr := by
  have hrl := reps_len ps 0 h.low
  rw [h.sum] at hrl
  have hpow : ((2 ^ log : Nat) : Int) = (2 : Int) ^ log := by simp
  have hsum : (negs ps 0).length + (reps ps 0).length = 2 ^ log := by omega
  have ht := tops_spec ps 0 (2 ^ log) (List.replicate (2 ^ log) x0) (by omega) (by simp)
  rw [show 2 ^ log - (negs ps 0).length = (reps ps 0).length from by omega] at ht
  refine ⟨_, ht, ?_, hsum, ?_⟩
  · simp [toI]; omega
  · unfold spreadL; rw [ht]
end Go.Pu
/- Plain laws: each state is reached from just one state of each symbol. -/
namespace Go.Pu
set_option linter.unusedVariables false

/-- the entry tells the way to a state -/
def inE (sym s : Int) (e : Int × Int × Int) : Bool := decide (e.1 = sym ∧ e.2.2 ≤ s ∧ s < e.2.2 + 2 ^ e.2.1.toNat)

theorem bl_div {log x j : Nat} (h1 : 2 ^ log ≤ x) (h2 : x < 2 ^ (log + 1)) (hj : j ≤ log) : bl (x / 2 ^ j) = log + 1 - j := by
  have hp := Nat.two_pow_pos j
  have a : 2 ^ (log - j) ≤ x / 2 ^ j := by
    rw [Nat.le_div_iff_mul_le hp, ← Nat.pow_add]
    rw [show log - j + j = log from by omega]; exact h1
  have b : x / 2 ^ j < 2 ^ (log - j + 1) := by
    rw [Nat.div_lt_iff_lt_mul hp, ← Nat.pow_add]
    rw [show log - j + 1 + j = log + 1 from by omega]; exact h2
  rw [bl_eq a b]; omega

/-- which number leads to x -/
theorem k_iff {log x k : Nat} (h1 : 2 ^ log ≤ x) (h2 : x < 2 ^ (log + 1)) (hk1 : 1 ≤ k) (hk2 : k < 2 ^ (log + 1)) :
    (k * 2 ^ (log + 1 - bl k) ≤ x ∧ x < (k + 1) * 2 ^ (log + 1 - bl k)) ↔ ∃ j, j ≤ log ∧ x / 2 ^ j = k := by
  have hb1 := bl_pos (k := k) (by omega)
  have hb2 := bl_le_of hk2
  constructor
  · rintro ⟨a, b⟩
    refine ⟨log + 1 - bl k, by omega, ?_⟩
    have hp := Nat.two_pow_pos (log + 1 - bl k)
    apply Nat.le_antisymm
    · have := (Nat.div_lt_iff_lt_mul hp).2 b; omega
    · exact (Nat.le_div_iff_mul_le hp).2 a
  · rintro ⟨j, hj, rfl⟩
    rw [bl_div h1 h2 hj, show log + 1 - (log + 1 - j) = j from by omega]
    have hp := Nat.two_pow_pos j
    exact ⟨Nat.div_mul_le_self _ _, by rw [Nat.mul_comm]; exact Nat.lt_mul_div_succ x hp⟩

/-- just one number of q, q+1, .., 2q-1 leads to x -/
theorem k_ex {log x q : Nat} (h1 : 2 ^ log ≤ x) (h2 : x < 2 ^ (log + 1)) (hq1 : 1 ≤ q) (hq2 : q ≤ 2 ^ log) : ∃ j, j ≤ log ∧ q ≤ x / 2 ^ j ∧ x / 2 ^ j < 2 * q := by
  have key : ∀ j, j ≤ log → x / 2 ^ j < 2 * q → ∃ j, j ≤ log ∧ q ≤ x / 2 ^ j ∧ x / 2 ^ j < 2 * q := by
    intro j
    induction j with
    | zero =>
      intro _ h
      refine ⟨0, by omega, ?_, h⟩
      rw [Nat.pow_zero, Nat.div_one]; omega
    | succ j ih =>
      intro hj h
      by_cases hx : x / 2 ^ j < 2 * q
      · exact ih (by omega) hx
      · refine ⟨j + 1, hj, ?_, h⟩
        rw [Nat.pow_succ, ← Nat.div_div_eq_div_mul]
        omega
  refine key log (Nat.le_refl _) ?_
  have : x / 2 ^ log < 2 := by
    rw [Nat.div_lt_iff_lt_mul (Nat.two_pow_pos _), Nat.mul_comm, ← Nat.pow_succ]; exact h2
  omega
theorem k_one {x q i j : Nat} (hi1 : q ≤ x / 2 ^ i) (hi2 : x / 2 ^ i < 2 * q) (hj1 : q ≤ x / 2 ^ j) (hj2 : x / 2 ^ j < 2 * q) : x / 2 ^ i = x / 2 ^ j := by
  have half : ∀ {a b : Nat}, a < b → x / 2 ^ b ≤ x / 2 ^ a / 2 := by
    intro a b h
    rw [Nat.div_div_eq_div_mul, ← Nat.pow_succ]
    exact Nat.div_le_div_left (Nat.pow_le_pow_right (by omega) h) (Nat.two_pow_pos _)
  rcases Nat.lt_trichotomy i j with h | h | h
  · have := half h; omega
  · rw [h]
  · have := half h; omega

/-- the place of an occurrence -/
theorem nth_occ {S : List Int} {v : Int} : ∀ (n c : Nat), c < (S.take n).count v → ∃ i, ∃ h : i < S.length, i < n ∧ S[i] = v ∧ (S.take i).count v = c := by
  intro n
  induction n with
  | zero => intro c h; simp at h
  | succ n ih =>
    intro c h
    by_cases hn : n < S.length
    · rw [List.take_add_one, List.getElem?_eq_getElem hn, List.count_append] at h
      simp only [Option.toList, List.count_singleton] at h
      by_cases hc : c < (S.take n).count v
      · obtain ⟨i, h1, h2, h3, h4⟩ := ih c hc
        exact ⟨i, h1, by omega, h3, h4⟩
      · by_cases hv : S[n] = v
        · have : (S[n] == v) = true := by simpa using hv
          rw [this] at h
          simp only [if_true] at h
          exact ⟨n, hn, by omega, hv, by omega⟩
        · have : (S[n] == v) = false := by simpa using hv
          rw [this] at h
          simp at h; omega
    · rw [List.take_of_length_le (by omega)] at h
      have := ih c (by rw [List.take_of_length_le (by omega)]; exact h)
      obtain ⟨i, h1, h2, h3, h4⟩ := this
      exact ⟨i, h1, by omega, h3, h4⟩
theorem occ_lt {S : List Int} {v : Int} {i j : Nat} (hi : i < S.length) (hv : S[i] = v) (hij : i < j) : (S.take i).count v < (S.take j).count v := by
  obtain ⟨d, rfl⟩ : ∃ d, j = i + 1 + d := ⟨j - (i + 1), by omega⟩
  rw [List.take_add, List.count_append, List.take_add_one, List.getElem?_eq_getElem hi, List.count_append]
  simp only [Option.toList, List.count_singleton]
  have : (S[i] == v) = true := by simpa using hv
  rw [this]; simp; omega

theorem buildL_at {log : Nat} {ps : List Int} {i : Nat} (h : i < 2 ^ log) : (buildL log ps)[i]? = some (entAt log ps (spreadL 0 log ps) i) := by
  unfold buildL
  rw [List.getElem?_map, List.getElem?_range h]; rfl

/-- what an entry's way is, by its number -/
theorem inE_iff {log : Nat} {ps : List Int} (hm : May log ps) {sy i s : Nat} (hsy : sy < ps.length) (hi : i < 2 ^ log) (hs : s < 2 ^ log) :
    inE (sy : Int) s (entAt log ps (spreadL 0 log ps) i) = true ↔
      ((spreadL 0 log ps).getD i 0 = (sy : Int) ∧ ∃ j, j ≤ log ∧ (s + 2 ^ log) / 2 ^ j = (partsI ps[sy]).toNat + ((spreadL 0 log ps).take i).count (sy : Int)) := by
  have L := spread_lay hm 0
  obtain ⟨s', hs', hg, hp1, hp2, hk, hc⟩ := kAt_bd hm L hi
  generalize hS : spreadL 0 log ps = S at *
  obtain ⟨k, hkk⟩ : ∃ k, k = kAt ps S i := ⟨_, rfl⟩
  rw [← hkk] at hk
  have hk2 : k < 2 ^ (log + 1) := by rw [Nat.pow_succ]; omega
  obtain ⟨e1, e2, e3, e4⟩ := ent_bd (log := log) (k := k) (by omega) hk2
  unfold inE entAt entOf
  rw [hg, ← hkk]
  simp only [decide_eq_true_eq, Int.toNat_natCast]
  have hpow : ((2 ^ log : Nat) : Int) = (2 : Int) ^ log := by simp
  have hpow2 : ((2 ^ (log + 1 - bl k) : Nat) : Int) = (2 : Int) ^ (log + 1 - bl k) := by simp
  rw [← hpow, ← hpow2]
  have hx1 : 2 ^ log ≤ s + 2 ^ log := by omega
  have hx2 : s + 2 ^ log < 2 ^ (log + 1) := by rw [Nat.pow_succ]; omega
  have hki := k_iff hx1 hx2 (k := k) (by omega) hk2
  constructor
  · rintro ⟨a, b, c⟩
    have hss : s' = sy := by omega
    subst hss
    refine ⟨rfl, ?_⟩
    rw [← hk]
    refine hki.1 ⟨by omega, ?_⟩
    rw [Nat.succ_mul]; omega
  · rintro ⟨a, j, hj, hje⟩
    have hss : s' = sy := by omega
    subst hss
    rw [← hk] at hje
    obtain ⟨b, c⟩ := hki.2 ⟨j, hj, hje⟩
    rw [Nat.succ_mul] at c
    exact ⟨rfl, by omega, by omega⟩

/-- just one state of the symbol leads to a state -/
theorem one_way {log : Nat} {ps : List Int} (hm : May log ps) {sy s : Nat} (hsy : sy < ps.length) (hp : ps[sy] ≠ 0) (hs : s < 2 ^ log) :
    ∃ i, ∃ hi : i < 2 ^ log, inE (sy : Int) s (entAt log ps (spreadL 0 log ps) i) = true ∧ ∀ j, j < 2 ^ log → inE (sy : Int) s (entAt log ps (spreadL 0 log ps) j) = true → j = i := by
  have L := spread_lay hm 0
  have hl := hm.low _ (List.getElem_mem hsy)
  have hq1 : 1 ≤ (partsI ps[sy]).toNat := by unfold partsI; split <;> omega
  have hq2 := partsI_sum hm hsy
  have hcnt := L.cnt sy hsy
  obtain ⟨j, hj, a, b⟩ := k_ex (log := log) (x := s + 2 ^ log) (q := (partsI ps[sy]).toNat) (by omega) (by rw [Nat.pow_succ]; omega) hq1 hq2
  have hfind := nth_occ (S := spreadL 0 log ps) (v := (sy : Int)) (2 ^ log) ((s + 2 ^ log) / 2 ^ j - (partsI ps[sy]).toNat) (by
    rw [List.take_of_length_le (by rw [L.len]; exact Nat.le_refl _), hcnt]; omega)
  obtain ⟨i, h1, h2, h3, h4⟩ := hfind
  have hgd : ∀ {i} (h : i < (spreadL 0 log ps).length), (spreadL 0 log ps).getD i 0 = (spreadL 0 log ps)[i] := fun h => by rw [List.getD_eq_getElem?_getD, List.getElem?_eq_getElem h]; rfl
  refine ⟨i, h2, (inE_iff hm hsy h2 hs).2 ⟨by rw [hgd h1, h3], j, hj, by rw [h4]; omega⟩, fun i' hi' h => ?_⟩
  obtain ⟨g, j', hj', e⟩ := (inE_iff hm hsy hi' hs).1 h
  have hi'l : i' < (spreadL 0 log ps).length := by rw [L.len]; exact hi'
  rw [hgd hi'l] at g
  have hclt := count_take_lt hi'l
  rw [g, hcnt] at hclt
  have := k_one (x := s + 2 ^ log) (q := (partsI ps[sy]).toNat) (i := j) (j := j') a b (by omega) (by omega)
  have hceq : ((spreadL 0 log ps).take i').count (sy : Int) = ((spreadL 0 log ps).take i).count (sy : Int) := by omega
  rcases Nat.lt_trichotomy i' i with h | h | h
  · have := occ_lt hi'l g h; omega
  · exact h
  · have := occ_lt h1 h3 h; omega
end Go.Pu
