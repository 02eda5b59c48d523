/- Plain laws: how often symbols are, in parts of a power of two. -/
import Derived.Test.YtoepfjgekpdddaaEnKit
import Derived.Test.YtoepfjgekpdddaaEnStr
namespace Go.Pu
set_option linter.unusedVariables false

def partsI (p : Int) : Int := if p < 0 then 1 else p
def fits : Int → List Int → Bool
  | left, [] => left == 0
  | left, p :: r => if p < -1 ∨ left < partsI p then false else fits (left - partsI p) r
def sumP (ps : List Int) : Int := (ps.map partsI).sum
def headB (log : Int) (ps : List Int) : Bool := decide (5 ≤ log ∧ log ≤ 15 ∧ 1 ≤ ps.length ∧ ps.length ≤ 256 ∧ ps.getLast? ≠ some 0)
def mayB (log : Int) (ps : List Int) : Bool := headB log ps && fits (2 ^ log.toNat) ps

theorem sumP_cons (p : Int) (ps : List Int) : sumP (p :: ps) = partsI p + sumP ps := by simp [sumP]
theorem sumP_append (a b : List Int) : sumP (a ++ b) = sumP a + sumP b := by simp [sumP]
theorem partsI_nonneg {p : Int} (h : -1 ≤ p) : 0 ≤ partsI p := by unfold partsI; split <;> omega
theorem sumP_nonneg {ps : List Int} (h : ∀ p ∈ ps, -1 ≤ p) : 0 ≤ sumP ps := by
  induction ps with
  | nil => simp [sumP]
  | cons p r ih =>
    rw [sumP_cons]
    have := partsI_nonneg (h p (by simp))
    have := ih fun q hq => h q (List.mem_cons_of_mem _ hq)
    omega
theorem fits_iff : ∀ {ps : List Int} {left : Int}, fits left ps = true ↔ (∀ p ∈ ps, -1 ≤ p) ∧ sumP ps = left
  | [], left => by simp [fits, sumP]; constructor <;> intro h <;> omega
  | p :: r, left => by
    rw [fits, sumP_cons]
    by_cases h : p < -1 ∨ left < partsI p
    · rw [if_pos h]
      constructor
      · intro h; cases h
      · rintro ⟨h1, h2⟩
        have hp := h1 p (by simp)
        have := sumP_nonneg (ps := r) fun q hq => h1 q (List.mem_cons_of_mem _ hq)
        omega
    · rw [if_neg h, fits_iff]
      constructor
      · rintro ⟨h1, h2⟩
        exact ⟨fun q hq => by rcases List.mem_cons.1 hq with rfl | hq; · omega
                              · exact h1 q hq, by omega⟩
      · rintro ⟨h1, h2⟩
        exact ⟨fun q hq => h1 q (List.mem_cons_of_mem _ hq), by omega⟩

/-- Counts that may be. -/
structure May (log : Nat) (ps : List Int) : Prop where
  log5 : 5 ≤ log
  log15 : log ≤ 15
  len1 : 1 ≤ ps.length
  len256 : ps.length ≤ 256
  last : ps.getLast? ≠ some 0
  low : ∀ p ∈ ps, -1 ≤ p
  sum : sumP ps = 2 ^ log

theorem may_of {log : Int} {ps : List Int} (h : mayB log ps = true) : ∃ l : Nat, log = l ∧ May l ps := by
  unfold mayB headB at h
  simp only [Bool.and_eq_true, decide_eq_true_eq] at h
  obtain ⟨⟨h1, h2, h3, h4, h5⟩, h6⟩ := h
  obtain ⟨l, rfl⟩ : ∃ l : Nat, log = l := ⟨log.toNat, by omega⟩
  rw [fits_iff, Int.toNat_natCast] at h6
  exact ⟨l, rfl, by omega, by omega, h3, h4, h5, h6.1, h6.2⟩
theorem May.b {log : Nat} {ps : List Int} (h : May log ps) : mayB log ps = true := by
  unfold mayB headB
  simp only [Bool.and_eq_true, decide_eq_true_eq]
  have h1 := h.log5
  have h2 := h.log15
  refine ⟨⟨by omega, by omega, h.len1, h.len256, h.last⟩, ?_⟩
  rw [fits_iff, Int.toNat_natCast]
  exact ⟨h.low, h.sum⟩
theorem pow_le15 {log : Nat} (h : log ≤ 15) : (2 : Int) ^ log ≤ 32768 := by
  have : 2 ^ log ≤ 2 ^ 15 := Nat.pow_le_pow_right (by omega) h
  have e : ((2 ^ log : Nat) : Int) = (2 : Int) ^ log := by simp
  omega
theorem pow_pos' (log : Nat) : (1 : Int) ≤ 2 ^ log := by
  have : 1 ≤ 2 ^ log := Nat.one_le_two_pow
  have e : ((2 ^ log : Nat) : Int) = (2 : Int) ^ log := by simp
  omega
theorem part_le {ps : List Int} (h : ∀ p ∈ ps, -1 ≤ p) {p : Int} (hp : p ∈ ps) : partsI p ≤ sumP ps := by
  induction ps with
  | nil => cases hp
  | cons q r ih =>
    rw [sumP_cons]
    have h0 := partsI_nonneg (h q (by simp))
    have h1 := sumP_nonneg (ps := r) fun q hq => h q (List.mem_cons_of_mem _ hq)
    rcases List.mem_cons.1 hp with rfl | hp
    · omega
    · have := ih (fun q hq => h q (List.mem_cons_of_mem _ hq)) hp
      omega
end Go.Pu
/- Plain laws: symbols laid over states. -/
namespace Go.Pu
set_option linter.unusedVariables false

def adv (n a : Nat) : Nat := (a + n / 2 + n / 8 + 3) % n
def seek (n high : Nat) : Nat → Nat → Nat
  | 0, a => a
  | f + 1, a => if a < high then a else seek n high f (adv n a)
def tops : List Int → Nat → Nat → List Int → Nat × List Int
  | [], _, high, arr => (high, arr)
  | p :: r, s, high, arr => if p = -1 then tops r (s + 1) (high - 1) (arr.set (high - 1) s) else tops r (s + 1) high arr
def reps : List Int → Nat → List Nat
  | [], _ => []
  | p :: r, s => List.replicate p.toNat s ++ reps r (s + 1)
def place (n high : Nat) : List Nat → Nat → List Int → List Int
  | [], _, arr => arr
  | s :: r, a, arr => place n high r (seek n high n (adv n a)) (arr.set a s)
def spreadL (x0 : Int) (log : Nat) (ps : List Int) : List Int :=
  place (2 ^ log) (tops ps 0 (2 ^ log) (List.replicate (2 ^ log) x0)).1 (reps ps 0) 0 (tops ps 0 (2 ^ log) (List.replicate (2 ^ log) x0)).2

def pos (n j : Nat) : Nat := (j * (n / 2 + n / 8 + 3)) % n

theorem adv_pos (n j : Nat) : adv n (pos n j) = pos n (j + 1) := by
  unfold adv pos
  rw [Nat.add_assoc, Nat.add_assoc, Nat.mod_add_mod, Nat.add_mul, Nat.one_mul, Nat.add_assoc]

theorem odd_mul {s : Nat} (hs : s % 2 = 1) : ∀ (k x : Nat), 2 ^ k ∣ s * x → 2 ^ k ∣ x := by
  intro k
  induction k with
  | zero => intro x _; simp
  | succ k ih =>
    intro x h
    have h2 : 2 ∣ s * x := Nat.dvd_trans ⟨2 ^ k, by rw [Nat.pow_succ, Nat.mul_comm]⟩ h
    have hx : x % 2 = 0 := by
      have : (s * x) % 2 = 0 := Nat.mod_eq_zero_of_dvd h2
      rw [Nat.mul_mod, hs, Nat.one_mul, Nat.mod_mod] at this
      exact this
    obtain ⟨y, rfl⟩ : ∃ y, x = 2 * y := ⟨x / 2, by omega⟩
    rw [Nat.pow_succ, Nat.mul_comm (2 ^ k) 2, show s * (2 * y) = 2 * (s * y) by rw [Nat.mul_left_comm]] at h
    rw [Nat.pow_succ, Nat.mul_comm (2 ^ k) 2]
    exact Nat.mul_dvd_mul_left 2 (ih y (Nat.dvd_of_mul_dvd_mul_left (by omega) h))

theorem step_odd {log : Nat} (h : 5 ≤ log) : (2 ^ log / 2 + 2 ^ log / 8 + 3) % 2 = 1 := by
  obtain ⟨k, rfl⟩ : ∃ k, log = k + 5 := ⟨log - 5, by omega⟩
  have : 2 ^ (k + 5) = 32 * 2 ^ k := by rw [Nat.pow_add, Nat.mul_comm]
  omega

theorem pos_inj {log : Nat} (h : 5 ≤ log) {i j : Nat} (hij : i < j) (hj : j < 2 ^ log) : pos (2 ^ log) i ≠ pos (2 ^ log) j := by
  unfold pos
  generalize hst : 2 ^ log / 2 + 2 ^ log / 8 + 3 = st
  have hodd : st % 2 = 1 := by rw [← hst]; exact step_odd h
  intro e
  have hle : i * st ≤ j * st := Nat.mul_le_mul_right _ (by omega)
  have hd : 2 ^ log ∣ st * (j - i) := by
    rw [Nat.mul_comm, Nat.sub_mul]
    exact Nat.dvd_of_mod_eq_zero (Nat.sub_mod_eq_zero_of_mod_eq e.symm)
  have := Nat.le_of_dvd (by omega) (odd_mul hodd _ _ hd)
  omega

theorem nodup_le : ∀ (n : Nat) (l : List Nat), l.Nodup → (∀ a ∈ l, a < n) → l.length ≤ n := by
  intro n
  induction n with
  | zero => intro l _ h; cases l with
    | nil => simp
    | cons a r => exact absurd (h a (by simp)) (by omega)
  | succ n ih =>
    intro l hd h
    by_cases hn : n ∈ l
    · have := ih (l.erase n) (hd.erase n) (fun a ha => by
        have h1 := h a (List.mem_of_mem_erase ha)
        have h2 : a ≠ n := fun e => by subst e; exact hd.not_mem_erase ha
        omega)
      rw [List.length_erase_of_mem hn] at this
      omega
    · have := ih l hd (fun a ha => by
        have h1 := h a ha
        have h2 : a ≠ n := fun e => by subst e; exact hn ha
        omega)
      omega
theorem nodup_all {n : Nat} {l : List Nat} (hd : l.Nodup) (h : ∀ a ∈ l, a < n) (hl : l.length = n) {a : Nat} (ha : a < n) : a ∈ l := by
  refine Classical.byContradiction fun hn => ?_
  have := nodup_le n (a :: l) (List.nodup_cons.2 ⟨hn, hd⟩) (fun b hb => (List.mem_cons.1 hb).elim (fun e => e ▸ ha) (h b))
  simp at this; omega

def usedFrom (n high j : Nat) : List Nat := ((List.range' j (n - j)).map (pos n)).filter (· < high)
theorem usedFrom_lt {n high j : Nat} (h : j < n) : usedFrom n high j = if pos n j < high then pos n j :: usedFrom n high (j + 1) else usedFrom n high (j + 1) := by
  unfold usedFrom
  rw [show n - j = (n - (j + 1)) + 1 from by omega, List.range'_succ, List.map_cons, List.filter_cons]
  simp
theorem usedFrom_end (n high : Nat) : usedFrom n high n = [] := by unfold usedFrom; simp
theorem pos_lt {n : Nat} (h : 0 < n) (j : Nat) : pos n j < n := Nat.mod_lt _ h
theorem pos_zero (n : Nat) : pos n 0 = 0 := by simp [pos]
theorem pos_n (n : Nat) : pos n n = 0 := by simp [pos, Nat.mul_mod_right]

theorem seek_used {n high : Nat} (hh : 0 < high) : ∀ (d j f : Nat), j + d = n → d ≤ f → seek n high f (pos n j) = (usedFrom n high j).headD 0 := by
  intro d
  induction d with
  | zero =>
    intro j f hj _
    obtain rfl : j = n := by omega
    rw [usedFrom_end, pos_n]
    cases f with
    | zero => rfl
    | succ f => unfold seek; rw [if_pos hh]; rfl
  | succ d ih =>
    intro j f hj hf
    obtain ⟨f, rfl⟩ : ∃ g, f = g + 1 := ⟨f - 1, by omega⟩
    rw [usedFrom_lt (by omega)]
    unfold seek
    split
    · rfl
    · rw [adv_pos]; exact ih (j + 1) f (by omega) (by omega)
/-- the walk comes below high -/
theorem seek_lt {n high : Nat} (hh : 0 < high) : ∀ (d j f : Nat), j + d = n → d ≤ f → seek n high f (pos n j) < high := by
  intro d
  induction d with
  | zero =>
    intro j f hj _
    obtain rfl : j = n := by omega
    rw [pos_n]
    cases f with
    | zero => exact hh
    | succ f => unfold seek; rw [if_pos hh]; exact hh
  | succ d ih =>
    intro j f hj hf
    obtain ⟨f, rfl⟩ : ∃ g, f = g + 1 := ⟨f - 1, by omega⟩
    unfold seek
    split
    · assumption
    · rw [adv_pos]; exact ih (j + 1) f (by omega) (by omega)

def setAt : List (Nat × Nat) → List Int → List Int
  | [], arr => arr
  | (q, s) :: r, arr => setAt r (arr.set q s)

theorem place_used {n high : Nat} (hh : 0 < high) : ∀ (syms : List Nat) (j a : Nat) (arr : List Int), j ≤ n → syms.length ≤ (usedFrom n high j).length → (syms ≠ [] → (usedFrom n high j).headD 0 = a) →
    place n high syms a arr = setAt ((usedFrom n high j).zip syms) arr := by
  intro syms
  induction syms with
  | nil => intro j a arr _ _ _; simp [place, setAt]
  | cons s r ih =>
    intro j a arr hj hlen ha
    have ha := ha (by simp)
    -- the place of a in the walk
    have key : ∀ (d j : Nat), j + d = n → (s :: r).length ≤ (usedFrom n high j).length → (usedFrom n high j).headD 0 = a → ∃ i, i < n ∧ j ≤ i ∧ pos n i = a ∧ usedFrom n high j = a :: usedFrom n high (i + 1) := by
      intro d
      induction d with
      | zero =>
        intro j hj hl _
        obtain rfl : j = n := by omega
        rw [usedFrom_end] at hl; simp at hl
      | succ d ihd =>
        intro j hj hl hd
        have e := usedFrom_lt (high := high) (show j < n by omega)
        by_cases hp : pos n j < high
        · rw [if_pos hp] at e
          rw [e] at hd
          have : pos n j = a := hd
          exact ⟨j, by omega, Nat.le_refl _, this, by rw [e, this]⟩
        · rw [if_neg hp] at e
          rw [e] at hl hd ⊢
          obtain ⟨i, h1, h2, h3, h4⟩ := ihd (j + 1) (by omega) hl hd
          exact ⟨i, h1, by omega, h3, h4⟩
    obtain ⟨i, h1, h2, h3, h4⟩ := key (n - j) j (by omega) hlen ha
    rw [h4] at hlen ⊢
    simp only [List.length_cons] at hlen
    rw [place, List.zip_cons_cons, setAt]
    refine ih (i + 1) _ _ (by omega) (by omega) (fun hr => ?_)
    rw [← h3, adv_pos]
    exact (seek_used hh (n - (i + 1)) (i + 1) n (by omega) (by omega)).symm
end Go.Pu
/- Plain laws: each symbol has as many states as its part says. -/
namespace Go.Pu
set_option linter.unusedVariables false

def negs : List Int → Nat → List Nat
  | [], _ => []
  | p :: r, s => if p = -1 then s :: negs r (s + 1) else negs r (s + 1)
def toI (l : List Nat) : List Int := l.map Int.ofNat

theorem tops_spec : ∀ (ps : List Int) (s high : Nat) (arr : List Int), (negs ps s).length ≤ high → high ≤ arr.length →
    tops ps s high arr = (high - (negs ps s).length, arr.take (high - (negs ps s).length) ++ toI (negs ps s).reverse ++ arr.drop high) := by
  intro ps
  induction ps with
  | nil => intro s high arr h1 h2; simp [tops, negs, toI]
  | cons p r ih =>
    intro s high arr h1 h2
    unfold tops negs
    unfold negs at h1
    by_cases hp : p = -1
    · rw [if_pos hp, if_pos hp]
      rw [if_pos hp] at h1
      simp only [List.length_cons] at h1 ⊢
      rw [ih (s + 1) (high - 1) _ (by omega) (by simp; omega)]
      congr 1
      · omega
      · have hlt : high - 1 < arr.length := by omega
        rw [List.take_set_of_le (by omega), show high - 1 - (negs r (s + 1)).length = high - ((negs r (s + 1)).length + 1) from by omega]
        have : (arr.set (high - 1) (s : Int)).drop (high - 1) = (s : Int) :: arr.drop high := by
          rw [List.drop_eq_getElem_cons (by simp; omega)]
          simp only [List.getElem_set_self]
          rw [show high - 1 + 1 = high from by omega, List.drop_set_of_lt (by omega)]
        rw [this]
        simp [toI]
    · rw [if_neg hp, if_neg hp]
      rw [if_neg hp] at h1
      exact ih (s + 1) high arr h1 h2

theorem setAt_length : ∀ (l : List (Nat × Nat)) (arr : List Int), (setAt l arr).length = arr.length
  | [], _ => rfl
  | (q, s) :: r, arr => by rw [setAt, setAt_length]; simp
theorem setAt_other {q : Nat} : ∀ (l : List (Nat × Nat)) (arr : List Int), (∀ x ∈ l, x.1 ≠ q) → (setAt l arr)[q]? = arr[q]?
  | [], _, _ => rfl
  | (a, s) :: r, arr, h => by
    rw [setAt, setAt_other r _ fun x hx => h x (List.mem_cons_of_mem _ hx), List.getElem?_set_ne (h (a, s) (by simp))]
theorem setAt_get : ∀ (us : List Nat) (ss : List Nat) (arr : List Int) (t : Nat), us.Nodup → us.length = ss.length → (∀ q ∈ us, q < arr.length) → (ht : t < us.length) → (ht' : t < ss.length) →
    (setAt (us.zip ss) arr)[us[t]]? = some (ss[t] : Int) := by
  intro us
  induction us with
  | nil => intro ss arr t _ _ _ ht; simp at ht
  | cons u us ih =>
    intro ss arr t hd hl hb ht ht'
    cases ss with
    | nil => simp at hl
    | cons x ss =>
      obtain ⟨h1, h2⟩ := List.nodup_cons.1 hd
      rw [List.zip_cons_cons, setAt]
      cases t with
      | zero =>
        simp only [List.getElem_cons_zero]
        rw [setAt_other _ _ (fun y hy => fun e => h1 (by have := (List.of_mem_zip (a := y.1) (b := y.2) hy).1; rw [e] at this; exact this))]
        have : u < arr.length := hb u (by simp)
        simp [this]
      | succ t =>
        simp only [List.getElem_cons_succ]
        exact ih ss _ t h2 (by simpa using hl) (fun q hq => by simpa using hb q (List.mem_cons_of_mem _ hq)) (by simpa using ht) (by simpa using ht')

theorem perm_range : ∀ (n : Nat) (l : List Nat), l.Nodup → (∀ a ∈ l, a < n) → l.length = n → l.Perm (List.range n) := by
  intro n
  induction n with
  | zero => intro l _ _ h; rw [List.length_eq_zero_iff.1 h]; exact List.Perm.refl _
  | succ n ih =>
    intro l hd h hl
    have hn : n ∈ l := nodup_all hd h hl (by omega)
    have p1 := List.perm_cons_erase hn
    have p2 := ih (l.erase n) (hd.erase n) (fun a ha => by
      have h1 := h a (List.mem_of_mem_erase ha)
      have h2 : a ≠ n := fun e => by subst e; exact hd.not_mem_erase ha
      omega) (by rw [List.length_erase_of_mem hn]; omega)
    rw [List.range_succ]
    exact p1.trans ((p2.cons n).trans (List.perm_append_singleton n _).symm)

theorem reps_len : ∀ (ps : List Int) (s : Nat), (∀ p ∈ ps, -1 ≤ p) → ((reps ps s).length : Int) + (negs ps s).length = sumP ps := by
  intro ps
  induction ps with
  | nil => intro s _; simp [reps, negs, sumP]
  | cons p r ih =>
    intro s h
    have := ih (s + 1) fun q hq => h q (List.mem_cons_of_mem _ hq)
    have hp := h p (by simp)
    rw [sumP_cons]
    unfold reps negs partsI
    by_cases h1 : p = -1
    · rw [if_pos h1, if_pos (by omega)]; subst h1; simp; omega
    · rw [if_neg h1, if_neg (by omega)]; simp; omega
theorem reps_count : ∀ (ps : List Int) (s i : Nat), (reps ps s).count (s + i) = if h : i < ps.length then ps[i].toNat else 0 := by
  intro ps
  induction ps with
  | nil => intro s i; simp [reps]
  | cons p r ih =>
    intro s i
    have low : ∀ (ps : List Int) (s a : Nat), a < s → (reps ps s).count a = 0 := by
      intro ps
      induction ps with
      | nil => intro s a _; simp [reps]
      | cons p r ih =>
        intro s a h
        unfold reps
        rw [List.count_append, ih (s + 1) a (by omega), List.count_replicate]
        simp; omega
    unfold reps
    rw [List.count_append, List.count_replicate]
    cases i with
    | zero => rw [Nat.add_zero, low r (s + 1) s (by omega)]; simp
    | succ i =>
      rw [show s + (i + 1) = s + 1 + i from by omega, ih (s + 1) i]
      have : (s == s + 1 + i) = false := by simp; omega
      rw [this]; simp
theorem negs_count : ∀ (ps : List Int) (s i : Nat), (negs ps s).count (s + i) = if h : i < ps.length then (if ps[i] = -1 then 1 else 0) else 0 := by
  intro ps
  induction ps with
  | nil => intro s i; simp [negs]
  | cons p r ih =>
    intro s i
    have low : ∀ (ps : List Int) (s a : Nat), a < s → (negs ps s).count a = 0 := by
      intro ps
      induction ps with
      | nil => intro s a _; simp [negs]
      | cons p r ih =>
        intro s a h
        unfold negs
        split
        · rw [List.count_cons, ih (s + 1) a (by omega)]; simp; omega
        · exact ih (s + 1) a (by omega)
    unfold negs
    cases i with
    | zero =>
      rw [Nat.add_zero]
      by_cases h : p = -1
      · rw [if_pos h, List.count_cons, low r (s + 1) s (by omega)]; simp [h]
      · rw [if_neg h, low r (s + 1) s (by omega)]; simp [h]
    | succ i =>
      have e : s + (i + 1) = s + 1 + i := by omega
      by_cases h : p = -1
      · rw [if_pos h, List.count_cons, e, ih (s + 1) i]
        have : (s == s + 1 + i) = false := by simp; omega
        rw [this]; simp
      · rw [if_neg h, e, ih (s + 1) i]; simp
theorem negs_len : ∀ (ps : List Int) (s : Nat), (negs ps s).length = ps.count (-1) := by
  intro ps
  induction ps with
  | nil => intro s; rfl
  | cons p r ih =>
    intro s
    unfold negs
    rw [List.count_cons]
    by_cases h : p = -1
    · rw [if_pos h]; simp [ih, h]
    · rw [if_neg h]; simp [ih, h]
theorem negs_at : ∀ (ps : List Int) (s i : Nat) (h : i < ps.length), ps[i] = -1 → (negs ps s)[(ps.take i).count (-1)]? = some (s + i) := by
  intro ps
  induction ps with
  | nil => intro s i h; simp at h
  | cons p r ih =>
    intro s i h hp
    unfold negs
    cases i with
    | zero => simp only [List.getElem_cons_zero] at hp; rw [if_pos hp]; simp
    | succ i =>
      simp only [List.getElem_cons_succ] at hp
      have := ih (s + 1) i (by simpa using h) hp
      rw [List.take_succ_cons, List.count_cons]
      by_cases h1 : p = -1
      · rw [if_pos h1]; simp only [h1, beq_self_eq_true, if_true, List.getElem?_cons_succ]; rw [this]; congr 1; omega
      · rw [if_neg h1]
        have : (p == -1) = false := by simpa using h1
        rw [this]; simp only [Bool.false_eq_true, if_false, Nat.add_zero]
        rw [‹(negs r (s + 1))[_]? = _›]; congr 1; omega

theorem usedFrom_zero {log high : Nat} (hl : 5 ≤ log) (hh : high ≤ 2 ^ log) : (usedFrom (2 ^ log) high 0).Nodup ∧ (∀ a ∈ usedFrom (2 ^ log) high 0, a < high) ∧ (usedFrom (2 ^ log) high 0).length = high := by
  have hn : 0 < 2 ^ log := Nat.two_pow_pos log
  have hnd : ((List.range (2 ^ log)).map (pos (2 ^ log))).Nodup := by
    rw [List.nodup_iff_pairwise_ne, List.pairwise_map]
    refine List.pairwise_iff_getElem.2 fun i j hi hj hij => ?_
    simp only [List.length_range] at hi hj
    simp only [List.getElem_range]
    exact pos_inj hl hij hj
  have hp := perm_range (2 ^ log) _ hnd (fun a ha => by
    obtain ⟨j, _, rfl⟩ := List.mem_map.1 ha
    exact pos_lt hn j) (by simp)
  unfold usedFrom
  rw [Nat.sub_zero, ← List.range_eq_range']
  refine ⟨hnd.filter _, fun a ha => by simpa using (List.mem_filter.1 ha).2, ?_⟩
  rw [(hp.filter _).length_eq]
  have : ∀ m : Nat, high ≤ m → ((List.range m).filter (· < high)).length = high := by
    intro m
    induction m with
    | zero => intro h; simp; omega
    | succ m ih =>
      intro h
      rw [List.range_succ, List.filter_append, List.length_append]
      by_cases hm : high ≤ m
      · rw [ih hm]; simp; omega
      · have : high = m + 1 := by omega
        subst this
        have : (List.range m).filter (fun x => decide (x < m + 1)) = List.range m := List.filter_eq_self.2 fun a ha => by have := List.mem_range.1 ha; simp; omega
        rw [this]; simp
  exact this _ hh

/-- symbols over states, as parts say -/
structure Lay (log : Nat) (ps : List Int) (S : List Int) : Prop where
  len : S.length = 2 ^ log
  cnt : ∀ s (h : s < ps.length), S.count (s : Int) = (partsI ps[s]).toNat
  rng : ∀ x ∈ S, ∃ s : Nat, s < ps.length ∧ x = s
  top : ∀ s (h : s < ps.length), ps[s] = -1 → S[2 ^ log - 1 - (ps.take s).count (-1)]? = some (s : Int)

theorem toI_count (l : List Nat) (s : Nat) : (toI l).count (s : Int) = l.count s := by
  induction l with
  | nil => rfl
  | cons a r ih =>
    show List.count _ (Int.ofNat a :: toI r) = _
    rw [List.count_cons, List.count_cons, ih]
    congr 1
    by_cases h : a = s
    · subst h; simp
    · simp [h]; omega
theorem reps_rng : ∀ (ps : List Int) (s : Nat), ∀ x ∈ reps ps s, s ≤ x ∧ x < s + ps.length := by
  intro ps
  induction ps with
  | nil => intro s x h; simp [reps] at h
  | cons p r ih =>
    intro s x h
    unfold reps at h
    rcases List.mem_append.1 h with h | h
    · have := (List.mem_replicate.1 h).2; simp; omega
    · have := ih (s + 1) x h; simp; omega
theorem negs_rng : ∀ (ps : List Int) (s : Nat), ∀ x ∈ negs ps s, s ≤ x ∧ x < s + ps.length := by
  intro ps
  induction ps with
  | nil => intro s x h; simp [negs] at h
  | cons p r ih =>
    intro s x h
    unfold negs at h
    split at h
    · rcases List.mem_cons.1 h with rfl | h
      · simp
      · have := ih (s + 1) x h; simp; omega
    · have := ih (s + 1) x h; simp; omega

/-- the states below the rare symbols, and these -/
theorem spread_form {log : Nat} {ps : List Int} (h : May log ps) (x0 : Int) :
    ∃ low : List Int, spreadL x0 log ps = low ++ toI (negs ps 0).reverse ∧ low.Perm (toI (reps ps 0)) ∧ ((negs ps 0).length + low.length = 2 ^ log) ∧
      (∀ t (h1 : t < (usedFrom (2 ^ log) (reps ps 0).length 0).length) (h2 : t < (reps ps 0).length), low[(usedFrom (2 ^ log) (reps ps 0).length 0)[t]]? = some ((reps ps 0)[t] : Int)) := by
  have hrl := reps_len ps 0 h.low
  rw [h.sum] at hrl
  have hpow : ((2 ^ log : Nat) : Int) = (2 : Int) ^ log := by simp
  obtain ⟨m, hm⟩ : ∃ m, m = (negs ps 0).length := ⟨_, rfl⟩
  obtain ⟨hi, hhi⟩ : ∃ x, x = (reps ps 0).length := ⟨_, rfl⟩
  rw [← hm, ← hhi] at hrl
  have hsum : hi + m = 2 ^ log := by omega
  have ht := tops_spec ps 0 (2 ^ log) (List.replicate (2 ^ log) x0) (by omega) (by simp)
  rw [← hm, show 2 ^ log - m = hi from by omega] at ht
  have e2 : (List.replicate (2 ^ log) x0).take hi = List.replicate hi x0 := by rw [List.take_replicate]; congr 1; omega
  have e3 : (List.replicate (2 ^ log) x0).drop (2 ^ log) = [] := by simp
  rw [e2, e3, List.append_nil] at ht
  unfold spreadL
  rw [ht]
  simp only
  obtain ⟨u1, u2, u3⟩ := usedFrom_zero (high := hi) h.log5 (by omega)
  by_cases h0 : hi = 0
  · have hr : reps ps 0 = [] := List.length_eq_zero_iff.1 (by omega)
    rw [hr, h0]
    refine ⟨[], by simp [place], by simp [toI], by simp; omega, fun t _ h2 => by simp at h2⟩
  · have hp := place_used (n := 2 ^ log) (high := hi) (by omega) (reps ps 0) 0 0 (List.replicate hi x0 ++ toI (negs ps 0).reverse) (by omega) (by rw [u3]; omega) (fun _ => by
      rw [usedFrom_lt (Nat.two_pow_pos log), pos_zero, if_pos (by omega)]; rfl)
    rw [hp]
    generalize hU : usedFrom (2 ^ log) hi 0 = U at *
    have hb : ∀ q ∈ U, q < (List.replicate hi x0 ++ toI (negs ps 0).reverse).length := fun q hq => by have := u2 q hq; simp; omega
    obtain ⟨R, hR⟩ : ∃ R, R = setAt (U.zip (reps ps 0)) (List.replicate hi x0 ++ toI (negs ps 0).reverse) := ⟨_, rfl⟩
    have hRl : R.length = hi + m := by rw [hR, setAt_length]; simp [toI, hm]
    have hRd : R.drop hi = toI (negs ps 0).reverse := by
      apply List.ext_getElem?
      intro i
      rw [List.getElem?_drop, hR, setAt_other _ _ (fun x hx => by
        have := u2 _ (List.of_mem_zip (a := x.1) (b := x.2) hx).1
        omega), List.getElem?_append_right (by simp)]
      simp
    have hget : ∀ t (h1 : t < U.length) (h2 : t < (reps ps 0).length), R[U[t]]? = some ((reps ps 0)[t] : Int) := fun t h1 h2 => by
      rw [hR]; exact setAt_get U _ _ t u1 (by omega) hb h1 h2
    rw [← hR]
    refine ⟨R.take hi, by rw [← hRd, List.take_append_drop], ?_, by rw [List.length_take]; omega, fun t h1 h2 => ?_⟩
    · have p1 : (U.map fun q => R.getD q 0).Perm ((List.range hi).map fun q => R.getD q 0) := (perm_range hi U u1 u2 u3).map _
      have p2 : (U.map fun q => R.getD q 0) = toI (reps ps 0) := by
        apply List.ext_getElem
        · simp [toI]; omega
        · intro t h1 h2
          simp only [List.length_map] at h1
          have := hget t h1 (by omega)
          simp only [List.getElem_map, toI, List.getD_eq_getElem?_getD, this]
          rfl
      have p3 : ((List.range hi).map fun q => R.getD q 0) = R.take hi := by
        apply List.ext_getElem
        · simp; omega
        · intro q h1 h2
          simp only [List.length_map, List.length_range] at h1
          simp only [List.getElem_map, List.getElem_range, List.getElem_take, List.getD_eq_getElem?_getD]
          rw [List.getElem?_eq_getElem (by omega)]; rfl
      rw [p2, p3] at p1
      exact p1.symm
    · subst hhi
      simp only [hU] at h1 ⊢
      have := hget t h1 h2
      rw [List.getElem?_take_of_lt (u2 _ (List.getElem_mem h1))]
      exact this

theorem spread_lay {log : Nat} {ps : List Int} (h : May log ps) (x0 : Int) : Lay log ps (spreadL x0 log ps) := by
  obtain ⟨low, e, hp, hl, _⟩ := spread_form h x0
  rw [e]
  refine ⟨by simp [toI]; omega, fun s hs => ?_, fun x hx => ?_, fun s hs hps => ?_⟩
  · rw [List.count_append, hp.count_eq, toI_count, toI_count, List.count_reverse]
    have h1 := reps_count ps 0 s
    have h2 := negs_count ps 0 s
    rw [Nat.zero_add] at h1 h2
    rw [h1, h2, dif_pos hs, dif_pos hs]
    have := h.low _ (List.getElem_mem hs)
    unfold partsI
    split <;> split <;> omega
  · rcases List.mem_append.1 hx with hx | hx
    · have hx := hp.mem_iff.1 hx
      obtain ⟨s, hs, rfl⟩ := List.mem_map.1 hx
      exact ⟨s, by have := reps_rng ps 0 s hs; omega, rfl⟩
    · obtain ⟨s, hs, rfl⟩ := List.mem_map.1 hx
      exact ⟨s, by have := negs_rng ps 0 s (List.mem_reverse.1 hs); omega, rfl⟩
  · have h1 := negs_at ps 0 s hs hps
    rw [Nat.zero_add] at h1
    have hlt : (ps.take s).count (-1) < (negs ps 0).length := by
      rcases Nat.lt_or_ge ((ps.take s).count (-1)) (negs ps 0).length with h | h
      · exact h
      · rw [List.getElem?_eq_none h] at h1; cases h1
    rw [List.getElem?_append_right (by omega)]
    unfold toI
    rw [List.getElem?_map, List.getElem?_reverse (by omega), show (negs ps 0).length - 1 - (2 ^ log - 1 - List.count (-1) (List.take s ps) - low.length) = (ps.take s).count (-1) from by omega, h1]
    rfl

theorem spread_x0 {log : Nat} {ps : List Int} (h : May log ps) (x y : Int) : spreadL x log ps = spreadL y log ps := by
  obtain ⟨a, e1, p1, l1, g1⟩ := spread_form h x
  obtain ⟨b, e2, p2, l2, g2⟩ := spread_form h y
  rw [e1, e2]
  congr 1
  apply List.ext_getElem?
  intro q
  have hrl : (reps ps 0).length = a.length := by rw [p1.length_eq]; simp [toI]
  by_cases hq : q < a.length
  · obtain ⟨u1, u2, u3⟩ := usedFrom_zero (high := (reps ps 0).length) h.log5 (by omega)
    have hm := nodup_all u1 u2 u3 (a := q) (by omega)
    obtain ⟨t, ht, rfl⟩ := List.getElem_of_mem hm
    rw [g1 t ht (by omega), g2 t ht (by omega)]
  · rw [List.getElem?_eq_none (by omega), List.getElem?_eq_none (by omega)]
end Go.Pu
/- Plain laws: what each state tells. -/
namespace Go.Pu
set_option linter.unusedVariables false

/-- how many bits a number has -/
def bl (k : Nat) : Nat := if k = 0 then 0 else k.log2 + 1
theorem bl_zero : bl 0 = 0 := rfl
theorem bl_lt (k : Nat) : k < 2 ^ bl k := by
  unfold bl
  split
  · subst_vars; simp
  · exact Nat.lt_log2_self
theorem bl_le {k : Nat} (h : k ≠ 0) : 2 ^ (bl k - 1) ≤ k := by
  unfold bl
  rw [if_neg h, Nat.add_sub_cancel]
  exact Nat.log2_self_le h
theorem bl_pos {k : Nat} (h : k ≠ 0) : 1 ≤ bl k := by unfold bl; rw [if_neg h]; omega
theorem bl_le_of {k n : Nat} (h : k < 2 ^ n) : bl k ≤ n := by
  by_cases h0 : k = 0
  · subst h0; simp [bl]
  · rcases Nat.lt_or_ge n (bl k) with hh | hh
    · have h1 := bl_le h0
      have := Nat.pow_le_pow_right (n := 2) (by omega) (show n ≤ bl k - 1 by omega)
      omega
    · exact hh
theorem bl_eq {k n : Nat} (h1 : 2 ^ n ≤ k) (h2 : k < 2 ^ (n + 1)) : bl k = n + 1 := by
  have h0 : k ≠ 0 := by have := Nat.two_pow_pos n; omega
  have a := bl_le_of h2
  have b := bl_lt k
  rcases Nat.lt_or_ge (bl k) (n + 1) with h | h
  · have := Nat.pow_le_pow_right (n := 2) (by omega) (show bl k ≤ n by omega)
    omega
  · omega

/-- of a state: its symbol's part, and how often the symbol stands below it -/
def kAt (ps S : List Int) (i : Nat) : Nat := (partsI (ps.getD (S.getD i 0).toNat 0)).toNat + (S.take i).count (S.getD i 0)
def entOf (log : Nat) (x : Int) (k : Nat) : Int × Int × Int := (x, ((log + 1 - bl k : Nat) : Int), ((k * 2 ^ (log + 1 - bl k) : Nat) : Int) - 2 ^ log)
def entAt (log : Nat) (ps S : List Int) (i : Nat) : Int × Int × Int := entOf log (S.getD i 0) (kAt ps S i)
def buildL (log : Nat) (ps : List Int) : List (Int × Int × Int) := (List.range (2 ^ log)).map (entAt log ps (spreadL 0 log ps))

theorem buildL_length (log : Nat) (ps : List Int) : (buildL log ps).length = 2 ^ log := by simp [buildL]

theorem count_take_lt {S : List Int} {i : Nat} (h : i < S.length) : (S.take i).count S[i] + 1 ≤ S.count S[i] := by
  have e : S = S.take i ++ S[i] :: S.drop (i + 1) := by rw [← List.drop_eq_getElem_cons h, List.take_append_drop]
  have : S.count S[i] = (S.take i ++ S[i] :: S.drop (i + 1)).count S[i] := by rw [← e]
  rw [this, List.count_append, List.count_cons]; simp

theorem partsI_sum {log : Nat} {ps : List Int} (h : May log ps) {s : Nat} (hs : s < ps.length) : (partsI ps[s]).toNat ≤ 2 ^ log := by
  have := part_le h.low (List.getElem_mem hs)
  rw [h.sum] at this
  have hpow : ((2 ^ log : Nat) : Int) = (2 : Int) ^ log := by simp
  rw [← hpow] at this
  exact Int.toNat_le.2 this

/-- the numbers of states -/
theorem kAt_bd {log : Nat} {ps S : List Int} (h : May log ps) (L : Lay log ps S) {i : Nat} (hi : i < 2 ^ log) :
    ∃ s : Nat, ∃ hs : s < ps.length, S.getD i 0 = (s : Int) ∧ 1 ≤ (partsI ps[s]).toNat ∧ (partsI ps[s]).toNat ≤ 2 ^ log ∧ kAt ps S i = (partsI ps[s]).toNat + (S.take i).count (s : Int) ∧ (S.take i).count (s : Int) < (partsI ps[s]).toNat := by
  have hil : i < S.length := by rw [L.len]; exact hi
  have hg : S.getD i 0 = S[i] := by rw [List.getD_eq_getElem?_getD, List.getElem?_eq_getElem hil]; rfl
  obtain ⟨s, hs, e⟩ := L.rng _ (List.getElem_mem hil)
  have hc := count_take_lt hil
  rw [e, L.cnt s hs] at hc
  refine ⟨s, hs, by rw [hg, e], by omega, partsI_sum h hs, ?_, by omega⟩
  unfold kAt
  rw [hg, e, Int.toNat_natCast, List.getD_eq_getElem?_getD, List.getElem?_eq_getElem hs]; rfl

theorem ent_bd {log k : Nat} (h1 : 1 ≤ k) (h2 : k < 2 ^ (log + 1)) : 2 ^ log ≤ k * 2 ^ (log + 1 - bl k) ∧ (k + 1) * 2 ^ (log + 1 - bl k) ≤ 2 ^ (log + 1) ∧ bl k ≤ log + 1 ∧ 1 ≤ bl k := by
  have a := bl_le_of h2
  have b := bl_pos (k := k) (by omega)
  have c := bl_le (k := k) (by omega)
  have d := bl_lt k
  refine ⟨?_, ?_, a, b⟩
  · calc 2 ^ log = 2 ^ (bl k - 1) * 2 ^ (log + 1 - bl k) := by rw [← Nat.pow_add]; congr 1; omega
      _ ≤ k * 2 ^ (log + 1 - bl k) := Nat.mul_le_mul_right _ c
  · calc (k + 1) * 2 ^ (log + 1 - bl k) ≤ 2 ^ bl k * 2 ^ (log + 1 - bl k) := Nat.mul_le_mul_right _ d
      _ = 2 ^ (log + 1) := by rw [← Nat.pow_add]; congr 1; omega

theorem pos_hit (n j : Nat) (hn : 0 < n) : ∃ d, d < n ∧ pos n (j + d) = 0 := by
  refine ⟨(n - j % n) % n, Nat.mod_lt _ hn, ?_⟩
  unfold pos
  have : (j + (n - j % n) % n) % n = 0 := by
    rw [Nat.add_mod_mod]
    have h1 := Nat.mod_lt j hn
    have h2 := Nat.div_add_mod j n
    have : j + (n - j % n) = n * (j / n + 1) := by
      rw [Nat.mul_add, Nat.mul_one]
      generalize n * (j / n) = y at *
      generalize j % n = r at *
      omega
    rw [this, Nat.mul_mod_right]
  rw [Nat.mul_mod, this, Nat.zero_mul, Nat.zero_mod]
theorem seek_spec {n high : Nat} (hn : 0 < n) (hh : 0 < high) (j : Nat) : ∃ d, (∀ e, e < d → high ≤ pos n (j + e)) ∧ pos n (j + d) < high ∧ seek n high n (pos n j) = pos n (j + d) := by
  obtain ⟨D, hD, h0⟩ := pos_hit n j hn
  have key : ∀ (D f j : Nat), D ≤ f → pos n (j + D) < high → ∃ d, (∀ e, e < d → high ≤ pos n (j + e)) ∧ pos n (j + d) < high ∧ seek n high f (pos n j) = pos n (j + d) := by
    intro D
    induction D with
    | zero =>
      intro f j _ h
      refine ⟨0, fun e he => by omega, h, ?_⟩
      rw [Nat.add_zero] at h ⊢
      cases f with
      | zero => rfl
      | succ f => unfold seek; rw [if_pos h]
    | succ D ih =>
      intro f j hf h
      obtain ⟨f, rfl⟩ : ∃ g, f = g + 1 := ⟨f - 1, by omega⟩
      by_cases hj : pos n j < high
      · exact ⟨0, fun e he => by omega, hj, by unfold seek; rw [if_pos hj]; rfl⟩
      · obtain ⟨d, h1, h2, h3⟩ := ih f (j + 1) (by omega) (by rw [show j + 1 + D = j + (D + 1) from by omega]; exact h)
        refine ⟨d + 1, fun e he => ?_, by rw [show j + (d + 1) = j + 1 + d from by omega]; exact h2, ?_⟩
        · cases e with
          | zero => rw [Nat.add_zero]; omega
          | succ e => rw [show j + (e + 1) = j + 1 + e from by omega]; exact h1 e (by omega)
        · unfold seek; rw [if_neg hj, adv_pos, h3]; congr 1; omega
  exact key D n j (by omega) (by rw [h0]; exact hh)

theorem spread_spec {log : Nat} {ps : List Int} (h : May log ps) (x0 : Int) : ∃ arr, tops ps 0 (2 ^ log) (List.replicate (2 ^ log) x0) = ((reps ps 0).length, arr) ∧ arr.length = 2 ^ log ∧ (negs ps 0).length + (reps ps 0).length = 2 ^ log ∧ spreadL x0 log ps = place (2 ^ log) (reps ps 0).length (reps ps 0) 0 arr := by
  have hrl := reps_len ps 0 h.low
  rw [h.sum] at hrl
  have hpow : ((2 ^ log : Nat) : Int) = (2 : Int) ^ log := by simp
  have hsum : (negs ps 0).length + (reps ps 0).length = 2 ^ log := by omega
  have ht := tops_spec ps 0 (2 ^ log) (List.replicate (2 ^ log) x0) (by omega) (by simp)
  rw [show 2 ^ log - (negs ps 0).length = (reps ps 0).length from by omega] at ht
  refine ⟨_, ht, ?_, hsum, ?_⟩
  · simp [toI]; omega
  · unfold spreadL; rw [ht]
end Go.Pu
/- Plain laws: bits of bytes, and the numbers that they are. -/
namespace Go.Pu
open Go Go.En
set_option linter.unusedVariables false

/-- bits of bytes, the lowest of each first -/
def bits8 (c : UInt8) : List Bool := (List.range 8).map c.toNat.testBit
def bitsB : List UInt8 → List Bool
  | [] => []
  | c :: l => bits8 c ++ bitsB l
def numB : List Bool → Nat
  | [] => 0
  | b :: l => b.toNat + 2 * numB l

theorem bits8_length (c : UInt8) : (bits8 c).length = 8 := by simp [bits8]
theorem bitsB_length : ∀ l : List UInt8, (bitsB l).length = 8 * l.length
  | [] => rfl
  | c :: l => by rw [bitsB, List.length_append, bits8_length, bitsB_length l, List.length_cons]; omega
theorem bitsB_append : ∀ a b : List UInt8, bitsB (a ++ b) = bitsB a ++ bitsB b
  | [], b => rfl
  | c :: a, b => by rw [List.cons_append, bitsB, bitsB, bitsB_append a b, List.append_assoc]
theorem bits8_get (c : UInt8) {k : Nat} (h : k < 8) : (bits8 c)[k]? = some (c.toNat.testBit k) := by
  unfold bits8
  rw [List.getElem?_map, List.getElem?_range h]; rfl
theorem bitsB_get : ∀ (l : List UInt8) (i : Nat) (h : i < 8 * l.length), (bitsB l)[i]? = some ((l[i / 8]'(by omega)).toNat.testBit (i % 8))
  | [], i, h => by simp at h
  | c :: l, i, h => by
    rw [bitsB]
    rcases Nat.lt_or_ge i 8 with h8 | h8
    · rw [List.getElem?_append_left (by rw [bits8_length]; exact h8), bits8_get c h8]
      have e : i / 8 = 0 := by omega
      have e2 : i % 8 = i := by omega
      simp [e, e2]
    · rw [List.getElem?_append_right (by rw [bits8_length]; exact h8), bits8_length, bitsB_get l (i - 8) (by simp at h; omega)]
      have e : i / 8 = (i - 8) / 8 + 1 := by omega
      have e2 : (i - 8) % 8 = i % 8 := by omega
      simp [e, e2]

theorem numB_lt : ∀ l : List Bool, numB l < 2 ^ l.length
  | [] => by simp [numB]
  | b :: l => by
    have := numB_lt l
    rw [numB, List.length_cons, Nat.pow_succ]
    have : b.toNat ≤ 1 := Bool.toNat_le b
    omega
theorem numB_append : ∀ a b : List Bool, numB (a ++ b) = numB a + 2 ^ a.length * numB b
  | [], b => by simp [numB]
  | x :: a, b => by
    rw [List.cons_append, numB, numB, numB_append a b, List.length_cons, Nat.pow_succ, Nat.mul_add, ← Nat.mul_assoc, ← Nat.add_assoc, Nat.mul_comm 2 (2 ^ a.length)]
theorem numB_snoc (a : List Bool) (x : Bool) : numB (a ++ [x]) = numB a + 2 ^ a.length * x.toNat := by
  rw [numB_append]; simp [numB]

/-- the bits of a number -/
def bitsN (x : Nat) (n : Nat) : List Bool := (List.range n).map x.testBit
theorem bitsN_length (x n : Nat) : (bitsN x n).length = n := by simp [bitsN]
theorem bitsN_zero (x : Nat) : bitsN x 0 = [] := rfl
theorem bitsN_succ (x n : Nat) : bitsN x (n + 1) = bitsN x n ++ [x.testBit n] := by
  unfold bitsN; rw [List.range_succ, List.map_append]; rfl
theorem bitsN_cons (x n : Nat) : bitsN x (n + 1) = x.testBit 0 :: bitsN (x / 2) n := by
  unfold bitsN
  rw [List.range_succ_eq_map, List.map_cons, List.map_map]
  congr 1
  apply List.map_congr_left
  intro k _
  simp [Nat.testBit_succ]
theorem numB_bitsN : ∀ (n x : Nat), numB (bitsN x n) = x % 2 ^ n
  | 0, x => by simp [bitsN, numB, Nat.mod_one]
  | n + 1, x => by
    rw [bitsN_cons, numB, numB_bitsN n (x / 2), Nat.pow_succ, Nat.mul_comm (2 ^ n) 2, Nat.mod_mul]
    congr 1
    rw [Nat.testBit_zero]
    have : x % 2 = 0 ∨ x % 2 = 1 := by omega
    rcases this with h | h <;> simp [h]

theorem or_low {x i : Nat} (h : x < 2 ^ i) (b : Nat) : x ||| (b * 2 ^ i) = x + 2 ^ i * b := by
  rw [Nat.or_comm, Nat.mul_comm b, ← Nat.two_pow_add_eq_or_of_lt h b, Nat.add_comm]

theorem orI_nat {a b : Nat} (ha : a < 2 ^ 64) (hb : b < 2 ^ 64) : orI .u64 (a : Int) (b : Int) = ((a ||| b : Nat) : Int) := by
  have h := Nat.or_lt_two_pow ha hb
  unfold orI
  have e : IntKind.u64.bits = 64 := rfl
  rw [e, BitVec.ofInt_natCast, BitVec.ofInt_natCast, BitVec.toNat_or, BitVec.toNat_ofNat, BitVec.toNat_ofNat, Nat.mod_eq_of_lt ha, Nat.mod_eq_of_lt hb]
  exact w_u64 (by omega) (by have : ((a ||| b : Nat) : Int) < ((2 ^ 64 : Nat) : Int) := by exact_mod_cast h
                             omega)
theorem orI_nat8 {a b : Nat} (ha : a < 2 ^ 8) (hb : b < 2 ^ 8) : orI .u8 (a : Int) (b : Int) = ((a ||| b : Nat) : Int) := by
  have h := Nat.or_lt_two_pow ha hb
  unfold orI
  have e : IntKind.u8.bits = 8 := rfl
  rw [e, BitVec.ofInt_natCast, BitVec.ofInt_natCast, BitVec.toNat_or, BitVec.toNat_ofNat, BitVec.toNat_ofNat, Nat.mod_eq_of_lt ha, Nat.mod_eq_of_lt hb]
  exact w_u8 (by omega) (by have : ((a ||| b : Nat) : Int) < ((2 ^ 8 : Nat) : Int) := by exact_mod_cast h
                            omega)
theorem and1_u8 {a : Nat} (h : a < 2 ^ 8) : andI .u8 (a : Int) 1 = ((a % 2 : Nat) : Int) := by
  have : ∀ k : Fin 256, andI .u8 (k.val : Int) 1 = ((k.val % 2 : Nat) : Int) := by decide +kernel
  exact this ⟨a, h⟩
theorem and1_u64 {a : Nat} (h : a < 2 ^ 64) : andI .u64 (a : Int) 1 = ((a % 2 : Nat) : Int) := by
  unfold andI
  have e : IntKind.u64.bits = 64 := rfl
  rw [e, BitVec.ofInt_natCast, show (BitVec.ofInt 64 1) = BitVec.ofNat 64 1 from rfl, BitVec.toNat_and, BitVec.toNat_ofNat, BitVec.toNat_ofNat, Nat.mod_eq_of_lt h, show 1 % 2 ^ 64 = 1 from rfl, Nat.and_one_is_mod]
  exact w_u64 (by omega) (by omega)
theorem toNat_bit (x k : Nat) : (x.testBit k).toNat = x / 2 ^ k % 2 := by
  rw [Nat.testBit_eq_decide_div_mod_eq]
  have : x / 2 ^ k % 2 = 0 ∨ x / 2 ^ k % 2 = 1 := by omega
  rcases this with h | h <;> simp [h]

/-- the last bits of a row, as one number; those that lack are noughts -/
def lastN (L : List Bool) (n : Nat) : Nat := numB (L.drop (L.length - min n L.length)) * 2 ^ (n - min n L.length)
theorem lastN_lt (L : List Bool) (n : Nat) : lastN L n < 2 ^ n := by
  unfold lastN
  have h := numB_lt (L.drop (L.length - min n L.length))
  rw [List.length_drop, show L.length - (L.length - min n L.length) = min n L.length from by omega] at h
  calc _ < 2 ^ min n L.length * 2 ^ (n - min n L.length) := Nat.mul_lt_mul_of_pos_right h (Nat.two_pow_pos _)
    _ = 2 ^ n := by rw [← Nat.pow_add]; congr 1; omega

theorem take_succ_get {L : List Bool} {at' i : Nat} {b : Bool} (h : L[at' + i]? = some b) : (L.drop at').take (i + 1) = (L.drop at').take i ++ [b] := by
  rw [List.take_add_one, List.getElem?_drop, h]; rfl

/-- where the bits end that are read from the back -/
def endB (l : List UInt8) : Option Nat := match l.getLast? with
  | none => none
  | some c => if c.toNat = 0 then none else some (8 * (l.length - 1) + bl c.toNat - 1)
theorem endB_nil : endB [] = none := rfl
theorem endB_last {l : List UInt8} (h : 0 < l.length) : endB l = if (l[l.length - 1]'(by omega)).toNat = 0 then none else some (8 * (l.length - 1) + bl (l[l.length - 1]'(by omega)).toNat - 1) := by
  unfold endB
  rw [List.getLast?_eq_getElem?, List.getElem?_eq_getElem (by omega)]
theorem endB_some {l : List UInt8} {k : Nat} (h : endB l = some k) : 0 < l.length ∧ k < 8 * l.length ∧ 8 * (l.length - 1) ≤ k ∧ (bitsB l)[k]? = some true ∧ ∀ j, k < j → j < 8 * l.length → (bitsB l)[j]? = some false := by
  have h0 : 0 < l.length := by
    cases l with
    | nil => simp [endB] at h
    | cons x l => simp
  rw [endB_last h0] at h
  generalize hc : l[l.length - 1]'(by omega) = c at h
  split at h
  · cases h
  · rename_i hne
    have hk := Option.some.inj h
    have h1 := bl_pos hne
    have h2 : bl c.toNat ≤ 8 := bl_le_of (by have : c.toNat < 256 := UInt8.toNat_lt c
                                             omega)
    have h3 := bl_le hne
    have h4 := bl_lt c.toNat
    refine ⟨h0, by omega, by omega, ?_, ?_⟩
    · rw [bitsB_get l k (by omega)]
      have e : k / 8 = l.length - 1 := by omega
      have e2 : k % 8 = bl c.toNat - 1 := by omega
      simp only [e, hc, e2]
      rw [Nat.testBit_eq_decide_div_mod_eq]
      obtain ⟨m, hm⟩ : ∃ m, bl c.toNat = m + 1 := ⟨bl c.toNat - 1, by omega⟩
      rw [hm, Nat.add_sub_cancel] at h3 ⊢
      rw [hm, Nat.pow_succ] at h4
      have : c.toNat / 2 ^ m = 1 := by
        have hp := Nat.two_pow_pos m
        have := (Nat.le_div_iff_mul_le hp).2 (show 1 * 2 ^ m ≤ c.toNat by omega)
        have := (Nat.div_lt_iff_lt_mul hp).2 (show c.toNat < 2 * 2 ^ m by omega)
        omega
      simp [this]
    · intro j h5 h6
      rw [bitsB_get l j h6]
      have e : j / 8 = l.length - 1 := by omega
      simp only [e, hc]
      rw [Nat.testBit_lt_two_pow]
      exact Nat.lt_of_lt_of_le h4 (Nat.pow_le_pow_right (by omega) (by omega))
end Go.Pu
/- Plain laws: counts made of how often symbols are. -/
namespace Go.Pu
set_option linter.unusedVariables false

theorem sum_le {B : Nat} : ∀ {l : List Nat}, (∀ n ∈ l, n ≤ B) → l.sum ≤ l.length * B
  | [], _ => by simp
  | n :: l, h => by
    have h1 := h n (List.mem_cons_self ..)
    have h2 := sum_le (l := l) fun m hm => h m (List.mem_cons_of_mem _ hm)
    rw [List.sum_cons, List.length_cons, Nat.succ_mul]; omega

theorem le_sum {n : Nat} : ∀ {l : List Nat}, n ∈ l → n ≤ l.sum
  | [], h => by cases h
  | m :: l, h => by
    rw [List.sum_cons]
    rcases List.mem_cons.1 h with rfl | h
    · omega
    · have := le_sum h; omega
def partN (R S n : Nat) : Nat := if n = 0 then 0 else 1 + n * R / S
def moreN (R S n : Nat) : Nat := n * R / S
def isOn (n : Nat) : Bool := decide (0 < n)
/-- the last one that is, of the first i -/
def LastI (ns : List Nat) (i last : Nat) : Prop := (last = 0 ∧ ∀ j, j < i → ns.getD j 0 = 0) ∨ (last < i ∧ 0 < ns.getD last 0 ∧ ∀ j, last < j → j < i → ns.getD j 0 = 0)
theorem LastI.step {ns : List Nat} {i last : Nat} (h : LastI ns i last) : LastI ns (i + 1) (if 0 < ns.getD i 0 then i else last) := by
  split
  · rename_i h0
    exact .inr ⟨by omega, h0, fun j h1 h2 => by omega⟩
  · rename_i h0
    rcases h with ⟨rfl, h⟩ | ⟨h1, h2, h3⟩
    · refine .inl ⟨rfl, fun j hj => ?_⟩
      rcases Nat.lt_or_ge j i with h' | h'
      · exact h j h'
      · have : j = i := by omega
        subst this; omega
    · refine .inr ⟨by omega, h2, fun j hj hj2 => ?_⟩
      rcases Nat.lt_or_ge j i with h' | h'
      · exact h3 j hj h'
      · have : j = i := by omega
        subst this; omega
theorem LastI.one {ns : List Nat} {i a b : Nat} (ha : LastI ns i a) (hb : LastI ns i b) : a = b := by
  rcases ha with ⟨rfl, h⟩ | ⟨h1, h2, h3⟩
  · rcases hb with ⟨rfl, _⟩ | ⟨k1, k2, _⟩
    · rfl
    · have := h b k1; omega
  · rcases hb with ⟨rfl, k⟩ | ⟨k1, k2, k3⟩
    · have := k a h1; omega
    · rcases Nat.lt_trichotomy a b with h | h | h
      · have := h3 b h k1; omega
      · exact h
      · have := k3 a h h1; omega

theorem getD_at {ns : List Nat} {i : Nat} (h : i < ns.length) : ns.getD i 0 = ns[i] := by rw [List.getD_eq_getElem?_getD, List.getElem?_eq_getElem h]; rfl
theorem take_snoc {α : Type} {ns : List α} {i : Nat} (h : i < ns.length) : ns.take (i + 1) = ns.take i ++ [ns[i]] := by
  rw [List.take_add_one, List.getElem?_eq_getElem h]; rfl
theorem take_snocD {ns : List Nat} {i : Nat} (h : i < ns.length) : ns.take (i + 1) = ns.take i ++ [ns.getD i 0] := by rw [take_snoc h, getD_at h]

theorem zeros_sum : ∀ {l : List Nat}, (∀ n ∈ l, n = 0) → l.sum = 0
  | [], _ => rfl
  | n :: l, h => by rw [List.sum_cons, h n (List.mem_cons_self ..), zeros_sum fun m hm => h m (List.mem_cons_of_mem _ hm)]
theorem zeros_cnt : ∀ {l : List Nat}, (∀ n ∈ l, n = 0) → l.countP isOn = 0
  | [], _ => rfl
  | n :: l, h => by
    rw [List.countP_cons, h n (List.mem_cons_self ..), zeros_cnt fun m hm => h m (List.mem_cons_of_mem _ hm)]; rfl

theorem div_add_le (a b S : Nat) : a / S + b / S ≤ (a + b) / S := by
  rcases Nat.eq_zero_or_pos S with h | h
  · subst h; simp
  · rw [Nat.le_div_iff_mul_le h, Nat.add_mul]
    have := Nat.div_mul_le_self a S
    have := Nat.div_mul_le_self b S
    omega
theorem sum_more (R S : Nat) : ∀ l : List Nat, (l.map (moreN R S)).sum ≤ l.sum * R / S
  | [] => by simp
  | n :: l => by
    rw [List.map_cons, List.sum_cons, List.sum_cons, Nat.add_mul]
    have := sum_more R S l
    have h2 := div_add_le (n * R) (l.sum * R) S
    unfold moreN at *
    omega
theorem sum_more_le {R S : Nat} {l : List Nat} (h : l.sum ≤ S) (hS : 0 < S) : (l.map (moreN R S)).sum ≤ R := by
  have h1 := sum_more R S l
  have h2 : l.sum * R / S ≤ S * R / S := Nat.div_le_div_right (Nat.mul_le_mul_right _ h)
  rw [Nat.mul_div_cancel_left _ hS] at h2
  omega
theorem sum_part (R S : Nat) : ∀ l : List Nat, (l.map (partN R S)).sum = l.countP isOn + (l.map (moreN R S)).sum
  | [] => by simp
  | n :: l => by
    rw [List.map_cons, List.sum_cons, List.map_cons, List.sum_cons, List.countP_cons, sum_part R S l]
    by_cases h : n = 0
    · subst h
      simp [partN, moreN, isOn]
    · have : isOn n = true := by unfold isOn; simpa using (by omega : 0 < n)
      rw [this]
      simp only [partN, moreN, if_neg h, if_true]
      omega
theorem sum_set : ∀ {l : List Nat} {i : Nat} (y : Nat) (h : i < l.length), (l.set i (l[i] + y)).sum = l.sum + y
  | [], i, y, h => by simp at h
  | n :: l, 0, y, h => by simp only [List.set_cons_zero, List.getElem_cons_zero, List.sum_cons]; omega
  | n :: l, i + 1, y, h => by
    simp only [List.set_cons_succ, List.getElem_cons_succ, List.sum_cons]
    rw [sum_set y (by simpa using h)]; omega
theorem sumP_nat : ∀ l : List Nat, sumP (l.map fun (n : Nat) => (n : Int)) = (l.sum : Nat)
  | [] => rfl
  | n :: l => by
    rw [List.map_cons, sumP_cons, sumP_nat l, List.sum_cons]
    have : partsI (n : Int) = n := by unfold partsI; rw [if_neg (by omega)]
    rw [this]; simp

theorem getD_set {P : List Nat} {gr i : Nat} (x : Nat) (hg : gr < P.length) (hi : i < P.length) : (P.set gr x).getD i 0 = if i = gr then x else P.getD i 0 := by
  rw [List.getD_eq_getElem?_getD, List.getD_eq_getElem?_getD, List.getElem?_set]
  by_cases h : i = gr
  · subst h; simp [hi]
  · rw [if_neg (fun e => h e.symm), if_neg h]

/-- what Of makes -/
def ofParts (log there S last gr left : Nat) (ns : List Nat) : List Nat :=
  ((ns.take (last + 1)).map (partN (2 ^ log - there) S)).set gr (((ns.take (last + 1)).map (partN (2 ^ log - there) S)).getD gr 0 + left)

theorem of_may {log there last gr left : Nat} {ns : List Nat} (h5 : 5 ≤ log) (h15 : log ≤ 15) (hlen : ns.length ≤ 256) (hth : there = ns.countP isOn) (h2 : 2 ≤ there) (h3 : there ≤ 2 ^ log) (hl : LastI ns ns.length last) (hgr : gr ≤ last) (hgr2 : 0 < ns.getD gr 0)
    (hleft : left + ((ns.take (last + 1)).map (moreN (2 ^ log - there) ns.sum)).sum = 2 ^ log - there) :
    May log ((ofParts log there ns.sum last gr left ns).map fun (n : Nat) => (n : Int)) ∧ (ofParts log there ns.sum last gr left ns).length = last + 1 ∧ last < ns.length ∧ ∀ i, i < last + 1 → (0 < (ofParts log there ns.sum last gr left ns).getD i 0 ↔ 0 < ns.getD i 0) := by
  have hlast : last < ns.length ∧ 0 < ns.getD last 0 ∧ ∀ j, last < j → j < ns.length → ns.getD j 0 = 0 := by
    rcases hl with ⟨rfl, h⟩ | h
    · exfalso
      have : ns.countP isOn = 0 := zeros_cnt fun n hn => by
        obtain ⟨i, hi, rfl⟩ := List.getElem_of_mem hn
        rw [← getD_at hi]; exact h i hi
      omega
    · exact h
  obtain ⟨l1, l2, l3⟩ := hlast
  have hz : ∀ n ∈ ns.drop (last + 1), n = 0 := fun n hn => by
    obtain ⟨i, hi, rfl⟩ := List.getElem_of_mem hn
    rw [List.length_drop] at hi
    rw [List.getElem_drop, ← getD_at (by omega)]
    exact l3 _ (by omega) (by omega)
  have hcnt : (ns.take (last + 1)).countP isOn = there := by
    have : ns.countP isOn = (ns.take (last + 1) ++ ns.drop (last + 1)).countP isOn := by rw [List.take_append_drop]
    rw [List.countP_append, zeros_cnt hz] at this
    omega
  have hpl : ((ns.take (last + 1)).map (partN (2 ^ log - there) ns.sum)).length = last + 1 := by rw [List.length_map, List.length_take]; omega
  have hpart : ∀ i, i < last + 1 → ((ns.take (last + 1)).map (partN (2 ^ log - there) ns.sum)).getD i 0 = partN (2 ^ log - there) ns.sum (ns.getD i 0) := fun i hi => by
    rw [getD_at (by omega), List.getElem_map, List.getElem_take, getD_at (by omega)]
  have hsum := sum_part (2 ^ log - there) ns.sum (ns.take (last + 1))
  rw [hcnt] at hsum
  have hl' : (ofParts log there ns.sum last gr left ns).length = last + 1 := by unfold ofParts; rw [List.length_set, hpl]
  have hon : ∀ n, 0 < partN (2 ^ log - there) ns.sum n ↔ 0 < n := fun n => by
    unfold partN
    split
    · omega
    · generalize n * (2 ^ log - there) / ns.sum = q
      constructor <;> intro <;> omega
  have hget : ∀ i, i < last + 1 → (ofParts log there ns.sum last gr left ns).getD i 0 = if i = gr then partN (2 ^ log - there) ns.sum (ns.getD gr 0) + left else partN (2 ^ log - there) ns.sum (ns.getD i 0) := fun i hi => by
    unfold ofParts
    rw [getD_set _ (by omega) (by omega), hpart gr (by omega), hpart i hi]
  have hiff : ∀ i, i < last + 1 → (0 < (ofParts log there ns.sum last gr left ns).getD i 0 ↔ 0 < ns.getD i 0) := fun i hi => by
    rw [hget i hi]
    split
    · rename_i h
      subst h
      have := (hon (ns.getD i 0)).2 hgr2
      constructor <;> intro <;> omega
    · exact hon _
  refine ⟨⟨h5, h15, by rw [List.length_map, hl']; omega, by rw [List.length_map, hl']; omega, ?_, ?_, ?_⟩, hl', l1, hiff⟩
  · intro h
    rw [List.getLast?_eq_getElem?, List.length_map, hl', List.getElem?_map, Nat.add_sub_cancel] at h
    have h1 := (hiff last (by omega)).2 l2
    rw [getD_at (by omega)] at h1
    rw [List.getElem?_eq_getElem (by omega)] at h
    have h2 := Option.some.inj h
    simp only at h2
    omega
  · intro p hp
    obtain ⟨n, _, rfl⟩ := List.mem_map.1 hp
    omega
  · rw [sumP_nat]
    have : (ofParts log there ns.sum last gr left ns).sum = 2 ^ log := by
      unfold ofParts
      rw [getD_at (show gr < ((ns.take (last + 1)).map (partN (2 ^ log - there) ns.sum)).length by omega), sum_set _ (by omega), hsum]
      omega
    rw [this]; simp
end Go.Pu
/- Plain laws: weights, and their codes. -/
namespace Go.Pu
set_option linter.unusedVariables false

def wPow (w : Nat) : Nat := if w = 0 then 0 else 2 ^ (w - 1)
def worthN (l : List Nat) : Nat := (l.map wPow).sum
def allLe (d : Nat) (l : List Nat) : Bool := l.all fun w => decide (w ≤ d)
/-- that of whole weights; nought: they may not be -/
def depthN (l : List Nat) : Nat :=
  if allLe 11 l = true ∧ 2 ≤ l.length ∧ l.length ≤ 256 ∧ l.getLast? ≠ some 0 ∧ 2 ^ (worthN l).log2 = worthN l ∧ (worthN l).log2 ≤ 11 ∧ allLe (worthN l).log2 l = true then (worthN l).log2 else 0

theorem worthN_append (a b : List Nat) : worthN (a ++ b) = worthN a + worthN b := by simp [worthN]
theorem worthN_cons (w : Nat) (l : List Nat) : worthN (w :: l) = wPow w + worthN l := by simp [worthN]
theorem wPow_le {w : Nat} (h : w ≤ 11) : wPow w ≤ 1024 := by
  unfold wPow
  split
  · omega
  · have : 2 ^ (w - 1) ≤ 2 ^ 10 := Nat.pow_le_pow_right (by omega) (by omega)
    omega
theorem worthN_le : ∀ {l : List Nat}, (∀ w ∈ l, w ≤ 11) → worthN l ≤ 1024 * l.length
  | [], _ => by simp [worthN]
  | w :: l, h => by
    have h1 := wPow_le (h w (List.mem_cons_self ..))
    have h2 := worthN_le fun x hx => h x (List.mem_cons_of_mem _ hx)
    rw [worthN_cons, List.length_cons]; omega
theorem wPow_mem {w : Nat} : ∀ {l : List Nat}, w ∈ l → wPow w ≤ worthN l
  | [], h => by cases h
  | x :: l, h => by
    rw [worthN_cons]
    rcases List.mem_cons.1 h with rfl | h
    · omega
    · have := wPow_mem h; omega
theorem allLe_iff {d : Nat} {l : List Nat} : allLe d l = true ↔ ∀ w ∈ l, w ≤ d := by simp [allLe]

/-- a number and the one below it have no bit in common: a power of 2 -/
theorem and_pred : ∀ (s : Nat), 0 < s → ((s &&& (s - 1) = 0) ↔ 2 ^ s.log2 = s) := by
  intro s
  induction s using Nat.strongRecOn with
  | ind s ih =>
    intro h
    by_cases h1 : s = 1
    · subst h1; decide
    · have hl : s.log2 = (s / 2).log2 + 1 := by
        rw [Nat.log2_def, if_pos (by omega)]
      have hd : (s &&& (s - 1)) / 2 = s / 2 &&& (s - 1) / 2 := Nat.and_div_two
      have hm : (s &&& (s - 1)) % 2 = 0 := by
        rcases Nat.mod_two_eq_zero_or_one (s &&& (s - 1)) with h' | h'
        · exact h'
        · rw [Nat.and_mod_two_eq_one] at h'; omega
      rw [hl, Nat.pow_succ]
      rcases Nat.mod_two_eq_zero_or_one s with h2 | h2
      · have he : (s - 1) / 2 = s / 2 - 1 := by omega
        rw [he] at hd
        have := ih (s / 2) (by omega) (by omega)
        constructor
        · intro h0
          rw [h0] at hd
          have := this.1 (by omega)
          omega
        · intro h0
          have := this.2 (by omega)
          omega
      · have he : (s - 1) / 2 = s / 2 := by omega
        rw [he, Nat.and_self] at hd
        constructor
        · intro h0; omega
        · intro h0; omega

theorem depthN_ok {l : List Nat} {d : Nat} (h : depthN l = d) (hd : d ≠ 0) : (∀ w ∈ l, w ≤ d) ∧ d ≤ 11 ∧ 2 ≤ l.length ∧ l.length ≤ 256 ∧ l.getLast? ≠ some 0 ∧ worthN l = 2 ^ d := by
  unfold depthN at h
  split at h
  · rename_i hh
    obtain ⟨h1, h2, h3, h4, h5, h6, h7⟩ := hh
    subst h
    exact ⟨allLe_iff.1 h7, h6, h2, h3, h4, h5.symm⟩
  · exact absurd h.symm hd
theorem depthN_of {l : List Nat} {d : Nat} (h1 : ∀ w ∈ l, w ≤ d) (h2 : d ≤ 11) (h3 : 2 ≤ l.length) (h4 : l.length ≤ 256) (h5 : l.getLast? ≠ some 0) (h6 : worthN l = 2 ^ d) : depthN l = d := by
  unfold depthN
  have hl : (worthN l).log2 = d := by rw [h6, Nat.log2_two_pow]
  rw [hl, if_pos ⟨allLe_iff.2 fun w hw => Nat.le_trans (h1 w hw) h2, h3, h4, h5, h6.symm, h2, allLe_iff.2 h1⟩]

/-- those of less weight together -/
def lowSum (l : List Nat) (w : Nat) : Nat := worthN (l.filter fun x => decide (x < w))
/-- where a symbol's codes begin -/
def atOf (l : List Nat) (s : Nat) : Nat := lowSum l (l.getD s 0) + (l.take s).count (l.getD s 0) * 2 ^ (l.getD s 0 - 1)
def codeOf (l : List Nat) (d s : Nat) : Nat × Nat := if l.getD s 0 = 0 then (0, 0) else (d + 1 - l.getD s 0, atOf l s / 2 ^ (l.getD s 0 - 1))

theorem lowSum_succ (l : List Nat) (w : Nat) (hw : 1 ≤ w) : lowSum l (w + 1) = lowSum l w + l.count w * 2 ^ (w - 1) := by
  unfold lowSum
  induction l with
  | nil => simp [worthN]
  | cons x l ih =>
    rw [List.count_cons, List.filter_cons, List.filter_cons]
    by_cases h1 : x < w
    · rw [if_pos (by simp; omega), if_pos (by simp; omega), worthN_cons, worthN_cons, ih]
      have : (x == w) = false := by simp; omega
      rw [this]; simp; omega
    · by_cases h2 : x = w
      · subst h2
        rw [if_pos (by simp), if_neg (by simp), worthN_cons, ih]
        have : wPow x = 2 ^ (x - 1) := by unfold wPow; rw [if_neg (by omega)]
        rw [this]; simp [Nat.add_mul]; omega
      · rw [if_neg (by simp; omega), if_neg (by simp; omega), ih]
        have : (x == w) = false := by simpa using h2
        rw [this]; simp
theorem lowSum_one (l : List Nat) : lowSum l 1 = 0 := by
  unfold lowSum
  induction l with
  | nil => rfl
  | cons x l ih =>
    rw [List.filter_cons]
    split
    · rename_i h
      have : x = 0 := by simp at h; omega
      subst this
      rw [worthN_cons, ih]; rfl
    · exact ih
theorem lowSum_all {l : List Nat} {d : Nat} (h : ∀ w ∈ l, w ≤ d) : lowSum l (d + 1) = worthN l := by
  unfold lowSum
  rw [List.filter_eq_self.2 fun a ha => by have := h a ha; simp; omega]
theorem lowSum_dvd {l : List Nat} {d w : Nat} (hs : worthN l = 2 ^ d) (hw : w ≤ d + 1) (h1 : 1 ≤ w) : 2 ^ (w - 1) ∣ lowSum l w := by
  have hsplit : ∀ l : List Nat, worthN l = lowSum l w + worthN (l.filter fun x => decide (w ≤ x)) := by
    intro l
    unfold lowSum
    induction l with
    | nil => rfl
    | cons x l ih =>
      rw [List.filter_cons, List.filter_cons, worthN_cons, ih]
      by_cases h : x < w
      · rw [if_pos (by simpa using h), if_neg (by simp; omega), worthN_cons]; omega
      · rw [if_neg (by simpa using h), if_pos (by simp; omega), worthN_cons]; omega
  have hhigh : 2 ^ (w - 1) ∣ worthN (l.filter fun x => decide (w ≤ x)) := by
    generalize hL : l.filter (fun x => decide (w ≤ x)) = L
    have hge : ∀ x ∈ L, w ≤ x := fun x hx => by rw [← hL] at hx; simpa using (List.mem_filter.1 hx).2
    clear hL
    induction L with
    | nil => exact Nat.dvd_zero _
    | cons x L ih =>
      rw [worthN_cons]
      refine Nat.dvd_add ?_ (ih fun y hy => hge y (List.mem_cons_of_mem _ hy))
      have := hge x (List.mem_cons_self ..)
      unfold wPow
      rw [if_neg (by omega)]
      exact Nat.pow_dvd_pow 2 (by omega)
  have htot : 2 ^ (w - 1) ∣ worthN l := by rw [hs]; exact Nat.pow_dvd_pow 2 (by omega)
  rw [hsplit l] at htot
  exact (Nat.dvd_add_left hhigh).1 htot
end Go.Pu
/- Plain laws: the last weight; codes that none begins; lengths that fill the room. -/
namespace Go.Pu
set_option linter.unusedVariables false

/-- the last weight, that is never told -/
def wholeN (l : List Nat) : Option Nat :=
  if allLe 11 l = true ∧ 1 ≤ l.length ∧ l.length ≤ 255 ∧ 0 < worthN l ∧ bl (worthN l) ≤ 11 ∧ 2 ^ (2 ^ bl (worthN l) - worthN l).log2 = 2 ^ bl (worthN l) - worthN l
  then some ((2 ^ bl (worthN l) - worthN l).log2 + 1) else none

theorem wholeN_depth {l : List Nat} {k : Nat} (h : wholeN l = some k) : depthN (l ++ [k]) = bl (worthN l) ∧ 1 ≤ bl (worthN l) ∧ 1 ≤ k ∧ k ≤ 11 ∧ l.length ≤ 255 ∧ 1 ≤ l.length ∧ ∀ x, depthN (l ++ [x]) = bl (worthN l) → x = k := by
  unfold wholeN at h
  split at h
  · rename_i hh
    obtain ⟨h1, h2, h3, h4, h5, h6⟩ := hh
    have hk := Option.some.inj h
    have hlt := bl_lt (worthN l)
    have hle := bl_le (k := worthN l) (by omega)
    have hb1 := bl_pos (k := worthN l) (by omega)
    generalize hD : bl (worthN l) = D at *
    generalize hlog : (2 ^ D - worthN l).log2 = k0 at *
    have hW : worthN (l ++ [k]) = 2 ^ D := by
      rw [worthN_append, worthN_cons, ← hk]
      have : wPow (k0 + 1) = 2 ^ k0 := by unfold wPow; rw [if_neg (by omega), Nat.add_sub_cancel]
      rw [this, h6]
      have : worthN [] = 0 := rfl
      rw [this]; omega
    have hp2 : 2 ^ D = 2 * 2 ^ (D - 1) := by
      obtain ⟨E, rfl⟩ : ∃ E, D = E + 1 := ⟨D - 1, by omega⟩
      rw [Nat.add_sub_cancel, Nat.pow_succ, Nat.mul_comm]
    have hk0 : k0 ≤ D - 1 := by
      rcases Nat.lt_or_ge (D - 1) k0 with hq | hq
      · have := Nat.pow_lt_pow_right (a := 2) (by omega) hq
        omega
      · exact hq
    have hall : ∀ w ∈ l ++ [k], w ≤ D := by
      intro w hw
      rcases List.mem_append.1 hw with hw | hw
      · have h7 := wPow_mem hw
        rcases Nat.lt_or_ge D w with hq | hq
        · exfalso
          unfold wPow at h7
          rw [if_neg (by omega)] at h7
          have := Nat.pow_le_pow_right (n := 2) (by omega) (show D ≤ w - 1 by omega)
          omega
        · exact hq
      · rw [List.mem_singleton.1 hw]; omega
    refine ⟨depthN_of hall h5 (by simp; omega) (by simp; omega) (by rw [List.getLast?_concat]; intro e; have := Option.some.inj e; omega) hW, hb1, by omega, by omega, h3, h2, fun x hx => ?_⟩
    obtain ⟨q1, q2, q3, q4, q5, q6⟩ := depthN_ok hx (by omega)
    rw [worthN_append, worthN_cons] at q6
    have e0 : worthN [] = 0 := rfl
    rw [List.getLast?_concat] at q5
    have hx0 : x ≠ 0 := fun e => q5 (by rw [e])
    have hwx : wPow x = 2 ^ (x - 1) := by unfold wPow; rw [if_neg hx0]
    rw [hwx, e0] at q6
    have : 2 ^ (x - 1) = 2 ^ k0 := by omega
    have := congrArg Nat.log2 this
    rw [Nat.log2_two_pow, Nat.log2_two_pow] at this
    omega
  · cases h

/- codes -/
theorem getD_mem {l : List Nat} {s : Nat} (h : s < l.length) : l.getD s 0 ∈ l := by
  rw [List.getD_eq_getElem?_getD, List.getElem?_eq_getElem h]; exact List.getElem_mem h
theorem cnt_lt {l : List Nat} {s : Nat} (h : s < l.length) : (l.take s).count (l.getD s 0) + 1 ≤ l.count (l.getD s 0) := by
  have hg : l.getD s 0 = l[s] := by rw [List.getD_eq_getElem?_getD, List.getElem?_eq_getElem h]; rfl
  have e : l = l.take s ++ l[s] :: l.drop (s + 1) := by rw [← List.drop_eq_getElem_cons h, List.take_append_drop]
  rw [hg]
  have : l.count l[s] = (l.take s ++ l[s] :: l.drop (s + 1)).count l[s] := by rw [← e]
  rw [this, List.count_append, List.count_cons]; simp
theorem lowSum_mono {l : List Nat} {a b : Nat} (h1 : 1 ≤ a) (h : a ≤ b) : lowSum l a ≤ lowSum l b := by
  obtain ⟨c, rfl⟩ := Nat.exists_eq_add_of_le h
  induction c with
  | zero => exact Nat.le_refl _
  | succ c ih =>
    have := lowSum_succ l (a + c) (by omega)
    rw [← Nat.add_assoc]
    have := ih (by omega)
    omega
theorem at_end {l : List Nat} {s : Nat} (h : s < l.length) (h0 : l.getD s 0 ≠ 0) : atOf l s + 2 ^ (l.getD s 0 - 1) ≤ lowSum l (l.getD s 0 + 1) := by
  have h1 := cnt_lt h
  rw [lowSum_succ l _ (by omega)]
  unfold atOf
  have := Nat.mul_le_mul_right (2 ^ (l.getD s 0 - 1)) h1
  rw [Nat.add_mul] at this
  omega
theorem at_dvd {l : List Nat} {s d : Nat} (h : s < l.length) (h0 : l.getD s 0 ≠ 0) (hs : worthN l = 2 ^ d) (hd : l.getD s 0 ≤ d) : 2 ^ (l.getD s 0 - 1) ∣ atOf l s :=
  Nat.dvd_add (lowSum_dvd hs (by omega) (by omega)) (Nat.dvd_mul_left _ _)

/-- a code fits -/
theorem code_fits {l : List Nat} {s d : Nat} (h : s < l.length) (h0 : l.getD s 0 ≠ 0) (hs : worthN l = 2 ^ d) (hall : ∀ w ∈ l, w ≤ d) : atOf l s / 2 ^ (l.getD s 0 - 1) < 2 ^ (d + 1 - l.getD s 0) := by
  have hd := hall _ (getD_mem h)
  have h1 := at_end h h0
  have h2 := lowSum_mono (l := l) (a := l.getD s 0 + 1) (b := d + 1) (by omega) (by omega)
  rw [lowSum_all hall, hs] at h2
  rw [Nat.div_lt_iff_lt_mul (Nat.two_pow_pos _), ← Nat.pow_add, show d + 1 - l.getD s 0 + (l.getD s 0 - 1) = d from by omega]
  have := Nat.two_pow_pos (l.getD s 0 - 1)
  omega

/-- no code is the beginning of another one -/
theorem code_free {l : List Nat} {s t d : Nat} (hsl : s < l.length) (htl : t < l.length) (hst : s ≠ t) (hs0 : l.getD s 0 ≠ 0) (ht0 : l.getD t 0 ≠ 0) (hw : l.getD t 0 ≤ l.getD s 0) (hs : worthN l = 2 ^ d) (hall : ∀ w ∈ l, w ≤ d) :
    atOf l t / 2 ^ (l.getD t 0 - 1) / 2 ^ (l.getD s 0 - l.getD t 0) ≠ atOf l s / 2 ^ (l.getD s 0 - 1) := by
  rw [Nat.div_div_eq_div_mul, ← Nat.pow_add, show l.getD t 0 - 1 + (l.getD s 0 - l.getD t 0) = l.getD s 0 - 1 from by omega]
  have hp := Nat.two_pow_pos (l.getD s 0 - 1)
  obtain ⟨q, hq⟩ := at_dvd hsl hs0 hs (hall _ (getD_mem hsl))
  rw [hq, Nat.mul_div_cancel_left _ hp]
  rcases Nat.lt_or_ge (l.getD t 0) (l.getD s 0) with hlt | hge
  · have h1 := at_end htl ht0
    have h2 := lowSum_mono (l := l) (a := l.getD t 0 + 1) (b := l.getD s 0) (by omega) (by omega)
    have h3 : lowSum l (l.getD s 0) ≤ atOf l s := Nat.le_add_right _ _
    have hp2 := Nat.two_pow_pos (l.getD t 0 - 1)
    have : atOf l t / 2 ^ (l.getD s 0 - 1) < q := by
      rw [Nat.div_lt_iff_lt_mul hp, Nat.mul_comm]
      omega
    omega
  · have he : l.getD t 0 = l.getD s 0 := by omega
    have hne : (l.take t).count (l.getD t 0) ≠ (l.take s).count (l.getD s 0) := by
      have key : ∀ {a b : Nat}, a < b → b < l.length → l.getD a 0 = l.getD b 0 → (l.take a).count (l.getD a 0) < (l.take b).count (l.getD b 0) := by
        intro a b hab hb hab2
        have h1 := cnt_lt (l := l.take b) (s := a) (by rw [List.length_take]; omega)
        have h2 : (l.take b).getD a 0 = l.getD a 0 := by
          rw [List.getD_eq_getElem?_getD, List.getD_eq_getElem?_getD, List.getElem?_take_of_lt hab]
        rw [h2, List.take_take, Nat.min_eq_left (by omega)] at h1
        rw [← hab2]; omega
      rcases Nat.lt_or_gt_of_ne hst with h | h
      · have := key h htl he.symm; omega
      · have := key h hsl he; omega
    intro h
    apply hne
    unfold atOf at hq h
    rw [he] at h ⊢
    obtain ⟨r, hr⟩ := lowSum_dvd hs (by have := hall _ (getD_mem hsl); omega) (by omega : 1 ≤ l.getD s 0)
    rw [hr] at hq h
    generalize 2 ^ (l.getD s 0 - 1) = p at *
    generalize (l.take t).count (l.getD s 0) = x at *
    generalize (l.take s).count (l.getD s 0) = y at *
    rw [Nat.mul_comm x p, ← Nat.mul_add, Nat.mul_div_cancel_left _ hp] at h
    rw [Nat.mul_comm y p, ← Nat.mul_add] at hq
    have := Nat.eq_of_mul_eq_mul_left hp hq
    omega

/- lengths -/
def kTerm (o : Nat) : Nat := if o = 0 then 0 else 2 ^ (11 - o)
def kraft (out : List Nat) : Nat := (out.map kTerm).sum
theorem kraft_cons (o : Nat) (l : List Nat) : kraft (o :: l) = kTerm o + kraft l := by simp [kraft]
theorem kraft_append (a b : List Nat) : kraft (a ++ b) = kraft a + kraft b := by simp [kraft]
theorem kraft_set : ∀ {l : List Nat} {i : Nat} (o : Nat) (h : i < l.length), kraft (l.set i o) + kTerm l[i] = kraft l + kTerm o
  | [], i, o, h => by simp at h
  | x :: l, 0, o, h => by rw [List.set_cons_zero, kraft_cons, kraft_cons, List.getElem_cons_zero]; omega
  | x :: l, i + 1, o, h => by
    rw [List.set_cons_succ, kraft_cons, kraft_cons, List.getElem_cons_succ]
    have := kraft_set (l := l) (i := i) o (by simpa using h)
    omega
theorem kraft_eleven : ∀ {l : List Nat}, (∀ o ∈ l, o = 0 ∨ o = 11) → kraft l ≤ l.length
  | [], _ => by simp [kraft]
  | x :: l, h => by
    have h1 := h x (List.mem_cons_self ..)
    have h2 := kraft_eleven fun y hy => h y (List.mem_cons_of_mem _ hy)
    rw [kraft_cons, List.length_cons]
    have : kTerm x ≤ 1 := by
      rcases h1 with rfl | rfl <;> decide
    omega
theorem kraft_dvd {M : Nat} (hM : M ≤ 11) : ∀ {l : List Nat}, (∀ o ∈ l, o ≤ M) → 2 ^ (11 - M) ∣ kraft l
  | [], _ => Nat.dvd_zero _
  | x :: l, h => by
    rw [kraft_cons]
    refine Nat.dvd_add ?_ (kraft_dvd hM fun y hy => h y (List.mem_cons_of_mem _ hy))
    have := h x (List.mem_cons_self ..)
    unfold kTerm
    split
    · exact Nat.dvd_zero _
    · exact Nat.pow_dvd_pow 2 (by omega)
theorem kraft_mem {o : Nat} : ∀ {l : List Nat}, o ∈ l → kTerm o ≤ kraft l
  | [], h => by cases h
  | x :: l, h => by
    rw [kraft_cons]
    rcases List.mem_cons.1 h with rfl | h
    · omega
    · have := kraft_mem h; omega
theorem kTerm_pos {o : Nat} (h : o ≠ 0) : 1 ≤ kTerm o := by
  unfold kTerm; rw [if_neg h]; exact Nat.one_le_two_pow
/-- two that are take more than one -/
theorem kraft_two : ∀ {l : List Nat} {i j : Nat} (hi : i < l.length) (hj : j < l.length), i < j → kTerm l[i] + kTerm l[j] ≤ kraft l
  | [], i, j, hi, hj, h => by simp at hi
  | x :: l, 0, j + 1, hi, hj, h => by
    have := kraft_mem (l := l) (List.getElem_mem (show j < l.length by simpa using hj))
    rw [kraft_cons, List.getElem_cons_zero, List.getElem_cons_succ]; omega
  | x :: l, i + 1, j + 1, hi, hj, h => by
    have := kraft_two (l := l) (i := i) (j := j) (by simpa using hi) (by simpa using hj) (by omega)
    rw [kraft_cons, List.getElem_cons_succ, List.getElem_cons_succ]; omega

def wOf (d o : Nat) : Nat := if o = 0 then 0 else d + 1 - o
theorem worth_kraft {d : Nat} (hd : d ≤ 11) : ∀ {l : List Nat}, (∀ o ∈ l, o ≤ d) → worthN (l.map (wOf d)) * 2 ^ (11 - d) = kraft l
  | [], _ => by simp [worthN, kraft]
  | x :: l, h => by
    have h1 := h x (List.mem_cons_self ..)
    rw [List.map_cons, worthN_cons, kraft_cons, Nat.add_mul, worth_kraft hd fun y hy => h y (List.mem_cons_of_mem _ hy)]
    congr 1
    unfold wPow wOf kTerm
    by_cases h0 : x = 0
    · subst h0; simp
    · rw [if_neg h0, if_neg h0, if_neg (by omega), ← Nat.pow_add]
      congr 1; omega
theorem worth_of {d : Nat} {l : List Nat} (hd : d ≤ 11) (h : ∀ o ∈ l, o ≤ d) (hk : kraft l = 2048) : worthN (l.map (wOf d)) = 2 ^ d := by
  have := worth_kraft hd h
  rw [hk, show (2048 : Nat) = 2 ^ d * 2 ^ (11 - d) from by rw [← Nat.pow_add, show d + (11 - d) = 11 from by omega]] at this
  exact Nat.eq_of_mul_eq_mul_right (Nat.two_pow_pos _) this
end Go.Pu
/- Plain laws: a row of codes that is filled weight by weight. -/
namespace Go.Pu
open Go Go.En
set_option linter.unusedVariables false

/-- pairs of numbers as cells -/
def cc : List (Nat × Nat) → List Value
  | [] => []
  | e :: r => .int .i64 (e.1 : Nat) :: .int .i64 (e.2 : Nat) :: cc r
theorem cc_length : ∀ L : List (Nat × Nat), (cc L).length = 2 * L.length
  | [] => rfl
  | e :: r => by rw [cc, List.length_cons, List.length_cons, cc_length r, List.length_cons]; omega
theorem cc_zero : ∀ n : Nat, reps' n [Value.int .i64 0, Value.int .i64 0] = cc (List.replicate n (0, 0))
  | 0 => rfl
  | n + 1 => by
    have := cc_zero n
    unfold reps' at *
    rw [List.replicate_succ, List.flatten_cons, this, List.replicate_succ, cc]; rfl
theorem cc_get : ∀ {L : List (Nat × Nat)} {i : Nat} (h : i < L.length), (cc L)[i * 2]? = some (.int .i64 (L[i].1 : Nat)) ∧ (cc L)[i * 2 + 1]? = some (.int .i64 (L[i].2 : Nat))
  | [], i, h => by simp at h
  | e :: r, 0, h => ⟨rfl, rfl⟩
  | e :: r, i + 1, h => by
    have := cc_get (L := r) (i := i) (by simpa using h)
    rw [cc, show (i + 1) * 2 = i * 2 + 1 + 1 from by omega, List.getElem_cons_succ]
    exact this
theorem cc_take : ∀ {L : List (Nat × Nat)} {i : Nat} (h : i < L.length), ((cc L).drop (i * 2)).take 2 = [.int .i64 (L[i].1 : Nat), .int .i64 (L[i].2 : Nat)]
  | [], i, h => by simp at h
  | e :: r, 0, h => rfl
  | e :: r, i + 1, h => by
    have := cc_take (L := r) (i := i) (by simpa using h)
    rw [cc, show (i + 1) * 2 = i * 2 + 1 + 1 from by omega, List.drop_succ_cons, List.drop_succ_cons, List.getElem_cons_succ]
    exact this
theorem cc_set : ∀ {L : List (Nat × Nat)} {i : Nat} (e : Nat × Nat), i < L.length → ((cc L).set (i * 2) (.int .i64 (e.1 : Nat))).set (i * 2 + 1) (.int .i64 (e.2 : Nat)) = cc (L.set i e)
  | [], i, e, h => by simp at h
  | x :: r, 0, e, h => rfl
  | x :: r, i + 1, e, h => by
    have := cc_set (L := r) (i := i) e (by simpa using h)
    rw [cc, show (i + 1) * 2 = i * 2 + 1 + 1 from by omega, List.set_cons_succ, List.set_cons_succ, List.set_cons_succ, List.set_cons_succ, this, List.set_cons_succ, cc]
theorem cc_append : ∀ (a b : List (Nat × Nat)), cc (a ++ b) = cc a ++ cc b
  | [], b => rfl
  | e :: a, b => by rw [List.cons_append, cc, cc, cc_append a b]; rfl

/-- the codes of those of less weight, and of those of this weight ahead of a symbol -/
def codesTo (l : List Nat) (d w i : Nat) : List (Nat × Nat) := (List.range l.length).map fun s => if l.getD s 0 < w ∨ (l.getD s 0 = w ∧ s < i) then codeOf l d s else (0, 0)
def codesN (l : List Nat) (d : Nat) : List (Nat × Nat) := (List.range l.length).map (codeOf l d)
theorem codesTo_length (l : List Nat) (d w i : Nat) : (codesTo l d w i).length = l.length := by simp [codesTo]
theorem codesN_length (l : List Nat) (d : Nat) : (codesN l d).length = l.length := by simp [codesN]
theorem codesN_get {l : List Nat} {d s : Nat} (h : s < l.length) : (codesN l d)[s]? = some (codeOf l d s) := by
  unfold codesN; rw [List.getElem?_map, List.getElem?_range h]; rfl
theorem codesTo_get {l : List Nat} {d w i s : Nat} (h : s < l.length) : (codesTo l d w i)[s]? = some (if l.getD s 0 < w ∨ (l.getD s 0 = w ∧ s < i) then codeOf l d s else (0, 0)) := by
  unfold codesTo; rw [List.getElem?_map, List.getElem?_range h]; rfl
theorem codesTo_start (l : List Nat) (d : Nat) : codesTo l d 1 0 = List.replicate l.length (0, 0) := by
  apply List.ext_getElem?
  intro s
  rcases Nat.lt_or_ge s l.length with h | h
  · rw [codesTo_get h, List.getElem?_replicate, if_pos h]
    congr 1
    split
    · rename_i hh
      unfold codeOf
      rw [if_pos (by omega)]
    · rfl
  · rw [List.getElem?_eq_none (by rw [codesTo_length]; exact h), List.getElem?_eq_none (by simpa using h)]
theorem codesTo_next {l : List Nat} {d w : Nat} : codesTo l d w l.length = codesTo l d (w + 1) 0 := by
  apply List.ext_getElem?
  intro s
  rcases Nat.lt_or_ge s l.length with h | h
  · rw [codesTo_get h, codesTo_get h]
    congr 1
    by_cases hh : l.getD s 0 < w + 1
    · rw [if_pos (by omega), if_pos (by omega)]
    · rw [if_neg (by omega), if_neg (by omega)]
  · rw [List.getElem?_eq_none (by rw [codesTo_length]; exact h), List.getElem?_eq_none (by rw [codesTo_length]; exact h)]
theorem codesTo_end {l : List Nat} {d w : Nat} (hall : ∀ x ∈ l, x ≤ d) (hw : d < w) : codesTo l d w 0 = codesN l d := by
  apply List.ext_getElem?
  intro s
  rcases Nat.lt_or_ge s l.length with h | h
  · rw [codesTo_get h, codesN_get h, if_pos]
    have := hall _ (getD_mem h)
    omega
  · rw [List.getElem?_eq_none (by rw [codesTo_length]; exact h), List.getElem?_eq_none (by rw [codesN_length]; exact h)]
theorem codesTo_skip {l : List Nat} {d w i : Nat} (h : i < l.length) (hw : l.getD i 0 ≠ w) : codesTo l d w (i + 1) = codesTo l d w i := by
  apply List.ext_getElem?
  intro s
  rcases Nat.lt_or_ge s l.length with hs | hs
  · rw [codesTo_get hs, codesTo_get hs]
    congr 1
    by_cases hsi : s = i
    · subst hsi
      by_cases h1 : l.getD s 0 < w
      · rw [if_pos (by omega), if_pos (by omega)]
      · rw [if_neg (by omega), if_neg (by omega)]
    · by_cases h1 : l.getD s 0 < w ∨ (l.getD s 0 = w ∧ s < i)
      · rw [if_pos (by omega), if_pos h1]
      · rw [if_neg (by omega), if_neg h1]
  · rw [List.getElem?_eq_none (by rw [codesTo_length]; exact hs), List.getElem?_eq_none (by rw [codesTo_length]; exact hs)]
theorem codesTo_set {l : List Nat} {d w i : Nat} (h : i < l.length) (hw : l.getD i 0 = w) : (codesTo l d w i).set i (codeOf l d i) = codesTo l d w (i + 1) := by
  apply List.ext_getElem?
  intro s
  rw [List.getElem?_set]
  rcases Nat.lt_or_ge s l.length with hs | hs
  · by_cases hsi : i = s
    · subst hsi
      rw [if_pos rfl, if_pos (by rw [codesTo_length]; exact h), codesTo_get (i := i + 1) hs, if_pos (by omega)]
    · rw [if_neg hsi, codesTo_get (i := i) hs, codesTo_get (i := i + 1) hs]
      congr 1
      by_cases h1 : l.getD s 0 < w ∨ (l.getD s 0 = w ∧ s < i)
      · rw [if_pos h1, if_pos (by omega)]
      · rw [if_neg h1, if_neg (by omega)]
  · rw [if_neg (by omega), List.getElem?_eq_none (by rw [codesTo_length]; exact hs), List.getElem?_eq_none (by rw [codesTo_length]; exact hs)]
/-- where the next codes begin -/
def atTo (l : List Nat) (w i : Nat) : Nat := lowSum l w + (l.take i).count w * 2 ^ (w - 1)
theorem atTo_start (l : List Nat) : atTo l 1 0 = 0 := by unfold atTo; rw [lowSum_one]; simp
theorem atTo_next {l : List Nat} {w : Nat} (h : 1 ≤ w) : atTo l w l.length = atTo l (w + 1) 0 := by
  unfold atTo
  rw [List.take_length, lowSum_succ l w h]; simp
theorem atTo_step {l : List Nat} {w i : Nat} (h : i < l.length) : atTo l w (i + 1) = atTo l w i + (if l.getD i 0 = w then 2 ^ (w - 1) else 0) := by
  have hg : l.getD i 0 = l[i] := by rw [List.getD_eq_getElem?_getD, List.getElem?_eq_getElem h]; rfl
  unfold atTo
  rw [List.take_add_one, List.getElem?_eq_getElem h, List.count_append, hg]
  simp only [Option.toList, List.count_singleton]
  by_cases hw : l[i] = w
  · subst hw; simp [Nat.add_mul]; omega
  · rw [if_neg hw]
    have : (l[i] == w) = false := by simpa using hw
    rw [this]; simp
theorem atTo_of {l : List Nat} {w i : Nat} (h : l.getD i 0 = w) : atTo l w i = atOf l i := by unfold atTo atOf; rw [h]
theorem atTo_le {l : List Nat} {d w i : Nat} (hs : worthN l = 2 ^ d) (hall : ∀ x ∈ l, x ≤ d) (h1 : 1 ≤ w) (hw : w ≤ d) : atTo l w i ≤ 2 ^ d := by
  have h2 : atTo l w i ≤ lowSum l (w + 1) := by
    rw [lowSum_succ l w h1]
    unfold atTo
    have hc : (l.take i).count w ≤ l.count w := (List.take_sublist _ _).count_le _
    have := Nat.mul_le_mul_right (2 ^ (w - 1)) hc
    omega
  have h3 := lowSum_mono (l := l) (a := w + 1) (b := d + 1) (by omega) (by omega)
  rw [lowSum_all hall, hs] at h3
  omega
end Go.Pu
/- Plain laws: weights by halves of bytes. -/
namespace Go.Pu
open Go Go.En
set_option linter.unusedVariables false

/-- halves of bytes -/
def halfN (b : List Nat) (i : Nat) : Nat := if i % 2 = 0 then b.getD (i / 2) 0 / 16 else b.getD (i / 2) 0 % 16
def halvesN (b : List Nat) (n : Nat) : List Nat := (List.range n).map (halfN b)
theorem halvesN_length (b : List Nat) (n : Nat) : (halvesN b n).length = n := by simp [halvesN]
theorem halvesN_succ (b : List Nat) (n : Nat) : halvesN b (n + 1) = halvesN b n ++ [halfN b n] := by
  unfold halvesN; rw [List.range_succ, List.map_append]; rfl
theorem halfN_lt {b : List Nat} (h : ∀ x ∈ b, x < 256) (i : Nat) : halfN b i < 16 := by
  unfold halfN
  have : b.getD (i / 2) 0 < 256 := by
    rcases Nat.lt_or_ge (i / 2) b.length with hi | hi
    · exact h _ (getD_mem hi)
    · rw [List.getD_eq_getElem?_getD, List.getElem?_eq_none hi]; decide
  split <;> omega
theorem halvesN_lt {b : List Nat} (h : ∀ x ∈ b, x < 256) (n : Nat) : ∀ x ∈ halvesN b n, x < 16 := fun x hx => by
  obtain ⟨i, _, rfl⟩ := List.mem_map.1 hx
  exact halfN_lt h i
/-- two halves in a byte -/
def packN (m : List Nat) : List Nat := (List.range ((m.length + 1) / 2)).map fun j => m.getD (2 * j) 0 * 16 + m.getD (2 * j + 1) 0
theorem packN_length (m : List Nat) : (packN m).length = (m.length + 1) / 2 := by simp [packN]
theorem packN_get {m : List Nat} {j : Nat} (h : j < (m.length + 1) / 2) : (packN m).getD j 0 = m.getD (2 * j) 0 * 16 + m.getD (2 * j + 1) 0 := by
  rw [List.getD_eq_getElem?_getD]
  unfold packN
  rw [List.getElem?_map, List.getElem?_range h]; rfl
theorem getD_lt {m : List Nat} (h : ∀ x ∈ m, x < 16) (i : Nat) : m.getD i 0 < 16 := by
  rcases Nat.lt_or_ge i m.length with hi | hi
  · exact h _ (getD_mem hi)
  · rw [List.getD_eq_getElem?_getD, List.getElem?_eq_none hi]; decide
theorem halves_pack {m : List Nat} (h : ∀ x ∈ m, x < 16) : halvesN (packN m) m.length = m := by
  apply List.ext_getElem?
  intro i
  rcases Nat.lt_or_ge i m.length with hi | hi
  · unfold halvesN
    rw [List.getElem?_map, List.getElem?_range hi]
    have hp := packN_get (m := m) (j := i / 2) (by omega)
    have e : m[i]? = some (m.getD i 0) := by rw [List.getD_eq_getElem?_getD, List.getElem?_eq_getElem hi]; rfl
    rw [e]
    simp only [Option.map_some, Option.some.injEq]
    unfold halfN
    rw [hp]
    have h1 := getD_lt h (2 * (i / 2))
    have h2 := getD_lt h (2 * (i / 2) + 1)
    split
    · rw [show 2 * (i / 2) = i from by omega] at *; omega
    · rw [show 2 * (i / 2) + 1 = i from by omega] at *; omega
  · rw [List.getElem?_eq_none (by rw [halvesN_length]; exact hi), List.getElem?_eq_none hi]

/-- weights that may be end with the last one -/
theorem whole_of_depth {m : List Nat} {k d : Nat} (h : depthN (m ++ [k]) = d) (hd : d ≠ 0) : wholeN m = some k := by
  obtain ⟨h1, h2, h3, h4, h5, h6⟩ := depthN_ok h hd
  rw [List.getLast?_concat] at h5
  have hk0 : k ≠ 0 := fun e => h5 (by rw [e])
  have hkd : k ≤ d := h1 k (by simp)
  rw [worthN_append, worthN_cons] at h6
  have e0 : worthN [] = 0 := rfl
  have ek : wPow k = 2 ^ (k - 1) := by unfold wPow; rw [if_neg hk0]
  rw [e0, ek] at h6
  have hp : 2 ^ (k - 1) ≤ 2 ^ (d - 1) := Nat.pow_le_pow_right (by omega) (by omega)
  obtain ⟨e, rfl⟩ : ∃ e, d = e + 1 := ⟨d - 1, by omega⟩
  rw [Nat.add_sub_cancel] at hp
  have hpe : 2 ^ (e + 1) = 2 ^ e + 2 ^ e := by rw [Nat.pow_succ]; omega
  have hpk := Nat.two_pow_pos (k - 1)
  have hpe0 := Nat.two_pow_pos e
  have hbl : bl (worthN m) = e + 1 := bl_eq (by omega) (by omega)
  have hleft : 2 ^ (e + 1) - worthN m = 2 ^ (k - 1) := by omega
  unfold wholeN
  rw [hbl, hleft, Nat.log2_two_pow, if_pos]
  · congr 1; omega
  · simp at h3 h4
    exact ⟨allLe_iff.2 fun w hw => Nat.le_trans (h1 w (List.mem_append_left _ hw)) h2, by omega, by omega, by omega, h2, rfl⟩
end Go.Pu
/- Plain laws: lengths of codes that fill the room. -/
namespace Go.Pu
open Go Go.En
set_option linter.unusedVariables false

theorem map_sum_set (f : Nat → Nat) : ∀ {l : List Nat} {i : Nat} (o : Nat) (h : i < l.length), ((l.set i o).map f).sum + f l[i] = (l.map f).sum + f o
  | [], i, o, h => by simp at h
  | x :: l, 0, o, h => by rw [List.set_cons_zero, List.map_cons, List.map_cons, List.sum_cons, List.sum_cons, List.getElem_cons_zero]; omega
  | x :: l, i + 1, o, h => by
    rw [List.set_cons_succ, List.map_cons, List.map_cons, List.sum_cons, List.sum_cons, List.getElem_cons_succ]
    have := map_sum_set f (l := l) (i := i) o (by simpa using h)
    omega
/-- how much longer codes may become -/
def slack (out : List Nat) : Nat := (out.map fun o => 11 - o).sum
/-- lengths of just those that are -/
structure LenI (ns out : List Nat) : Prop where
  len : out.length = ns.length
  off : ∀ i, i < ns.length → ns.getD i 0 = 0 → out.getD i 0 = 0
  on : ∀ i, i < ns.length → 0 < ns.getD i 0 → 1 ≤ out.getD i 0 ∧ out.getD i 0 ≤ 11
theorem LenI.set {ns out : List Nat} {i o : Nat} (h : LenI ns out) (hi : i < ns.length) (hn : 0 < ns.getD i 0) (h1 : 1 ≤ o) (h2 : o ≤ 11) : LenI ns (out.set i o) := by
  have hl := h.len
  refine ⟨by rw [List.length_set]; exact hl, fun j hj h0 => ?_, fun j hj h0 => ?_⟩
  · rw [getD_set _ (by omega) (by omega)]
    split
    · rename_i e; subst e; omega
    · exact h.off j hj h0
  · rw [getD_set _ (by omega) (by omega)]
    split
    · exact ⟨h1, h2⟩
    · exact h.on j hj h0
theorem LenI.le {ns out : List Nat} (h : LenI ns out) {i : Nat} (hi : i < out.length) : out[i] ≤ 11 := by
  rw [← getD_at hi]
  have hl := h.len
  rcases Nat.eq_zero_or_pos (ns.getD i 0) with h0 | h0
  · rw [h.off i (by omega) h0]; omega
  · exact (h.on i (by omega) h0).2

/-- where all are as long as can be there is room -/
theorem room_eleven {ns out : List Nat} (h : LenI ns out) (hl : ns.length ≤ 256) (hno : ∀ j, j < ns.length → ¬ (0 < ns.getD j 0 ∧ out.getD j 0 < 11)) : kraft out ≤ 256 := by
  have hlen := h.len
  refine Nat.le_trans (kraft_eleven fun o ho => ?_) (by omega)
  obtain ⟨i, hi, rfl⟩ := List.getElem_of_mem ho
  rw [← getD_at hi]
  rcases Nat.eq_zero_or_pos (ns.getD i 0) with h0 | h0
  · exact .inl (h.off i (by omega) h0)
  · have := hno i (by omega)
    have := h.on i (by omega) h0
    omega
/-- where there is room the longest one may be shorter -/
theorem room_longest {ns out : List Nat} (h : LenI ns out) {there : Nat} (hth : there < ns.length) (hth0 : 0 < ns.getD there 0) (hroom : kraft out < 2048) : ∃ j, j < ns.length ∧ 0 < ns.getD j 0 ∧ 2 ^ (11 - out.getD j 0) ≤ 2048 - kraft out := by
  have hlen := h.len
  -- the longest
  have hmax : ∀ k, k ≤ ns.length → (∃ j, j < k ∧ 0 < ns.getD j 0) → ∃ j, j < k ∧ 0 < ns.getD j 0 ∧ ∀ i, i < k → 0 < ns.getD i 0 → out.getD i 0 ≤ out.getD j 0 := by
    intro k
    induction k with
    | zero => rintro _ ⟨j, hj, _⟩; omega
    | succ k ih =>
      intro hk hex
      by_cases hex2 : ∃ j, j < k ∧ 0 < ns.getD j 0
      · obtain ⟨j, h1, h2, h3⟩ := ih (by omega) hex2
        by_cases hb : 0 < ns.getD k 0 ∧ out.getD j 0 < out.getD k 0
        · refine ⟨k, by omega, hb.1, fun i hi hi0 => ?_⟩
          by_cases hik : i = k
          · subst hik; omega
          · have := h3 i (by omega) hi0; omega
        · refine ⟨j, by omega, h2, fun i hi hi0 => ?_⟩
          by_cases hik : i = k
          · subst hik; omega
          · exact h3 i (by omega) hi0
      · obtain ⟨j, h1, h2⟩ := hex
        have hjk : j = k := by
          rcases Nat.lt_or_ge j k with h' | h'
          · exact absurd ⟨j, h', h2⟩ hex2
          · omega
        subst hjk
        refine ⟨j, by omega, h2, fun i hi hi0 => ?_⟩
        rcases Nat.lt_or_ge i j with h' | h'
        · exact absurd ⟨i, h', hi0⟩ hex2
        · have : i = j := by omega
          subst this; omega
  obtain ⟨j, hj, hj0, hjm⟩ := hmax ns.length (Nat.le_refl _) ⟨there, hth, hth0⟩
  obtain ⟨q1, q2⟩ := h.on j hj hj0
  refine ⟨j, hj, hj0, ?_⟩
  have hd := kraft_dvd (M := out.getD j 0) q2 (l := out) fun o ho => by
    obtain ⟨i, hi, rfl⟩ := List.getElem_of_mem ho
    rw [← getD_at hi]
    rcases Nat.eq_zero_or_pos (ns.getD i 0) with h0 | h0
    · rw [h.off i (by omega) h0]; omega
    · exact hjm i (by omega) h0
  have h2048 : 2 ^ (11 - out.getD j 0) ∣ 2048 := by
    rw [show (2048 : Nat) = 2 ^ 11 from rfl]
    exact Nat.pow_dvd_pow 2 (by omega)
  have hd2 := Nat.dvd_sub h2048 hd
  exact Nat.le_of_dvd (by omega) hd2
/-- it is two at least -/
theorem short_two {ns out : List Nat} (h : LenI ns out) {a b : Nat} (ha : a < ns.length) (hb : b < ns.length) (hab : a ≠ b) (ha0 : 0 < ns.getD a 0) (hb0 : 0 < ns.getD b 0) (hr : 2 ^ (11 - out.getD a 0) ≤ 2048 - kraft out) (hk : kraft out ≤ 2048) : 2 ≤ out.getD a 0 := by
  have hlen := h.len
  obtain ⟨q1, q2⟩ := h.on a ha ha0
  obtain ⟨r1, r2⟩ := h.on b hb hb0
  rcases Nat.lt_or_ge (out.getD a 0) 2 with h1 | h1
  · exfalso
    have ea : out.getD a 0 = 1 := by omega
    rw [ea] at hr
    have hka : kTerm (out[a]'(by omega)) = 1024 := by rw [← getD_at (by omega), ea]; rfl
    have hkb : 1 ≤ kTerm (out[b]'(by omega)) := kTerm_pos (by rw [← getD_at (by omega)]; omega)
    have : kTerm (out[a]'(by omega)) + kTerm (out[b]'(by omega)) ≤ kraft out := by
      rcases Nat.lt_or_gt_of_ne hab with h | h
      · exact kraft_two (by omega) (by omega) h
      · have := kraft_two (l := out) (i := b) (j := a) (by omega) (by omega) h; omega
    have : (2 : Nat) ^ (11 - 1) = 1024 := rfl
    omega
  · exact h1
theorem two_on {ns : List Nat} : ∀ {c : Nat}, 2 ≤ ns.countP isOn → ∃ b, b < ns.length ∧ 0 < ns.getD b 0 ∧ b ≠ c := by
  intro c h
  induction ns generalizing c with
  | nil => simp at h
  | cons x ns ih =>
    rw [List.countP_cons] at h
    by_cases hx : 0 < x
    · cases c with
      | succ c => exact ⟨0, by simp, by simpa using hx, by omega⟩
      | zero =>
        have h1 : 1 ≤ ns.countP isOn := by
          split at h <;> omega
        have : ∃ y ∈ ns, isOn y = true := by
          rw [← List.countP_pos_iff]; omega
        obtain ⟨y, hy, hy0⟩ := this
        obtain ⟨i, hi, rfl⟩ := List.getElem_of_mem hy
        refine ⟨i + 1, by simpa using hi, ?_, by omega⟩
        rw [getD_at (by simpa using hi)]
        simpa [isOn] using hy0
    · have hon : isOn x = false := by unfold isOn; simpa using hx
      rw [hon] at h
      simp only [Bool.false_eq_true, if_false, Nat.add_zero] at h
      obtain ⟨b, h1, h2, h3⟩ := ih (c := c - 1) h
      cases c with
      | zero => exact ⟨b + 1, by simpa using h1, by simpa using h2, by omega⟩
      | succ c => exact ⟨b + 1, by simpa using h1, by simpa using h2, by simp at h3; omega⟩
end Go.Pu
