/- Contracts: one number of a description of counts, of the program and of its reference. -/
import Derived.Test.YtcbkdccobhkbpaaIT
import Derived.Test.YtcbkdccobhkbpaaBT3
import Derived.Test.YtcbkdccobhkbpaaBF1
import Derived.Test.YtcbkdccobhkbpaaPuN
import Derived.Test.YtcbkdccobhkbpaaEnApz
import Derived.Test.YtcbkdccobhkbpaaBG2
namespace Go.Proofs.Ytcbkdccobhkbpaa
open Go Go.En Go.Pu
set_option maxRecDepth 4000
set_option linter.unusedSimpArgs false
set_option linter.unusedVariables false

theorem bl_half {y : Nat} (h : y ≠ 0) : bl y = bl (y / 2) + 1 := by
  by_cases h2 : y / 2 = 0
  · obtain rfl : y = 1 := by omega
    decide
  · have a := bl_le h2
    have b := bl_lt (y / 2)
    have c := bl_pos h2
    obtain ⟨m, hm⟩ : ∃ m, bl (y / 2) = m + 1 := ⟨bl (y / 2) - 1, by omega⟩
    rw [hm, Nat.add_sub_cancel] at a
    rw [hm] at b ⊢
    refine bl_eq ?_ ?_
    · rw [Nat.pow_succ]; omega
    · rw [Nat.pow_succ]; omega

theorem width_c {x : Nat} (hx : x < 2 ^ 40) (w : World) : Does pg F_ref06_width #[.int .i64 x] w (fun r w' => r = .int .i64 (bl x : Nat) ∧ w' = w) := by
  refine ref06_width_does ?_
  unfold ref06_width ref06_width_p7 ref06_width_p6 ref06_width_p5 ref06_width_p4 ref06_width_p3
  have hb : bl x ≤ 40 := bl_le_of hx
  refine LoopD.rule (fun m (t : Value × Value) w' => ∃ n : Nat, t = (.int .i64 m, .int .i64 n) ∧ bl m + n = bl x ∧ m ≤ x ∧ w' = w) x ⟨0, rfl, rfl, Nat.le_refl _, rfl⟩ ?_
  rintro m t w1 ⟨n, rfl, hn, hmx, rfl⟩
  unfold ref06_width_p2
  by_cases h0 : m = 0
  · subst h0
    have d1 : decide ((0 : Int) < ((0 : Nat) : Int)) = false := rfl
    unfold ref06_width_p1
    have : n = bl x := by rw [← hn]; simp [bl_zero]
    subst this
    simp (disch := omega) only [Stp, r_gtr, d1, r_quo, r_add, w_i64, stepR_value, true_and, and_true, Cnd_false]
  · have d1 : decide ((0 : Int) < (m : Int)) = true := by simp; omega
    have e1 : (m : Int).tdiv 2 = ((m / 2 : Nat) : Int) := by rw [Int.tdiv_eq_ediv_of_nonneg (by omega)]; omega
    have hh := bl_half h0
    simp (disch := omega) only [Stp, r_gtr, d1, r_quo, e1, w_i64, r_add, stepR_value, and_true, Cnd_true]
    exact ⟨m / 2, by omega, n + 1, rfl, by omega, by omega⟩

theorem slHead {w : World} {a : Option Addr} {n c : Nat} {l : List Value} (h : Sl w (.slice a n c) l) {k : Nat} (hk : k ≤ n) : Sl w (.slice a k c) (l.take k) := by
  obtain ⟨a', n', c', e, hn, hc, hh⟩ := h
  cases e
  refine ⟨a, k, c, rfl, by rw [List.length_take]; omega, by omega, fun h0 => ?_⟩
  obtain ⟨b, off, ha, hcell⟩ := hh (by omega)
  refine ⟨b, off, ha, fun i hi => ?_⟩
  rw [hcell i (by omega), List.getElem?_take_of_lt (by omega)]

/-- the reference reads n bits -/
theorem refRead_c {v : Value} {L : List Bool} {st n : Nat} {w : World} (hs : Bl w v L) (hn : n ≤ 32) (hst : st ≤ L.length) (hl : L.length ≤ 10000000) :
    Does pg F_ref05_Read #[.agg #[v, .int .i64 st], .int .i64 n] w (fun r w' => ((L.length < st + n ∧ r = .tuple #[.agg #[v, .int .i64 st], .int .u64 0, .int .i64 10]) ∨
      (st + n ≤ L.length ∧ r = .tuple #[.agg #[v, .int .i64 (st + n : Nat)], .int .u64 (numAt L st n : Nat), .int .i64 0])) ∧ Ext w w' nob) := by
  refine ref05_Read_does ?_
  obtain ⟨a, c, rfl, hc⟩ := blLen hs
  unfold ref05_Read ref05_Read_p1
  refine stp_box fun w1 o1 x1 s1 => ?_
  refine al_lightermanref05_F fun w2 o2 x2 s2 => ?_
  simp only [Value.cells] at o1
  have o1 := o1.ext x2 (fun h => h)
  have c0 := o1.cell (off := 0)
  have c1 := o1.cell (off := 1)
  have l1 := lda_lightermanref05_F (off := 0) o1 (by simp)
  simp only [List.getElem?_cons_zero, List.getElem?_cons_succ, List.drop_zero, List.take_succ_cons, List.take_zero] at c0 c1 l1
  have x02 : Ext w w2 nob := x1.seq x2
  have d1 : decide ((n : Int) < 0) = false := by simp
  have d2 : decide ((32 : Int) < (n : Int)) = false := by simp; omega
  by_cases hsh : L.length < st + n
  · have d3 : decide ((L.length : Int) - (st : Int) < (n : Int)) = true := by simp; omega
    simp (disch := omega) only [Stp, r_lss, d1, fa_lightermanref05_F_L, fa_lightermanref05_F_At, Nat.zero_add, stepR_value, ld_int, ld_sl_bool, isB_ff, r_pick, Bool.false_eq_true, if_false, Gd_true, r_gtr, d2, l1, c0, ldC_some, ln_sl_bool, c1, r_sub, w_i64, d3, r_add, Cnd_true, Cnd_false]
    refine sta_lightermanref05_F o2 rfl (by simp [one]) (by simp) fun w3 o3 x3 s3 => ?_
    refine ldr_lightermanref05_F o3 (by simp [setAll]) ?_
    simp only [setAll, List.set_cons_zero, List.set_cons_succ, List.drop_zero, List.take_succ_cons, List.take_zero]
    exact ⟨.inl ⟨hsh, by trivial⟩, x02.new x3 (by omega)⟩
  · have d3 : decide ((L.length : Int) - (st : Int) < (n : Int)) = false := by simp; omega
    have e1 : (st : Int) + (n : Int) = ((st + n : Nat) : Int) := by omega
    have hs2 := (hs.ext x02 (inB_nob _)).drop' (k := st) (by omega)
    rw [← List.map_drop] at hs2
    have hs3 := slHead hs2 (k := n) (by omega)
    rw [← List.map_take] at hs3
    have e2 : st + n - st = n := by omega
    simp (disch := omega) only [Stp, r_lss, d1, fa_lightermanref05_F_L, fa_lightermanref05_F_At, Nat.zero_add, stepR_value, ld_int, ld_sl_bool, isB_ff, r_pick, Bool.false_eq_true, if_false, Gd_true, r_gtr, d2, c0, ldC_some, ln_sl_bool, c1, r_sub, w_i64, d3, r_add, e1, sl_sl_bool_lohi, Int.toNat_natCast, e2, Cnd_false]
    refine (refNumber_c hs3 (by rw [List.length_take]; omega)).mono ?_
    rintro r w3 ⟨rfl, rfl⟩
    simp (disch := omega) only [c1, ldC_some, stepR_value, r_add, e1, w_i64]
    refine st_int o1 rfl (by simp) fun w4 o4 x4 s4 => ?_
    simp only [List.set_cons_zero, List.set_cons_succ] at o4
    have l4 := lda_lightermanref05_F (off := 0) o4 (by simp)
    simp only [List.drop_zero, List.take_succ_cons, List.take_zero] at l4
    simp (disch := omega) only [l4, stepR_value]
    refine sta_lightermanref05_F (o2.ext x4 (by omega)) rfl (by simp [one]) (by simp) fun w5 o5 x5 s5 => ?_
    refine ldr_lightermanref05_F o5 (by simp [setAll]) ?_
    simp only [setAll, List.set_cons_zero, List.set_cons_succ, List.drop_zero, List.take_succ_cons, List.take_zero]
    exact ⟨.inr ⟨by omega, by trivial⟩, (x02.new x4 (by omega)).new x5 (by omega)⟩

theorem refUsed_c {v : Value} {st : Nat} {w : World} (hst : st ≤ 1000000000) : Does pg F_ref05_Used #[.agg #[v, .int .i64 st]] w (fun r w' => r = .int .i64 (((st + 7) / 8 : Nat)) ∧ Ext w w' nob) := by
  refine ref05_Used_does ?_
  unfold ref05_Used ref05_Used_p1
  refine stp_box fun w1 o1 x1 s1 => ?_
  simp only [Value.cells] at o1
  have c1 := o1.cell (off := 1)
  simp only [List.getElem?_cons_zero, List.getElem?_cons_succ] at c1
  have e1 : ((st : Int) + 7).tdiv 8 = (((st + 7) / 8 : Nat) : Int) := by rw [Int.tdiv_eq_ediv_of_nonneg (by omega)]; omega
  simp (disch := omega) only [Stp, fa_lightermanref05_F_At, Nat.zero_add, stepR_value, ld_int, c1, ldC_some, r_add, w_i64, r_quo, e1, true_and]
  exact x1
end Go.Proofs.Ytcbkdccobhkbpaa
/- Contracts: the next symbol's number, and how many have no part. -/
namespace Go.Proofs.Ytcbkdccobhkbpaa
open Go Go.En Go.Pu
set_option maxRecDepth 4000
set_option linter.unusedSimpArgs false
set_option linter.unusedVariables false

/-- of what is left: how many bits, and how many numbers are free -/
theorem val_facts {left : Nat} (h0 : 0 < left) (h1 : left ≤ 32768) : ∃ m, bl (left + 1) = m + 1 ∧ 1 ≤ m ∧ m ≤ 16 ∧ left + 1 < 2 ^ (m + 1) ∧ 2 ^ m ≤ left + 1 ∧ 2 ^ (m + 1) = 2 * 2 ^ m := by
  have hb2 := bl_le (k := left + 1) (by omega)
  have hb3 := bl_lt (left + 1)
  have hb4 := bl_le_of (k := left + 1) (n := 17) (by omega)
  have hn : 2 ≤ bl (left + 1) := by
    rcases Nat.lt_or_ge (bl (left + 1)) 2 with h | h
    · have hb1 := bl_pos (k := left + 1) (by omega)
      have : bl (left + 1) = 1 := by omega
      rw [this] at hb3; omega
    · exact h
  obtain ⟨m, hm⟩ : ∃ m, bl (left + 1) = m + 1 := ⟨bl (left + 1) - 1, by omega⟩
  rw [hm] at hb2 hb3 hb4 hn ⊢
  exact ⟨m, rfl, by omega, by omega, hb3, hb2, by rw [Nat.pow_succ, Nat.mul_comm]⟩

theorem noR_succ (L : List Bool) (f st : Nat) : noR L (f + 1) st = if L.length < st + 2 then none else if numAt L st 2 < 3 then some (numAt L st 2, st + 2) else match noR L f (st + 2) with
    | none => none
    | some (k, st') => some (3 + k, st') := by rw [noR]; rfl

/-- what is told of a number -/
def ValOf (w : World) (lo hi : Nat) (l : List UInt8) (o : Option (Nat × Nat)) (r : Value) : Prop := match o with
  | none => r = .tuple #[.int .i64 0, .int .i64 10]
  | some (v, st) => r = .tuple #[.int .i64 v, .int .i64 0] ∧ Fwd w lo hi l st

theorem value_c {l : List UInt8} {lo hi st left : Nat} {w : World} (h : Fwd w lo hi l st) (hlh : lo ≤ hi) (hst : st ≤ 8 * l.length) (hl : l.length ≤ 1000000) (h0 : 0 < left) (h1 : left ≤ 32768) :
    Does pg F_normal_value #[.pointer (some ⟨hi, 0, none⟩), .int .i64 left] w (fun r w' => ValOf w' lo hi l (valR (bitsB l) st left) r ∧ Ext w w' (fun y => y = hi)) := by
  refine normal_value_does ?_
  obtain ⟨m, hm, hm1, hm2, hf1, hf2, hf3⟩ := val_facts h0 h1
  unfold normal_value normal_value_p1
  have e1 : (left : Int) + 1 = ((left + 1 : Nat) : Int) := by omega
  simp (disch := omega) only [Stp, r_add, e1, w_i64, stepR_value, cv_int_uint, w_u64]
  refine (len_c (x := left + 1) (by omega) w).mono ?_
  rintro r w1 ⟨rfl, rfl⟩
  rw [hm]
  have e2 : ((m + 1 : Nat) : Int) - 1 = (m : Int) := by omega
  simp (disch := omega) only [r_sub, e2, w_i64, r_shl, Int.toNat_natCast, stepR_value]
  refine (fwdRead_c (n := m) h hlh (by omega) hst hl).mono ?_
  have hbl := bitsB_length l
  unfold valR
  simp only [hm, Nat.add_sub_cancel]
  rintro r w2 (⟨hsh, rfl, hf, x2⟩ | ⟨hsh, rfl, hf, x2⟩)
  · have n1 : ((10 : Int) != 0) = true := rfl
    rw [if_pos (by omega)]
    simp (disch := omega) only [x20, x21, stepR_value, r_neq, n1, Cnd_true]
    exact ⟨rfl, x2.mono fun _ _ h => h.elim⟩
  · have n1 : ((0 : Int) != 0) = false := rfl
    rw [if_neg (by omega)]
    have hlt := numAt_lt (bitsB l) st m
    have hnum : numB (((bitsB l).drop st).take m) = numAt (bitsB l) st m := rfl
    rw [hnum]
    have hsh1 := shl1 (n := m + 1) (by omega)
    have hsh0 := shl1 (n := m) (by omega)
    have hp : 2 ^ m ≤ 2 ^ 16 := Nat.pow_le_pow_right (by omega) hm2
    generalize numAt (bitsB l) st m = low at *
    rw [hf3] at *
    generalize hq : 2 ^ m = q at *
    have e3 : ((2 * q : Nat) : Int) - 2 - (left : Int) = ((2 * q - 2 - left : Nat) : Int) := by omega
    by_cases hfr : low < 2 * q - 2 - left
    · have d1 : decide ((low : Int) < ((2 * q - 2 - left : Nat) : Int)) = true := by simp only [decide_eq_true_eq]; omega
      rw [if_pos hfr]
      simp (disch := omega) only [x20, x21, hsh1, w_i64, e3, stepR_value, r_neq, n1, Cnd_false, cv_uint64_int, r_add, r_sub, r_lss, d1, Cnd_true]
      exact ⟨⟨rfl, hf⟩, x2⟩
    · have d1 : decide ((low : Int) < ((2 * q - 2 - left : Nat) : Int)) = false := by simp only [decide_eq_false_iff_not]; omega
      rw [if_neg hfr]
      simp (disch := omega) only [x20, x21, hsh1, w_i64, e3, stepR_value, r_neq, n1, Cnd_false, cv_uint64_int, r_add, r_sub, r_lss, d1]
      refine (fwdRead_c (n := 1) hf hlh (by omega) hsh hl).mono ?_
      rintro r w3 (⟨hs3, rfl, hf3, x3⟩ | ⟨hs3, rfl, hf3, x3⟩)
      · have n1 : ((10 : Int) != 0) = true := rfl
        rw [if_pos (by omega)]
        simp (disch := omega) only [x20, x21, stepR_value, r_neq, n1, Cnd_true]
        exact ⟨rfl, x2.seq (x3.mono fun _ _ h => h.elim)⟩
      · rw [if_neg (by omega)]
        have hnum : numB (((bitsB l).drop (st + m)).take 1) = numAt (bitsB l) (st + m) 1 := rfl
        rw [hnum]
        by_cases hz : numAt (bitsB l) (st + m) 1 = 0
        · have n2 : (((numAt (bitsB l) (st + m) 1 : Nat) : Int) == 0) = true := by rw [hz]; rfl
          rw [if_pos hz]
          simp (disch := omega) only [x20, x21, stepR_value, r_neq, n1, Cnd_false, r_eql, n2, Cnd_true]
          exact ⟨⟨rfl, hf3⟩, x2.seq x3⟩
        · have n2 : (((numAt (bitsB l) (st + m) 1 : Nat) : Int) == 0) = false := beq_eq_false_iff_ne.2 (by omega)
          have e4 : (low : Int) + (q : Int) - ((2 * q - 2 - left : Nat) : Int) = ((low + q - (2 * q - 2 - left) : Nat) : Int) := by omega
          rw [if_neg hz]
          simp (disch := omega) only [x20, x21, hsh0, e4, stepR_value, r_neq, n1, Cnd_false, r_eql, n2]
          exact ⟨⟨rfl, hf3⟩, x2.seq x3⟩

theorem noughts_c {l : List UInt8} {lo hi st : Nat} {w : World} (h : Fwd w lo hi l st) (hlh : lo ≤ hi) (hst : st ≤ 8 * l.length) (hl : l.length ≤ 1000000) :
    Does pg F_normal_noughts #[.pointer (some ⟨hi, 0, none⟩)] w (fun r w' => ValOf w' lo hi l (noR (bitsB l) ((bitsB l).length + 1) st) r ∧ Ext w w' (fun y => y = hi)) := by
  refine normal_noughts_does ?_
  have hbl := bitsB_length l
  unfold normal_noughts normal_noughts_p10 normal_noughts_p9 normal_noughts_p8 normal_noughts_p7 normal_noughts_p6 normal_noughts_p5 normal_noughts_p4 normal_noughts_p3
  refine LoopD.rule (fun m (t : Value) w' => ∃ k0 st' : Nat, t = .int .i64 k0 ∧ noR (bitsB l) ((bitsB l).length + 1) st = (match noR (bitsB l) m st' with | none => none | some (k, s) => some (k0 + k, s)) ∧ (bitsB l).length < 2 * m + st' ∧ st' ≤ 8 * l.length ∧ k0 ≤ 3 * st' ∧ Fwd w' lo hi l st' ∧ Ext w w' (fun y => y = hi)) ((bitsB l).length + 1)
    ⟨0, st, rfl, by cases noR (bitsB l) ((bitsB l).length + 1) st with
      | none => rfl
      | some x => simp, by omega, hst, by omega, h, Ext.refl _ _⟩ ?_
  rintro m t w1 ⟨k0, st', rfl, hr, hm, hs', hk0, hf, x1⟩
  obtain ⟨m, rfl⟩ : ∃ m', m = m' + 1 := ⟨m - 1, by omega⟩
  unfold normal_noughts_p2
  refine (fwdRead_c (n := 2) hf hlh (by omega) hs' hl).mono ?_
  rw [noR_succ (bitsB l) m st'] at hr
  rintro r w2 (⟨hsh, rfl, hf2, x2⟩ | ⟨hsh, rfl, hf2, x2⟩)
  · have n1 : ((10 : Int) != 0) = true := rfl
    rw [if_pos (by omega)] at hr
    rw [hr]
    simp (disch := omega) only [Stp, x20, x21, stepR_value, r_neq, n1, Cnd_true]
    exact ⟨rfl, x1.seq (x2.mono fun _ _ h => h.elim)⟩
  · have n1 : ((0 : Int) != 0) = false := rfl
    rw [if_neg (by omega)] at hr
    have hlt := numAt_lt (bitsB l) st' 2
    have hnum : numB (((bitsB l).drop st').take 2) = numAt (bitsB l) st' 2 := rfl
    rw [hnum]
    generalize numAt (bitsB l) st' 2 = x at *
    have e1 : (k0 : Int) + (x : Int) = ((k0 + x : Nat) : Int) := by omega
    by_cases h3 : x < 3
    · have d1 : decide ((x : Int) < 3) = true := by simp; omega
      rw [if_pos h3] at hr
      rw [hr]
      unfold normal_noughts_p1
      simp (disch := omega) only [Stp, x20, x21, stepR_value, r_neq, n1, Cnd_false, cv_uint64_int, w_i64, r_lss, d1, Cnd_true, r_add, e1]
      exact ⟨⟨rfl, hf2⟩, x1.seq x2⟩
    · have d1 : decide ((x : Int) < 3) = false := by simp; omega
      rw [if_neg h3] at hr
      simp (disch := omega) only [Stp, x20, x21, stepR_value, r_neq, n1, Cnd_false, cv_uint64_int, w_i64, r_lss, d1, r_add, e1]
      refine ⟨m, by omega, k0 + x, st' + 2, rfl, ?_, by omega, by omega, by omega, hf2, x1.seq x2⟩
      rw [hr]
      cases noR (bitsB l) m (st' + 2) with
      | none => rfl
      | some y =>
        obtain ⟨k, s⟩ := y
        have : x = 3 := by omega
        subst this
        simp; omega

/-- what the reference is told of a number -/
def RefVal (v : Value) (o : Option (Nat × Nat)) (r : Value) : Prop := match o with
  | none => ∃ st' : Nat, r = .tuple #[.agg #[v, .int .i64 st'], .int .i64 0, .int .i64 10]
  | some (x, st) => r = .tuple #[.agg #[v, .int .i64 st], .int .i64 x, .int .i64 0]

theorem refNext_c {v : Value} {L : List Bool} {st left : Nat} {w : World} (hs : Bl w v L) (hst : st ≤ L.length) (hl : L.length ≤ 10000000) (h0 : 0 < left) (h1 : left ≤ 32768) :
    Does pg F_ref06_next #[.agg #[v, .int .i64 st], .int .i64 left] w (fun r w' => RefVal v (valR L st left) r ∧ Ext w w' nob) := by
  refine ref06_next_does ?_
  obtain ⟨m, hm, hm1, hm2, hf1, hf2, hf3⟩ := val_facts h0 h1
  obtain ⟨a, c, rfl, hc⟩ := blLen hs
  unfold ref06_next ref06_next_p1
  refine stp_box fun w1 o1 x1 s1 => ?_
  refine al_lightermanref05_F fun w2 o2 x2 s2 => ?_
  simp only [Value.cells] at o1
  have o1 := o1.ext x2 (fun h => h)
  have l1 := lda_lightermanref05_F (off := 0) o1 (by simp)
  simp only [List.drop_zero, List.take_succ_cons, List.take_zero] at l1
  have x02 : Ext w w2 nob := x1.seq x2
  have e1 : (left : Int) + 1 = ((left + 1 : Nat) : Int) := by omega
  have hw1 : w.heap.size ≤ w.heap.size := Nat.le_refl _
  have hw2 : w.heap.size ≤ w1.heap.size := x1.size
  have hne : w.heap.size ≠ w1.heap.size := by omega
  obtain ⟨p1, hp1⟩ : ∃ p1, p1 = w.heap.size := ⟨_, rfl⟩
  obtain ⟨p2, hp2⟩ : ∃ p2, p2 = w1.heap.size := ⟨_, rfl⟩
  rw [← hp1, ← hp2] at hne
  rw [← hp1] at o1 l1 ⊢
  rw [← hp2] at o2 hw2 ⊢
  simp (disch := omega) only [Stp, r_add, e1, w_i64, stepR_value]
  refine (width_c (x := left + 1) (by omega) w2).mono ?_
  rintro r w3 ⟨rfl, rfl⟩
  rw [hm]
  have e2 : ((m + 1 : Nat) : Int) - 1 = (m : Int) := by omega
  simp (disch := omega) only [l1, r_sub, e2, w_i64, stepR_value]
  unfold valR
  simp only [hm, Nat.add_sub_cancel]
  refine (refRead_c (n := m) (hs.ext x02 (inB_nob _)) (by omega) hst hl).mono ?_
  -- the end of each way
  have fin : ∀ (st' : Nat) (xv : Int) (ev : Int) (w' : World) (RR : Value → World → Prop), Own w' p1 [.slice a L.length c, .int .i64 st'] → Own w' p2 [.slice none 0 0, .int .i64 0] → Ext w w' nob →
      (∀ w'', Ext w w'' nob → RR (.tuple #[.agg #[.slice a L.length c, .int .i64 st'], .int .i64 xv, .int .i64 ev]) w'') →
      Stp pg (sLoad 119 (.pointer (some ⟨p1, 0, none⟩))) w' fun t15 w => Stp pg (sStore 119 (.pointer (some ⟨p2, 0, none⟩)) t15) w fun _u w => LdR pg 119 (.pointer (some ⟨p2, 0, none⟩)) w fun r0 => RR (.tuple #[r0, .int .i64 xv, .int .i64 ev]) w := by
    intro st' xv ev w' RR q1 q2 qx qk
    have l1 := lda_lightermanref05_F (off := 0) q1 (by simp)
    simp only [List.drop_zero, List.take_succ_cons, List.take_zero] at l1
    simp (disch := omega) only [Stp, l1, stepR_value]
    refine sta_lightermanref05_F q2 rfl (by simp [one]) (by simp) fun w6 o6 x6 s6 => ?_
    refine ldr_lightermanref05_F o6 (by simp [setAll]) ?_
    simp only [setAll, List.set_cons_zero, List.set_cons_succ, List.drop_zero, List.take_succ_cons, List.take_zero]
    exact qk _ (qx.new x6 hw2)
  have hx1 : w.heap.size ≤ p1 := by omega
  rintro r w4 ⟨⟨hsh, rfl⟩ | ⟨hsh, rfl⟩, x4⟩
  · have n1 : ((10 : Int) != 0) = true := rfl
    rw [if_pos (by omega)]
    simp (disch := omega) only [x30, x31, x32, stepR_value, r_neq, cv_uint64_int, w_i64]
    refine sta_lightermanref05_F (o1.ext x4 (fun h => h)) rfl (by simp [one]) (by simp) fun w5 o5 x5 s5 => ?_
    simp only [setAll, List.set_cons_zero, List.set_cons_succ] at o5
    simp (disch := omega) only [n1, Cnd_true]
    exact fin st 0 10 w5 (fun r w' => RefVal (.slice a L.length c) none r ∧ Ext w w' nob) o5 ((o2.ext x4 (fun h => h)).ext x5 (by omega)) ((x02.seq x4).new x5 hx1) fun w6 x6 => ⟨⟨_, rfl⟩, x6⟩
  · have n1 : ((0 : Int) != 0) = false := rfl
    rw [if_neg (by omega)]
    have hlt := numAt_lt L st m
    have hsh1 : m + 1 ≤ 40 := by omega
    have hp : 2 ^ m ≤ 2 ^ 16 := Nat.pow_le_pow_right (by omega) hm2
    simp (disch := omega) only [x30, x31, x32, stepR_value, r_neq, cv_uint64_int, w_i64]
    refine sta_lightermanref05_F (o1.ext x4 (fun h => h)) rfl (by simp [one]) (by simp) fun w5 o5 x5 s5 => ?_
    simp only [setAll, List.set_cons_zero, List.set_cons_succ] at o5
    have x05 : Ext w w5 nob := (x02.seq x4).new x5 hx1
    have o25 := (o2.ext x4 (fun h => h)).ext x5 (by omega)
    simp (disch := omega) only [n1, Cnd_false]
    refine (power_c m (by omega) _).mono ?_
    rintro r w6 ⟨rfl, rfl⟩
    have hpow : ((2 ^ m : Nat) : Int) = (2 : Int) ^ m := by simp
    rw [← hpow]
    generalize numAt L st m = low at *
    rw [hf3] at *
    generalize hq : 2 ^ m = q at *
    have e3 : 2 * (q : Int) - 2 - (left : Int) = ((2 * q - 2 - left : Nat) : Int) := by omega
    by_cases hfr : low < 2 * q - 2 - left
    · have d1 : decide ((low : Int) < ((2 * q - 2 - left : Nat) : Int)) = true := by simp only [decide_eq_true_eq]; omega
      rw [if_pos hfr]
      have l5 := lda_lightermanref05_F (off := 0) o5 (by simp)
      simp only [List.drop_zero, List.take_succ_cons, List.take_zero] at l5
      simp (disch := omega) only [r_mul, w_i64, r_add, stepR_value, r_sub, e3, r_lss, d1, l5, Cnd_true]
      refine sta_lightermanref05_F o25 rfl (by simp [one]) (by simp) fun w7 o7 x7 s7 => ?_
      refine ldr_lightermanref05_F o7 (by simp [setAll]) ?_
      simp only [setAll, List.set_cons_zero, List.set_cons_succ, List.drop_zero, List.take_succ_cons, List.take_zero]
      exact ⟨rfl, x05.new x7 hw2⟩
    · have d1 : decide ((low : Int) < ((2 * q - 2 - left : Nat) : Int)) = false := by simp only [decide_eq_false_iff_not]; omega
      rw [if_neg hfr]
      have l5 := lda_lightermanref05_F (off := 0) o5 (by simp)
      simp only [List.drop_zero, List.take_succ_cons, List.take_zero] at l5
      simp (disch := omega) only [r_mul, w_i64, r_add, stepR_value, r_sub, e3, r_lss, d1, l5, Cnd_false]
      refine (refRead_c (n := 1) (hs.ext x05 (inB_nob _)) (by omega) hsh hl).mono ?_
      rintro r w7 ⟨⟨hs3, rfl⟩ | ⟨hs3, rfl⟩, x7⟩
      · have n1 : ((10 : Int) != 0) = true := rfl
        rw [if_pos (by omega)]
        simp (disch := omega) only [x30, x31, x32, stepR_value, r_neq, r_eql]
        refine sta_lightermanref05_F (o5.ext x7 (fun h => h)) rfl (by simp [one]) (by simp) fun w8 o8 x8 s8 => ?_
        simp only [setAll, List.set_cons_zero, List.set_cons_succ] at o8
        simp (disch := omega) only [n1, Cnd_true]
        exact fin _ 0 10 w8 (fun r w' => RefVal (.slice a L.length c) none r ∧ Ext w w' nob) o8 ((o25.ext x7 (fun h => h)).ext x8 (by omega)) ((x05.seq x7).new x8 hx1) fun w6 x6 => ⟨⟨_, rfl⟩, x6⟩
      · rw [if_neg (by omega)]
        have hb1 := numAt_lt L (st + m) 1
        simp (disch := omega) only [x30, x31, x32, stepR_value, r_neq, r_eql]
        refine sta_lightermanref05_F (o5.ext x7 (fun h => h)) rfl (by simp [one]) (by simp) fun w8 o8 x8 s8 => ?_
        simp only [setAll, List.set_cons_zero, List.set_cons_succ] at o8
        have x08 : Ext w w8 nob := (x05.seq x7).new x8 hx1
        have o28 := (o25.ext x7 (fun h => h)).ext x8 (by omega)
        have l8 := lda_lightermanref05_F (off := 0) o8 (by simp)
        simp only [List.drop_zero, List.take_succ_cons, List.take_zero] at l8
        by_cases hz : numAt L (st + m) 1 = 0
        · have n2 : (((numAt L (st + m) 1 : Nat) : Int) == 1) = false := by rw [hz]; rfl
          rw [if_pos hz]
          simp (disch := omega) only [n1, l8, stepR_value, n2, Cnd_false]
          refine sta_lightermanref05_F o28 rfl (by simp [one]) (by simp) fun w9 o9 x9 s9 => ?_
          refine ldr_lightermanref05_F o9 (by simp [setAll]) ?_
          simp only [setAll, List.set_cons_zero, List.set_cons_succ, List.drop_zero, List.take_succ_cons, List.take_zero]
          exact ⟨rfl, x08.new x9 hw2⟩
        · have n2 : (((numAt L (st + m) 1 : Nat) : Int) == 1) = true := by rw [show numAt L (st + m) 1 = 1 from by omega]; rfl
          have e4 : (low : Int) + (q : Int) - ((2 * q - 2 - left : Nat) : Int) = ((low + q - (2 * q - 2 - left) : Nat) : Int) := by omega
          rw [if_neg hz]
          simp (disch := omega) only [n1, l8, stepR_value, n2, e4, Cnd_true, Cnd_false]
          refine sta_lightermanref05_F o28 rfl (by simp [one]) (by simp) fun w9 o9 x9 s9 => ?_
          refine ldr_lightermanref05_F o9 (by simp [setAll]) ?_
          simp only [setAll, List.set_cons_zero, List.set_cons_succ, List.drop_zero, List.take_succ_cons, List.take_zero]
          exact ⟨rfl, x08.new x9 hw2⟩
end Go.Proofs.Ytcbkdccobhkbpaa
/- Contract: the program reads counts. -/
namespace Go.Proofs.Ytcbkdccobhkbpaa
open Go Go.En Go.Pu
set_option maxRecDepth 4000
set_option linter.unusedSimpArgs false
set_option linter.unusedVariables false

theorem rdC_succ (L : List Bool) (sym f st left : Nat) (ps : List Int) : rdC L sym (f + 1) st left ps = if left = 0 then .ok (ps, st) else match valR L st left with
    | none => .error 10
    | some (v, st1) =>
      if v = 1 then match noR L (L.length + 1) st1 with
        | none => .error 10
        | some (k, st2) => if sym < ps.length + 1 + k then .error 11 else rdC L sym f st2 left (ps ++ 0 :: List.replicate k 0)
      else if sym < ps.length + 1 then .error 11 else rdC L sym f st1 (left - (partsI ((v : Int) - 1)).toNat) (ps ++ [(v : Int) - 1]) := by rw [rdC]; rfl

theorem zc_replicate (k : Nat) : (Builtin.zeroCells (Value.int .i64 0).cells k).toList = List.replicate k (Value.int .i64 0) := by
  apply List.ext_getElem
  · rw [Array.length_toList, zeroCells_length, List.length_replicate]; simp [Value.cells]
  · intro i h1 h2
    simp [Builtin.zeroCells, Value.cells, Nat.mod_one]

/-- growing by noughts -/
theorem apz_int {n m base : Nat} {ty : TypeId} {w : World} {v : Value} {l : List Value} (h : OSl w base 1 v n l) (hb : base ≤ w.heap.size) (hn : (n + m) * 8 ≤ 140737488355328) {K : Value → World → Prop}
    (hk : ∀ v' w', OSl w' base 1 v' (n + m) (l ++ List.replicate m (.int .i64 0)) → Ext w w' (fun y => base ≤ y) → K v' w') : Stp pg (sBi .append #[22, 3] ty [v, .int .i64 m]) w K :=
  stp_appendZ (i := Try.t3) (S := fun y => base ≤ y) Try.underlying22 Try.underlying3 inf3 rfl rfl rfl h (by decide) (by intro y hy; simp [Value.cells] at hy; subst hy; rfl) (fun b hbb => Nat.le_trans hb hbb) (by omega) (by rw [show Try.t3.bytes = 8 from rfl]; omega) (by rw [show Try.t3.bytes = 8 from rfl]; omega)
    (fun v' w' o x => hk v' w' (by rw [← zc_replicate]; exact o) x)

/-- what is told of counts that were read -/
def CountsOf (w : World) (base : Nat) (o : Except Int (Nat × List Int × Nat)) (r : Value) : Prop := match o with
  | .error e => r = .tuple #[.agg #[.int .i64 0, .slice none 0 0], .int .i64 0, .int .i64 e]
  | .ok (log, ps, used) => ∃ v, r = .tuple #[.agg #[.int .i64 log, v], .int .i64 used, .int .i64 0] ∧ OSl w base 1 v ps.length (ps.map (Value.int .i64))

theorem readEnd {p6 : Nat} {w0 w : World} {e : Int} (o6 : Own w p6 [.int .i64 0, .slice none 0 0]) (hx : Ext w0 w nob) (hp : w0.heap.size ≤ p6) {RR : Value → World → Prop}
    (hR : ∀ w', Ext w0 w' nob → RR (.tuple #[.agg #[.int .i64 0, .slice none 0 0], .int .i64 0, .int .i64 e]) w') :
    Stp pg (sStore 24 (.pointer (some ⟨p6, 0, none⟩)) (.agg #[.int .i64 0, .slice none 0 0])) w fun _u w => LdR pg 24 (.pointer (some ⟨p6, 0, none⟩)) w fun r0 => RR (.tuple #[r0, .int .i64 0, .int .i64 e]) w := by
  refine sta_normal_Counts o6 rfl (by simp [one]) (by simp) fun w6 o6 x6 s6 => ?_
  refine ldr_normal_Counts o6 (by simp [setAll]) ?_
  simp only [setAll, List.set_cons_zero, List.set_cons_succ, List.drop_zero, List.take_succ_cons, List.take_zero]
  exact hR _ (hx.new x6 hp)

theorem read_loop {l : List UInt8} {log lo hi p6 pc sym : Nat} {w0 w : World} {res : Except Int (List Int × Nat)} (hlh : lo ≤ hi) (hlp : w0.heap.size ≤ p6) (hl : l.length ≤ 1000000) (h6 : p6 < lo) (hhp : hi < pc) (hsym : sym ≤ 1000000) (hlog : log ≤ 15)
    (o6 : Own w p6 [.int .i64 0, .slice none 0 0]) (oc : Own w pc [.int .i64 log, .slice none 0 0]) (hf : Fwd w lo hi l 4) (h4 : 4 ≤ 8 * l.length) (hx : Ext w0 w nob)
    (hres : rdC (bitsB l) sym ((bitsB l).length + 1) 4 (2 ^ log) [] = res)
    {RR : Value → World → Prop} (hE : ∀ e w', res = .error e → Ext w0 w' nob → RR (.tuple #[.agg #[.int .i64 0, .slice none 0 0], .int .i64 0, .int .i64 e]) w')
    (hO : ∀ ps st v w', res = .ok (ps, st) → OSl w' w0.heap.size 1 v ps.length (ps.map (Value.int .i64)) → Ext w0 w' nob → RR (.tuple #[.agg #[.int .i64 log, v], .int .i64 (((st + 7) / 8 : Nat)), .int .i64 0]) w') :
    normal_Read_p10 RR (.int .i64 sym) (.pointer (some ⟨p6, 0, none⟩)) (.pointer (some ⟨hi, 0, none⟩)) (.pointer (some ⟨pc, 0, none⟩)) (.int .i64 (2 ^ log : Nat)) w := by
  have hbl := bitsB_length l
  have hp15 : 2 ^ log ≤ 2 ^ 15 := Nat.pow_le_pow_right (by omega) hlog
  unfold normal_Read_p10 normal_Read_p9 normal_Read_p8
  have lpc := oc.lt
  refine LoopD.rule (fun m (t : Value) w' => ∃ (st left : Nat) (ps : List Int) (v : Value), t = .int .i64 left ∧ rdC (bitsB l) sym m st left ps = res ∧ (bitsB l).length < m + st ∧ st ≤ 8 * l.length ∧ left ≤ 32768 ∧ ps.length ≤ 1000000 ∧
      Own w' p6 [.int .i64 0, .slice none 0 0] ∧ Own w' pc [.int .i64 log, v] ∧ OSl w' (pc + 1) 1 v ps.length (ps.map (Value.int .i64)) ∧ Fwd w' lo hi l st ∧ Ext w w' (fun y => y = hi ∨ pc ≤ y)) ((bitsB l).length + 1)
    ⟨4, 2 ^ log, [], _, rfl, hres, by omega, h4, by omega, by simp, o6, oc, OSl.nil _ _ _, hf, Ext.refl _ _⟩ ?_
  rintro m t w1 ⟨st, left, ps, v, rfl, hr, hm, hst, hleft, hpl, o61, oc1, ov, hf1, x1⟩
  have z1 := x1.size
  have hx0 := hx.size
  have hx1 : ∀ {w' : World}, Ext w w' (fun y => y = hi ∨ pc ≤ y) → Ext w0 w' nob := fun h => hx.trans h fun b hb hh => by omega
  obtain ⟨m, rfl⟩ : ∃ m', m = m' + 1 := ⟨m - 1, by omega⟩
  rw [rdC_succ] at hr
  obtain ⟨av, cv, hv⟩ := ov.len
  unfold normal_Read_p7 normal_Read_p6
  by_cases h0 : left = 0
  · have d1 : decide ((0 : Int) < (left : Int)) = false := by simp; omega
    rw [if_pos h0] at hr
    subst hv
    have lc := lda_normal_Counts (off := 0) (own_dr oc1) (by simp)
    have lc' := lda_normal_Counts (off := 0) oc1 (by simp)
    simp only [List.drop_zero, List.take_succ_cons, List.take_zero] at lc lc'
    unfold normal_Read_p1
    simp (disch := omega) only [Stp, r_gtr, d1, Same, and_true, true_and, stepR_value, lc, Cnd_false]
    refine (fwdUsed_c (hf1.ext (Ext.dr w1 nob) (fun _ _ _ h => h) hlh) (by omega)).mono ?_
    rintro r w2 ⟨rfl, rfl⟩
    simp (disch := omega) only [lc, true_and]
    refine sta_normal_Counts (own_dr o61) rfl (by simp [one]) (by simp) fun w6 o6 x6 s6 => ?_
    refine ldr_normal_Counts o6 (by simp [setAll]) ?_
    simp only [setAll, List.set_cons_zero, List.set_cons_succ, List.drop_zero, List.take_succ_cons, List.take_zero]
    have x16 : Ext w1 w6 (fun y => y = p6) := (Ext.dr w1 _).seq x6
    have ov6 := ov.ext x16 (fun b hb h => by omega)
    refine hO ps st _ w6 hr.symm ⟨ov6.1, ?_⟩ ((hx1 x1).new x16 (by omega))
    rcases ov6.2 with h | ⟨b, c, rest, q1, q2, q3⟩
    · exact .inl h
    · exact .inr ⟨b, c, rest, q1, by omega, q3⟩
  · have d1 : decide ((0 : Int) < (left : Int)) = true := by simp; omega
    rw [if_neg h0] at hr
    simp (disch := omega) only [Stp, r_gtr, d1, stepR_value, Cnd_true]
    unfold normal_Read_p5 normal_Read_p4 normal_Read_p3
    refine (value_c hf1 hlh hst hl (by omega) hleft).mono ?_
    rintro r w2 ⟨hv2, x2⟩
    have x12 : Ext w w2 (fun y => y = hi ∨ pc ≤ y) := x1.seq (x2.mono fun y _ h => .inl h)
    have o62 := o61.ext x2 (by omega)
    have oc2 := oc1.ext x2 (by omega)
    have ov2 := ov.ext x2 (fun b hb h => by omega)
    have z2 := x2.size
    cases hval : valR (bitsB l) st left with
    | none =>
      rw [hval] at hr hv2
      obtain rfl := hv2
      have n1 : ((10 : Int) != 0) = true := rfl
      simp (disch := omega) only [Stp, x20, x21, bd_normal_Counts_, stepR_value, fa_normal_Counts_Part, Nat.zero_add, ld_sl_int, r_neq, n1, Cnd_true]
      exact readEnd (RR := RR) (e := 10) o62 (hx1 x12) hlp fun w' h => hE _ _ hr.symm h
    | some y =>
      obtain ⟨x, st1⟩ := y
      rw [hval] at hr hv2
      simp only at hr
      obtain ⟨rfl, hf2⟩ := hv2
      obtain ⟨b1, b2, b3⟩ := valR_bd hval (by omega)
      have n1 : ((0 : Int) != 0) = false := rfl
      simp (disch := omega) only [Stp, x20, x21, bd_normal_Counts_, stepR_value, fa_normal_Counts_Part, Nat.zero_add, ld_sl_int, r_neq, n1, Cnd_false, r_sub, w_i64, r_eql]
      refine (parts_c _ _).mono ?_
      rintro r w3 ⟨rfl, rfl⟩
      have c1 := oc2.cell (off := 1)
      simp only [List.getElem?_cons_zero, List.getElem?_cons_succ] at c1
      have hpp : partsI ((x : Int) - 1) ≤ left := by unfold partsI; split <;> omega
      have hpn := partsI_nonneg (p := (x : Int) - 1) (by omega)
      obtain ⟨pq, hpq⟩ : ∃ pq : Nat, partsI ((x : Int) - 1) = pq := ⟨(partsI ((x : Int) - 1)).toNat, by omega⟩
      rw [hpq] at hr hpp ⊢
      rw [Int.toNat_natCast] at hr
      have e1 : (left : Int) - (pq : Int) = ((left - pq : Nat) : Int) := by omega
      simp (disch := omega) only [r_sub, e1, w_i64, stepR_value, c1, ldC_some]
      refine bs_sl_int (cells := #[.int .i64 ((x : Int) - 1)]) (by decide) (by decide) (by kernel_rfl) fun w4 o4 x4 s4 => ?_
      have z4 := x4.size
      refine ap_sl_int_sl_int (m := 1) (news := [.int .i64 ((x : Int) - 1)]) (ov2.ext x4 (fun _ _ h => h)) (o4.cl (off := 0) (l := [.int .i64 ((x : Int) - 1)]) (n := 1) rfl (fun i hi => by rw [Nat.zero_add])) (by simp [one]) (by omega) (by omega) fun v5 w5 o5 x5 => ?_
      have z5 := x5.size
      obtain ⟨av5, cv5, rfl⟩ := o5.len
      have oc5 := (oc2.ext x4 (fun h => h)).ext x5 (by omega)
      refine st_sl_int oc5 rfl (by simp) fun w6 oc6 x6 s6 => ?_
      simp only [List.set_cons_zero, List.set_cons_succ] at oc6
      have z6 := x6.size
      have ov6 := o5.ext x6 (fun b hb h => by omega)
      have x26 : Ext w3 w6 (fun y => pc ≤ y) := ((x4.mono fun _ _ h => h.elim).seq (x5.mono fun y _ h => by omega)).seq (x6.mono fun y _ h => by omega)
      have x16 : Ext w w6 (fun y => y = hi ∨ pc ≤ y) := x12.seq (x26.mono fun y _ h => .inr h)
      have o66 := o62.ext x26 (by omega)
      have hf6 := hf2.ext x26 (fun b _ _ => by omega) hlh
      have hsz : pc < w6.heap.size := oc6.lt
      rw [show (ps.map (Value.int .i64) ++ [Value.int .i64 ((x : Int) - 1)]) = (ps ++ [(x : Int) - 1]).map (Value.int .i64) from by simp] at ov6
      have hwl : IntKind.i64.wrap (left : Int) = left := w_i64 (by omega) (by omega)
      -- the check behind
      have tail : ∀ (ps' : List Int) (st' left' : Nat) (a : Option Addr) (cc : Nat) (w' : World), (if sym < ps'.length then .error 11 else rdC (bitsB l) sym m st' left' ps') = res → ps'.length ≤ 10000000 → left' ≤ 32768 → st < st' → st' ≤ 8 * l.length →
          Own w' p6 [.int .i64 0, .slice none 0 0] → Own w' pc [.int .i64 log, .slice a ps'.length cc] → OSl w' (pc + 1) 1 (.slice a ps'.length cc) ps'.length (ps'.map (Value.int .i64)) → Fwd w' lo hi l st' → Ext w w' (fun y => y = hi ∨ pc ≤ y) →
          normal_Read_p2 (fun _ _ _ _ left_13 w'' => ∃ m', m' < m + 1 ∧ ∃ (st left : Nat) (ps : List Int) (v : Value), left_13 = .int .i64 left ∧ rdC (bitsB l) sym m' st left ps = res ∧ (bitsB l).length < m' + st ∧ st ≤ 8 * l.length ∧ left ≤ 32768 ∧ ps.length ≤ 1000000 ∧
            Own w'' p6 [.int .i64 0, .slice none 0 0] ∧ Own w'' pc [.int .i64 log, v] ∧ OSl w'' (pc + 1) 1 v ps.length (ps.map (Value.int .i64)) ∧ Fwd w'' lo hi l st ∧ Ext w w'' (fun y => y = hi ∨ pc ≤ y)) RR
            (.int .i64 sym) (.pointer (some ⟨p6, 0, none⟩)) (.pointer (some ⟨hi, 0, none⟩)) (.pointer (some ⟨pc, 0, none⟩)) (.int .i64 left') w' := by
        intro ps' st' left' a cc w' q1 q2 q3 q4 q5 q6 q7 q8 q9 q10
        have c1 := q7.cell (off := 1)
        simp only [List.getElem?_cons_zero, List.getElem?_cons_succ] at c1
        unfold normal_Read_p2
        by_cases hgt : sym < ps'.length
        · have d1 : decide ((sym : Int) < (ps'.length : Int)) = true := by simp; omega
          rw [if_pos hgt] at q1
          simp (disch := omega) only [Stp, fa_normal_Counts_Part, Nat.zero_add, bd_normal_Counts_, stepR_value, ld_sl_int, c1, ldC_some, ln_sl_int, r_gtr, d1, isB_tf, r_pick, if_true, Cnd_true, Gd_false]
          exact readEnd (RR := RR) (e := 11) q6 (hx1 q10) hlp fun w' h => hE _ _ q1.symm h
        · have d1 : decide ((sym : Int) < (ps'.length : Int)) = false := by simp; omega
          have d2 : decide ((left' : Int) < 0) = false := by simp
          rw [if_neg hgt] at q1
          simp (disch := omega) only [Stp, fa_normal_Counts_Part, Nat.zero_add, bd_normal_Counts_, stepR_value, ld_sl_int, c1, ldC_some, ln_sl_int, r_gtr, d1, isB_ff, r_pick, Bool.false_eq_true, if_false, Gd_true, r_lss, d2, Cnd_false]
          exact ⟨m, by omega, st', left', ps', _, rfl, q1, by omega, q5, q3, by omega, q6, q7, q8, q9, q10⟩
      by_cases h1 : x = 1
      · subst h1
        have n2 : (((1 : Nat) : Int) - 1 == 0) = true := rfl
        obtain rfl : pq = 0 := by
          have : partsI (((1 : Nat) : Int) - 1) = 0 := rfl
          omega
        rw [if_pos rfl] at hr
        simp (disch := omega) only [n2, Cnd_true]
        refine (noughts_c hf6 hlh (by omega) hl).mono ?_
        rintro r w7 ⟨hv7, x7⟩
        have x17 : Ext w w7 (fun y => y = hi ∨ pc ≤ y) := x16.seq (x7.mono fun y _ h => .inl h)
        have o67 := o66.ext x7 (by omega)
        have oc7 := oc6.ext x7 (by omega)
        have ov7 := ov6.ext x7 (fun b hb h => by omega)
        have z7 := x7.size
        cases hno : noR (bitsB l) ((bitsB l).length + 1) st1 with
        | none =>
          rw [hno] at hr hv7
          obtain rfl := hv7
          have n1 : ((10 : Int) != 0) = true := rfl
          simp (disch := omega) only [x20, x21, stepR_value, r_neq, n1, Cnd_true]
          exact readEnd (RR := RR) (e := 10) o67 (hx1 x17) hlp fun w' h => hE _ _ hr.symm h
        | some y =>
          obtain ⟨k, st2⟩ := y
          rw [hno] at hr hv7
          simp only at hr
          obtain ⟨rfl, hf7⟩ := hv7
          obtain ⟨k1, k2, k3⟩ := noR_bd hno
          have n1 : ((0 : Int) != 0) = false := rfl
          by_cases hgt : sym < k
          · have d1 : decide ((sym : Int) < (k : Int)) = true := by simp; omega
            rw [if_pos (by omega)] at hr
            simp (disch := omega) only [x20, x21, stepR_value, r_neq, n1, Cnd_false, r_gtr, d1, Cnd_true]
            exact readEnd (RR := RR) (e := 11) o67 (hx1 x17) hlp fun w' h => hE _ _ hr.symm h
          · have d1 : decide ((sym : Int) < (k : Int)) = false := by simp; omega
            have c7 := oc7.cell (off := 1)
            simp only [List.getElem?_cons_zero, List.getElem?_cons_succ] at c7
            simp (disch := omega) only [x20, x21, stepR_value, r_neq, n1, Cnd_false, r_gtr, d1, c7, ldC_some]
            refine apz_int (m := k) ov7 (by omega) (by omega) fun v8 w8 o8 x8 => ?_
            obtain ⟨av8, cv8, rfl⟩ := o8.len
            have z8 := x8.size
            refine st_sl_int (oc7.ext x8 (by omega)) rfl (by simp) fun w9 oc9 x9 s9 => ?_
            simp only [List.set_cons_zero, List.set_cons_succ] at oc9
            have z9 := x9.size
            have x79 : Ext w7 w9 (fun y => pc ≤ y) := (x8.mono fun y _ h => by omega).seq (x9.mono fun y _ h => by omega)
            have ov9 := o8.ext x9 (fun b hb h => by omega)
            have hlk : ps.length + 1 + k = (ps ++ 0 :: List.replicate k 0).length := by simp; omega
            have hmk : List.map (Value.int .i64) (ps ++ [((1 : Nat) : Int) - 1]) ++ List.replicate k (Value.int .i64 0) = (ps ++ 0 :: List.replicate k 0).map (Value.int .i64) := by simp
            rw [hmk, hlk] at ov9
            rw [hlk] at hr oc9
            refine tail _ st2 left _ _ w9 hr (by rw [← hlk]; omega) hleft (by omega) (by omega) (o67.ext x79 (by omega)) oc9 ov9 (hf7.ext x79 (fun b _ _ => by omega) hlh) (x17.seq (x79.mono fun y _ h => .inr h))
      · have n2 : ((x : Int) - 1 == 0) = false := beq_eq_false_iff_ne.2 (by omega)
        rw [if_neg h1] at hr
        simp (disch := omega) only [n2, Cnd_false]
        rw [show ps.length + 1 = (ps ++ [(x : Int) - 1]).length from by simp] at hr ov6 oc6
        exact tail _ st1 _ _ _ w6 hr (by simp; omega) (by omega) b1 (by omega) o66 oc6 ov6 hf6 x16

theorem shl1n {n : Nat} (h : n ≤ 20) : IntKind.i64.wrap (1 * 2 ^ (min n IntKind.i64.bits)) = ((2 ^ n : Nat) : Int) := shl1 h

theorem normRead_c {bv : Value} {l : List UInt8} {most : Int} {sym : Nat} {w : World} (hb : Bs w bv l) (hl : l.length ≤ 1000000) (hsym : sym ≤ 1000000) :
    Does pg F_normal_Read #[bv, .int .i64 most, .int .i64 sym] w (fun r w' => CountsOf w' w.heap.size (readL (bitsB l) most sym) r ∧ Ext w w' nob) := by
  refine normal_Read_does ?_
  obtain ⟨RR, hRR⟩ : ∃ RR : Value → World → Prop, RR = fun r w' => CountsOf w' w.heap.size (readL (bitsB l) most sym) r ∧ Ext w w' nob := ⟨_, rfl⟩
  rw [← hRR]
  have hbl := bitsB_length l
  unfold normal_Read normal_Read_p12 normal_Read_p11
  refine al_normal_Counts fun w1 o1 x1 s1 => ?_
  refine (newForward_c (hb.ext x1 (inB_nob _)) (by omega)).mono ?_
  rintro r w2 ⟨hi, rfl, hi1, hi2, hf2, x2⟩
  have z1 := x1.size
  have z2 := x2.size
  simp (disch := omega) only [Stp, bd_normal_Counts_, stepR_value]
  refine (fwdRead_c (n := 4) hf2 hi1 (by omega) (by omega) hl).mono ?_
  rintro r w3 (⟨hsh, rfl, hf3, x3⟩ | ⟨hsh, rfl, hf3, x3⟩)
  · have n1 : ((10 : Int) != 0) = true := rfl
    have hrl : readL (bitsB l) most sym = .error 10 := by unfold readL; rw [if_pos (by omega)]
    rw [hrl] at hRR
    simp (disch := omega) only [x20, x21, stepR_value, r_neq, n1, Cnd_true]
    exact readEnd (RR := RR) (e := 10) ((o1.ext x2 (fun h => h)).ext x3 (fun h => h)) ((x1.seq x2).seq x3) (Nat.le_refl _) fun w' h => by rw [hRR]; exact ⟨rfl, h⟩
  · have n1 : ((0 : Int) != 0) = false := rfl
    have hnum : numB (((bitsB l).drop 0).take 4) = numAt (bitsB l) 0 4 := rfl
    have hlt := numAt_lt (bitsB l) 0 4
    have hrl : readL (bitsB l) most sym = (if most < ((numAt (bitsB l) 0 4 + 5 : Nat) : Int) ∨ 15 < numAt (bitsB l) 0 4 + 5 then .error 12 else match rdC (bitsB l) sym ((bitsB l).length + 1) 4 (2 ^ (numAt (bitsB l) 0 4 + 5)) [] with
      | .error e => .error e
      | .ok (ps, st) => .ok (numAt (bitsB l) 0 4 + 5, ps, (st + 7) / 8)) := by unfold readL; rw [if_neg (by omega)]; rfl
    rw [hrl] at hRR
    rw [hnum]
    generalize numAt (bitsB l) 0 4 = x at *
    have e1 : (x : Int) + 5 = ((x + 5 : Nat) : Int) := by omega
    have x03 : Ext w w3 nob := (x1.seq x2).trans x3 fun b hb h => by omega
    have o13 := (o1.ext x2 (fun h => h)).ext x3 (by omega)
    simp (disch := omega) only [x20, x21, stepR_value, r_neq, n1, Cnd_false, cv_uint64_int, w_i64, r_add, e1, bd_normal_Counts_0]
    refine al_normal_Counts fun w4 o4 x4 s4 => ?_
    refine sta_normal_Counts o4 rfl (by simp [one]) (by simp) fun w5 o5 x5 s5 => ?_
    simp only [setAll, List.set_cons_zero, List.set_cons_succ] at o5
    have z3 := x3.size
    have z4 := x4.size
    have x05 : Ext w w5 nob := (x03.seq x4).new x5 (by omega)
    have x35 : Ext w3 w5 nob := x4.new x5 (by omega)
    have o15 := o13.ext x35 (fun h => h)
    have c5 := o5.cell (off := 0)
    simp only [List.getElem?_cons_zero, List.getElem?_cons_succ] at c5
    by_cases hmo : most < ((x + 5 : Nat) : Int)
    · have d1 : decide (most < ((x + 5 : Nat) : Int)) = true := by simpa using hmo
      rw [if_pos (.inl hmo)] at hRR
      simp (disch := omega) only [fa_normal_Counts_Log, stepR_value, ld_int, c5, ldC_some, r_gtr, d1, isB_tf, r_pick, if_true, Cnd_true, Gd_false]
      exact readEnd (RR := RR) (e := 12) o15 x05 (Nat.le_refl _) fun w' h => by rw [hRR]; exact ⟨rfl, h⟩
    have d1 : decide (most < ((x + 5 : Nat) : Int)) = false := by simpa using hmo
    by_cases h15 : 15 < x + 5
    · have d2 : decide ((15 : Int) < ((x + 5 : Nat) : Int)) = true := by simp; omega
      rw [if_pos (.inr h15)] at hRR
      simp (disch := omega) only [fa_normal_Counts_Log, stepR_value, ld_int, c5, ldC_some, r_gtr, d1, isB_ff, r_pick, Bool.false_eq_true, if_false, Gd_true, d2, r_shl, Int.toNat_natCast, Cnd_true]
      exact readEnd (RR := RR) (e := 12) o15 x05 (Nat.le_refl _) fun w' h => by rw [hRR]; exact ⟨rfl, h⟩
    have d2 : decide ((15 : Int) < ((x + 5 : Nat) : Int)) = false := by simp; omega
    rw [if_neg (by omega)] at hRR
    have hsh := shl1 (n := x + 5) (by omega)
    simp (disch := omega) only [fa_normal_Counts_Log, stepR_value, ld_int, c5, ldC_some, r_gtr, d1, isB_ff, r_pick, Bool.false_eq_true, if_false, Gd_true, d2, r_shl, Int.toNat_natCast, hsh, Cnd_false]
    have hl5 := o5.lt
    refine read_loop (l := l) (w0 := w) (log := x + 5) (res := rdC (bitsB l) sym ((bitsB l).length + 1) 4 (2 ^ (x + 5)) []) (lo := w1.heap.size) hi1 (Nat.le_refl _) hl (by omega) (by omega) hsym (by omega) o15 o5 (hf3.ext x35 (fun _ _ _ h => h) hi1) (by omega) x05 rfl ?_ ?_
    · intro e w' he hx
      rw [hRR, he]
      exact ⟨rfl, hx⟩
    · intro ps st v w' he ho hx
      rw [hRR, he]
      exact ⟨⟨v, rfl, ho⟩, hx⟩
end Go.Proofs.Ytcbkdccobhkbpaa
/- Contract: the reference reads counts. -/
namespace Go.Proofs.Ytcbkdccobhkbpaa
open Go Go.En Go.Pu
set_option maxRecDepth 4000
set_option linter.unusedSimpArgs false
set_option linter.unusedVariables false

/-- the noughts behind a number -/
def behind (L : List Bool) (v st1 : Nat) : Option (Nat × Nat) := if v = 1 then noR L (L.length + 1) st1 else some (0, st1)
theorem rdC_alt {L : List Bool} {sym f st left : Nat} {ps : List Int} (h0 : left ≠ 0) : rdC L sym (f + 1) st left ps = match valR L st left with
    | none => .error 10
    | some (v, st1) => match behind L v st1 with
      | none => .error 10
      | some (k, st2) => if sym < ps.length + 1 + k then .error 11 else rdC L sym f st2 (left - (partsI ((v : Int) - 1)).toNat) (ps ++ ((v : Int) - 1) :: List.replicate k 0) := by
  rw [rdC_succ, if_neg h0]
  cases valR L st left with
  | none => rfl
  | some x =>
    obtain ⟨v, st1⟩ := x
    simp only
    unfold behind
    by_cases h : v = 1
    · subst h
      rw [if_pos rfl, if_pos rfl]
      have : partsI (((1 : Nat) : Int) - 1) = 0 := rfl
      rw [this]; rfl
    · rw [if_neg h, if_neg h]
      rfl

theorem refEnd {p6 : Nat} {w0 w : World} {e : Int} (o6 : Own w p6 [.int .i64 0, .slice none 0 0]) (hx : Ext w0 w nob) (hp : w0.heap.size ≤ p6) {RR : Value → World → Prop}
    (hR : ∀ w', Ext w0 w' nob → RR (.tuple #[.agg #[.int .i64 0, .slice none 0 0], .int .i64 0, .int .i64 e]) w') :
    Stp pg (sStore 37 (.pointer (some ⟨p6, 0, none⟩)) (.agg #[.int .i64 0, .slice none 0 0])) w fun _u w => LdR pg 37 (.pointer (some ⟨p6, 0, none⟩)) w fun r0 => RR (.tuple #[r0, .int .i64 0, .int .i64 e]) w := by
  refine sta_lightermanref06_C o6 rfl (by simp [one]) (by simp) fun w6 o6 x6 s6 => ?_
  refine ldr_lightermanref06_C o6 (by simp [setAll]) ?_
  simp only [setAll, List.set_cons_zero, List.set_cons_succ, List.drop_zero, List.take_succ_cons, List.take_zero]
  exact hR _ (hx.new x6 hp)

/-- what the reference's reading holds -/
structure RdS (w : World) (p6 pf pc log st : Nat) (bv : Value) (L : List Bool) (ps : List Int) (v : Value) : Prop where
  o6 : Own w p6 [.int .i64 0, .slice none 0 0]
  of : Own w pf [bv, .int .i64 st]
  oc : Own w pc [.int .i64 log, v]
  os : OSl w (pc + 1) 1 v ps.length (ps.map (Value.int .i64))
  bl : Bl w bv L
  at' : AtI bv 0 pf
  h6 : p6 < pf
  hf : pf < pc
theorem RdS.ext {w w' : World} {p6 pf pc log st : Nat} {bv : Value} {L : List Bool} {ps : List Int} {v : Value} (h : RdS w p6 pf pc log st bv L ps v) (hx : Ext w w' nob) : RdS w' p6 pf pc log st bv L ps v :=
  ⟨h.o6.ext hx (fun h => h), h.of.ext hx (fun h => h), h.oc.ext hx (fun h => h), h.os.ext hx (fun _ _ h => h), h.bl.ext hx (inB_nob _), h.at', h.h6, h.hf⟩
theorem RdS.setF {w w' : World} {p6 pf pc log st st' : Nat} {bv : Value} {L : List Bool} {ps : List Int} {v : Value} (h : RdS w p6 pf pc log st bv L ps v) (hx : Ext w w' (fun y => y = pf)) (o : Own w' pf [bv, .int .i64 st']) : RdS w' p6 pf pc log st' bv L ps v := by
  have h6 := h.h6
  have hf := h.hf
  exact ⟨h.o6.ext hx (by omega), o, h.oc.ext hx (by omega), h.os.ext hx (fun _ _ h => by omega), h.bl.ext hx (h.at' _ fun b _ hb => by omega), h.at', h.h6, h.hf⟩

/-- one more part -/
theorem rdPush {w : World} {p6 pf pc log st : Nat} {bv : Value} {L : List Bool} {ps : List Int} {v : Value} (h : RdS w p6 pf pc log st bv L ps v) (p : Int) (hl : ps.length ≤ 100000000) {K : World → Prop}
    (hK : ∀ w' v', RdS w' p6 pf pc log st bv L (ps ++ [p]) v' → Ext w w' (fun y => pc ≤ y) → K w') :
    Stp pg (sBuildSlice 22 1 [(0, .int .i64 p)]) w fun t64 w => Stp pg (sBi .append #[22, 22] 22 [v, t64]) w fun t65 w => Stp pg (sFAddr 37 (.pointer (some ⟨pc, 0, none⟩)) 1) w fun t66 w => Stp pg (sStore 22 t66 t65) w fun _ w => K w := by
  have lpc := h.oc.lt
  have h6 := h.h6
  have hf := h.hf
  refine bs_sl_int (cells := #[.int .i64 p]) (by decide) (by decide) (by kernel_rfl) fun w4 o4 x4 s4 => ?_
  have z4 := x4.size
  refine ap_sl_int_sl_int (m := 1) (news := [.int .i64 p]) (h.os.ext x4 (fun _ _ h => h)) (o4.cl (off := 0) (l := [.int .i64 p]) (n := 1) rfl (fun i hi => by rw [Nat.zero_add])) (by simp [one]) (by omega) (by omega) fun v5 w5 o5 x5 => ?_
  have z5 := x5.size
  obtain ⟨av5, cv5, rfl⟩ := o5.len
  have oc5 := (h.oc.ext x4 (fun h => h)).ext x5 (by omega)
  simp (disch := omega) only [Stp, fa_lightermanref06_C_Part, Nat.zero_add, stepR_value]
  refine st_sl_int oc5 rfl (by simp) fun w6 oc6 x6 s6 => ?_
  simp only [List.set_cons_zero, List.set_cons_succ] at oc6
  have ov6 := o5.ext x6 (fun b hb h => by omega)
  have x26 : Ext w w6 (fun y => pc ≤ y) := ((x4.mono fun _ _ h => h.elim).seq (x5.mono fun y _ h => by omega)).seq (x6.mono fun y _ h => by omega)
  rw [show (ps.map (Value.int .i64) ++ [Value.int .i64 p]) = (ps ++ [p]).map (Value.int .i64) from by simp, show ps.length + 1 = (ps ++ [p]).length from by simp] at ov6
  rw [show ps.length + 1 = (ps ++ [p]).length from by simp] at oc6
  exact hK w6 _ ⟨h.o6.ext x26 (by omega), h.of.ext x26 (by omega), oc6, ov6, h.bl.ext x26 (h.at' _ fun b _ hb => by omega), h.at', h6, hf⟩ x26

/-- the loop that appends noughts -/
theorem ref_zeros {w : World} {p6 pf pc log st sym left : Nat} {bv : Value} {L : List Bool} {ps : List Int} {v : Value} (h : RdS w p6 pf pc log st bv L ps v) {x : Nat} (hx3 : x ≤ 3) (hl : ps.length ≤ 90000000) {kn : Value → Value → Value → Value → Value → Value → World → Prop}
    (hK : ∀ w' v', RdS w' p6 pf pc log st bv L (ps ++ List.replicate x 0) v' → Ext w w' (fun y => pc ≤ y) → kn (.int .i64 sym) (.pointer (some ⟨p6, 0, none⟩)) (.pointer (some ⟨pf, 0, none⟩)) (.pointer (some ⟨pc, 0, none⟩)) (.int .i64 left) (.bool (((x : Nat) : Int) == 3)) w') :
    ref06_Read_p9 kn (.int .i64 sym) (.pointer (some ⟨p6, 0, none⟩)) (.pointer (some ⟨pf, 0, none⟩)) (.int .u64 x) (.pointer (some ⟨pc, 0, none⟩)) (.int .i64 left) w := by
  unfold ref06_Read_p9 ref06_Read_p8 ref06_Read_p7 ref06_Read_p6 ref06_Read_p5
  refine LoopD.rule (fun m (t : Value) w' => ∃ (i : Nat) (v' : Value), m = x - i ∧ t = .int .i64 i ∧ i ≤ x ∧ RdS w' p6 pf pc log st bv L (ps ++ List.replicate i 0) v' ∧ Ext w w' (fun y => pc ≤ y)) x
    ⟨0, v, rfl, rfl, by omega, by simpa using h, Ext.refl _ _⟩ ?_
  rintro m t w1 ⟨i, v', rfl, rfl, hi, h1, x1⟩
  unfold ref06_Read_p4
  by_cases hlt : i < x
  · have d1 : decide ((i : Int) < (x : Int)) = true := by simp; omega
    have c1 := h1.oc.cell (off := 1)
    simp only [List.getElem?_cons_zero, List.getElem?_cons_succ] at c1
    simp (disch := omega) only [Stp, cv_uint64_int, w_i64, fa_lightermanref06_C_Part, Nat.zero_add, r_add, stepR_value, ld_sl_int, r_lss, d1, c1, ldC_some, Cnd_true]
    refine rdPush h1 0 (by simp; omega) fun w2 v2 h2 x2 => ?_
    refine ⟨x - (i + 1), by omega, i + 1, v2, rfl, rfl, by omega, ?_, x1.seq x2⟩
    rw [List.append_assoc, ← List.replicate_succ'] at h2
    exact h2
  · have d1 : decide ((i : Int) < (x : Int)) = false := by simp; omega
    obtain rfl : i = x := by omega
    unfold ref06_Read_p3
    simp (disch := omega) only [Stp, cv_uint64_int, w_i64, fa_lightermanref06_C_Part, Nat.zero_add, r_add, stepR_value, ld_sl_int, r_eql, r_lss, d1, Cnd_false]
    exact hK _ _ h1 x1
end Go.Proofs.Ytcbkdccobhkbpaa
/- Contract: the reference reads counts, whole. -/
namespace Go.Proofs.Ytcbkdccobhkbpaa
open Go Go.En Go.Pu
set_option maxRecDepth 4000
set_option linter.unusedSimpArgs false
set_option linter.unusedVariables false

/-- the noughts behind a number, and the check -/
theorem ref_noughts {w0 w : World} {p6 pf pc log st sym left x : Nat} {bv : Value} {L : List Bool} {ps : List Int} {v : Value} (h : RdS w p6 pf pc log st bv L ps v) (hl : ps.length ≤ 1000001) (hL : L.length ≤ 8000000) (hst : st ≤ L.length) (hx : Ext w0 w nob) (hp : w0.heap.size ≤ p6) (hsym : sym ≤ 1000000)
    {kn : Value → Value → Value → Value → Value → World → Prop} {RR : Value → World → Prop}
    (hE : ∀ w', behind L x st = none → Ext w0 w' nob → RR (.tuple #[.agg #[.int .i64 0, .slice none 0 0], .int .i64 0, .int .i64 10]) w')
    (hB : ∀ k st2 w', behind L x st = some (k, st2) → sym < ps.length + k → Ext w0 w' nob → RR (.tuple #[.agg #[.int .i64 0, .slice none 0 0], .int .i64 0, .int .i64 11]) w')
    (hK : ∀ k st2 w' v', behind L x st = some (k, st2) → ¬ sym < ps.length + k → RdS w' p6 pf pc log st2 bv L (ps ++ List.replicate k 0) v' → Ext w0 w' nob → kn (.int .i64 sym) (.pointer (some ⟨p6, 0, none⟩)) (.pointer (some ⟨pf, 0, none⟩)) (.pointer (some ⟨pc, 0, none⟩)) (.int .i64 left) w') :
    ref06_Read_p19 kn RR (.int .i64 sym) (.pointer (some ⟨p6, 0, none⟩)) (.pointer (some ⟨pf, 0, none⟩)) (.pointer (some ⟨pc, 0, none⟩)) (.int .i64 left) (.int .i64 x) w := by
  have h6 := h.h6
  have hf := h.hf
  unfold ref06_Read_p19 ref06_Read_p18
  simp (disch := omega) only [Stp, r_eql, stepR_value]
  unfold ref06_Read_p17 ref06_Read_p16 ref06_Read_p15
  refine LoopD.rule (fun m (t : Value) w' => ∃ (k0 st' : Nat) (bt : Bool) (v' : Value), t = .bool bt ∧ RdS w' p6 pf pc log st' bv L (ps ++ List.replicate k0 0) v' ∧ Ext w0 w' nob ∧ st' ≤ L.length ∧ k0 ≤ 3 * st' ∧
      (bt = true → behind L x st = (match noR L m st' with | none => none | some (k, s) => some (k0 + k, s)) ∧ L.length < 2 * m + st') ∧ (bt = false → behind L x st = some (k0, st'))) (L.length + 1)
    ⟨0, st, _, v, rfl, by simpa using h, hx, hst, by omega, ?_, ?_⟩ ?_
  · intro hb
    have hx1 : x = 1 := by simp at hb; omega
    subst hx1
    refine ⟨?_, by omega⟩
    unfold behind
    rw [if_pos rfl]
    cases noR L (L.length + 1) st with
    | none => rfl
    | some y => simp
  · intro hb
    have hx1 : x ≠ 1 := by
      intro h; subst h; simp at hb
    unfold behind
    rw [if_neg hx1]
  rintro m t w1 ⟨k0, st', bt, v', rfl, h1, x1, hst', hk0, ht, hfa⟩
  unfold ref06_Read_p14 ref06_Read_p13
  cases bt with
  | false =>
    have hb := hfa rfl
    obtain ⟨av, cv, hv⟩ := h1.os.len
    have c1 := h1.oc.cell (off := 1)
    subst hv
    simp only [List.getElem?_cons_zero, List.getElem?_cons_succ, List.length_append, List.length_replicate] at c1
    have hlen : ((ps ++ List.replicate k0 0).length : Int) = ((ps.length + k0 : Nat) : Int) := by simp
    unfold ref06_Read_p2
    by_cases hgt : sym < ps.length + k0
    · have d1 : decide ((sym : Int) < ((ps.length + k0 : Nat) : Int)) = true := by simp only [decide_eq_true_eq]; omega
      simp (disch := omega) only [Stp, fa_lightermanref06_C_Part, Nat.zero_add, bd_lightermanref06_C_, stepR_value, ld_sl_int, c1, ldC_some, ln_sl_int, r_gtr, d1, isB_tf, r_pick, if_true, Cnd_true, Gd_false, Cnd_false]
      exact refEnd (RR := RR) (e := 11) h1.o6 x1 hp fun w' h => hB _ _ _ hb hgt h
    · have d1 : decide ((sym : Int) < ((ps.length + k0 : Nat) : Int)) = false := by simp only [decide_eq_false_iff_not]; omega
      have d2 : decide ((left : Int) < 0) = false := by simp
      simp (disch := omega) only [Stp, fa_lightermanref06_C_Part, Nat.zero_add, bd_lightermanref06_C_, stepR_value, ld_sl_int, c1, ldC_some, ln_sl_int, r_gtr, d1, isB_ff, r_pick, Bool.false_eq_true, if_false, Gd_true, r_lss, d2, Cnd_false]
      exact hK _ _ _ _ hb hgt h1 x1
  | true =>
    obtain ⟨hb, hm⟩ := ht rfl
    obtain ⟨m, rfl⟩ : ∃ m', m = m' + 1 := ⟨m - 1, by omega⟩
    rw [noR_succ] at hb
    have lf := lda_lightermanref05_F (off := 0) h1.of (by simp)
    simp only [List.drop_zero, List.take_succ_cons, List.take_zero] at lf
    unfold ref06_Read_p12 ref06_Read_p11 ref06_Read_p10
    simp (disch := omega) only [Stp, lf, bd_lightermanref06_C_, stepR_value, Cnd_true]
    refine (refRead_c (n := 2) h1.bl (by omega) hst' (by omega)).mono ?_
    rintro r w2 ⟨⟨hsh, rfl⟩ | ⟨hsh, rfl⟩, x2⟩
    · have n1 : ((10 : Int) != 0) = true := rfl
      rw [if_pos (by omega)] at hb
      obtain ⟨bn, bc, hbv, _⟩ := blLen h1.bl
      simp (disch := omega) only [x30, x31, x32, stepR_value, r_neq]
      refine sta_lightermanref05_F (h1.ext x2).of rfl (by subst hbv; simp [one]) (by simp) fun w3 o3 x3 s3 => ?_
      simp (disch := omega) only [n1, Cnd_true]
      exact refEnd (RR := RR) (e := 10) ((h1.ext x2).o6.ext x3 (by omega)) ((x1.seq x2).new x3 (by omega)) hp fun w' h => hE _ hb h
    · have n1 : ((0 : Int) != 0) = false := rfl
      rw [if_neg (by omega)] at hb
      obtain ⟨bn, bc, hbv, _⟩ := blLen h1.bl
      have hlt := numAt_lt L st' 2
      simp (disch := omega) only [x30, x31, x32, stepR_value, r_neq]
      refine sta_lightermanref05_F (h1.ext x2).of rfl (by subst hbv; simp [one]) (by simp) fun w3 o3 x3 s3 => ?_
      simp only [setAll, List.set_cons_zero, List.set_cons_succ] at o3
      have h3 := (h1.ext x2).setF x3 o3
      have x03 : Ext w0 w3 nob := (x1.seq x2).new x3 (by omega)
      have z03 := x03.size
      simp (disch := omega) only [n1, Cnd_false]
      refine ref_zeros h3 (by omega) (by simp; omega) fun w4 v4 h4 x4 => ?_
      have hpc := h3.hf
      have x04 : Ext w0 w4 nob := x03.trans x4 fun b hb h => by omega
      rw [List.append_assoc, List.replicate_append_replicate] at h4
      refine ⟨m, by omega, k0 + numAt L st' 2, st' + 2, _, v4, rfl, h4, x04, hsh, by omega, ?_, ?_⟩
      · intro hq
        have h3' : numAt L st' 2 = 3 := by simp at hq; omega
        rw [if_neg (by omega)] at hb
        refine ⟨?_, by omega⟩
        rw [hb, h3']
        cases noR L m (st' + 2) with
        | none => rfl
        | some y =>
          obtain ⟨k, s⟩ := y
          simp; omega
      · intro hq
        have h3' : numAt L st' 2 ≠ 3 := by
          intro h; rw [h] at hq; simp at hq
        rw [if_pos (by omega)] at hb
        exact hb

theorem refRead_loop {log p6 pf pc sym : Nat} {w0 w : World} {bv v : Value} {L : List Bool} {res : Except Int (List Int × Nat)} (hlp : w0.heap.size ≤ p6) (hl : L.length ≤ 8000000) (hsym : sym ≤ 1000000) (hlog : log ≤ 15)
    (h : RdS w p6 pf pc log 4 bv L [] v) (h4 : 4 ≤ L.length) (hx : Ext w0 w nob)
    (hres : rdC L sym (L.length + 1) 4 (2 ^ log) [] = res)
    {RR : Value → World → Prop} (hE : ∀ e w', res = .error e → Ext w0 w' nob → RR (.tuple #[.agg #[.int .i64 0, .slice none 0 0], .int .i64 0, .int .i64 e]) w')
    (hO : ∀ ps st v w', res = .ok (ps, st) → OSl w' w0.heap.size 1 v ps.length (ps.map (Value.int .i64)) → Ext w0 w' nob → RR (.tuple #[.agg #[.int .i64 log, v], .int .i64 (((st + 7) / 8 : Nat)), .int .i64 0]) w') :
    ref06_Read_p27 RR (.int .i64 sym) (.pointer (some ⟨p6, 0, none⟩)) (.pointer (some ⟨pf, 0, none⟩)) (.pointer (some ⟨pc, 0, none⟩)) (.int .i64 (2 ^ log : Nat)) w := by
  have hp15 : 2 ^ log ≤ 2 ^ 15 := Nat.pow_le_pow_right (by omega) hlog
  have h6 := h.h6
  have hf := h.hf
  unfold ref06_Read_p27 ref06_Read_p26 ref06_Read_p25
  refine LoopD.rule (fun m (t : Value) w' => ∃ (st left : Nat) (ps : List Int) (v : Value), t = .int .i64 left ∧ rdC L sym m st left ps = res ∧ L.length < m + st ∧ st ≤ L.length ∧ left ≤ 32768 ∧ ps.length ≤ 1000000 ∧
      RdS w' p6 pf pc log st bv L ps v ∧ Ext w0 w' nob) (L.length + 1)
    ⟨4, 2 ^ log, [], v, rfl, hres, by omega, h4, by omega, by simp, h, hx⟩ ?_
  rintro m t w1 ⟨st, left, ps, v, rfl, hr, hm, hst, hleft, hpl, h1, x1⟩
  have hx0 := x1.size
  obtain ⟨m, rfl⟩ : ∃ m', m = m' + 1 := ⟨m - 1, by omega⟩
  obtain ⟨bn, bc, hbv, _⟩ := blLen h1.bl
  unfold ref06_Read_p24 ref06_Read_p23
  by_cases h0 : left = 0
  · have d1 : decide ((0 : Int) < (left : Int)) = false := by simp; omega
    rw [rdC_succ, if_pos h0] at hr
    obtain ⟨av, cv, hv⟩ := h1.os.len
    subst hv hbv
    have lc := lda_lightermanref06_C (off := 0) (own_dr h1.oc) (by simp)
    have lc' := lda_lightermanref06_C (off := 0) h1.oc (by simp)
    have lf := lda_lightermanref05_F (off := 0) (own_dr h1.of) (by simp)
    have lf' := lda_lightermanref05_F (off := 0) h1.of (by simp)
    simp only [List.drop_zero, List.take_succ_cons, List.take_zero] at lc lc' lf lf'
    unfold ref06_Read_p1
    simp (disch := omega) only [Stp, r_gtr, d1, Same, and_true, true_and, stepR_value, lc, lf, Cnd_false]
    refine (refUsed_c (by omega)).mono ?_
    rintro r w2 ⟨rfl, x2⟩
    have x12 : Ext w1 w2 nob := (Ext.dr w1 nob).seq x2
    have h2 := h1.ext x12
    have lc2 := lda_lightermanref06_C (off := 0) h2.oc (by simp)
    simp only [List.drop_zero, List.take_succ_cons, List.take_zero] at lc2
    simp (disch := omega) only [lc2, true_and]
    refine sta_lightermanref06_C h2.o6 rfl (by simp [one]) (by simp) fun w6 o6 x6 s6 => ?_
    refine ldr_lightermanref06_C o6 (by simp [setAll]) ?_
    simp only [setAll, List.set_cons_zero, List.set_cons_succ, List.drop_zero, List.take_succ_cons, List.take_zero]
    have ov6 := h2.os.ext x6 (fun b hb h => by omega)
    refine hO ps st _ w6 hr.symm ⟨ov6.1, ?_⟩ ((x1.seq x12).new x6 (by omega))
    rcases ov6.2 with h | ⟨b, c, rest, q1, q2, q3⟩
    · exact .inl h
    · exact .inr ⟨b, c, rest, q1, by omega, q3⟩
  · have d1 : decide ((0 : Int) < (left : Int)) = true := by simp; omega
    rw [rdC_alt h0] at hr
    have lf := lda_lightermanref05_F (off := 0) h1.of (by simp)
    simp only [List.drop_zero, List.take_succ_cons, List.take_zero] at lf
    unfold ref06_Read_p22 ref06_Read_p21 ref06_Read_p20
    simp (disch := omega) only [Stp, r_gtr, d1, bd_lightermanref06_C_, stepR_value, fa_lightermanref06_C_Part, Nat.zero_add, r_sub, w_i64, ld_sl_int, lf, Cnd_true]
    refine (refNext_c h1.bl hst (by omega) (by omega) hleft).mono ?_
    rintro r w2 ⟨hv2, x2⟩
    have h2 := h1.ext x2
    cases hval : valR L st left with
    | none =>
      rw [hval] at hr hv2
      obtain ⟨st', rfl⟩ := hv2
      have n1 : ((10 : Int) != 0) = true := rfl
      simp (disch := omega) only [x30, x31, x32, stepR_value, r_neq, r_sub, w_i64, r_eql]
      refine sta_lightermanref05_F h2.of rfl (by subst hbv; simp [one]) (by simp) fun w3 o3 x3 s3 => ?_
      simp (disch := omega) only [n1, Cnd_true]
      exact refEnd (RR := RR) (e := 10) (h2.o6.ext x3 (by omega)) ((x1.seq x2).new x3 (by omega)) hlp fun w' h => hE _ _ hr.symm h
    | some y =>
      obtain ⟨x, st1⟩ := y
      rw [hval] at hr hv2
      simp only at hr
      obtain rfl := hv2
      obtain ⟨b1, b2, b3⟩ := valR_bd hval (by omega)
      have n1 : ((0 : Int) != 0) = false := rfl
      simp (disch := omega) only [x30, x31, x32, stepR_value, r_neq, r_sub, w_i64, r_eql]
      refine sta_lightermanref05_F h2.of rfl (by subst hbv; simp [one]) (by simp) fun w3 o3 x3 s3 => ?_
      simp only [setAll, List.set_cons_zero, List.set_cons_succ] at o3
      have h3 := h2.setF x3 o3
      have x03 : Ext w0 w3 nob := (x1.seq x2).new x3 (by omega)
      have c3 := h3.oc.cell (off := 1)
      simp only [List.getElem?_cons_zero, List.getElem?_cons_succ] at c3
      simp (disch := omega) only [n1, c3, ldC_some, stepR_value, Cnd_false]
      refine rdPush h3 ((x : Int) - 1) (by omega) fun w4 v4 h4 x4 => ?_
      have z03 := x03.size
      have hpc := h3.hf
      have x04 : Ext w0 w4 nob := x03.trans x4 fun b hb h => by omega
      have hpn := partsI_nonneg (p := (x : Int) - 1) (by omega)
      have hfin : ∀ (left' : Nat), left' = left - (partsI ((x : Int) - 1)).toNat → ref06_Read_p19 (fun _ _ _ _ left_13 w'' => ∃ m', m' < m + 1 ∧ ∃ (st left : Nat) (ps : List Int) (v : Value), left_13 = .int .i64 left ∧ rdC L sym m' st left ps = res ∧ L.length < m' + st ∧ st ≤ L.length ∧ left ≤ 32768 ∧ ps.length ≤ 1000000 ∧
          RdS w'' p6 pf pc log st bv L ps v ∧ Ext w0 w'' nob) RR (.int .i64 sym) (.pointer (some ⟨p6, 0, none⟩)) (.pointer (some ⟨pf, 0, none⟩)) (.pointer (some ⟨pc, 0, none⟩)) (.int .i64 left') (.int .i64 x) w4 := by
        intro left' hl'
        have hlen1 : (ps ++ [(x : Int) - 1]).length = ps.length + 1 := by simp
        refine ref_noughts (left := left') h4 (by omega) hl b2 x04 hlp hsym ?_ ?_ ?_
        · intro w' hbe hx
          rw [hbe] at hr
          exact hE _ _ hr.symm hx
        · intro k st2 w' hbe hgt hx
          rw [hbe] at hr
          simp only at hr
          rw [if_pos (by omega)] at hr
          exact hE _ _ hr.symm hx
        · intro k st2 w' v' hbe hgt h5 hx
          rw [hbe] at hr
          simp only at hr
          rw [if_neg (by omega), ← hl'] at hr
          have hb2 : st1 ≤ st2 ∧ st2 ≤ L.length := by
            unfold behind at hbe
            split at hbe
            · obtain ⟨q1, q2, _⟩ := noR_bd hbe; omega
            · obtain ⟨rfl, rfl⟩ := Prod.mk.inj (Option.some.inj hbe); omega
          rw [List.append_assoc, List.singleton_append] at h5
          exact ⟨m, by omega, st2, left', _, v', rfl, hr, by omega, hb2.2, by omega, by simp; omega, h5, hx⟩
      by_cases hx0 : x = 0
      · subst hx0
        have n2 : (((0 : Nat) : Int) == 0) = true := rfl
        have e1 : (left : Int) - 1 = ((left - 1 : Nat) : Int) := by omega
        simp (disch := omega) only [n2, e1, Cnd_true]
        exact hfin _ rfl
      · have n2 : ((x : Int) == 0) = false := beq_eq_false_iff_ne.2 (by omega)
        have e0 : (x : Int) - 1 = ((x - 1 : Nat) : Int) := by omega
        have e1 : (left : Int) - ((x : Int) - 1) = ((left - (x - 1) : Nat) : Int) := by omega
        simp (disch := omega) only [n2, e1, Cnd_false]
        refine hfin _ ?_
        unfold partsI
        rw [if_neg (by omega), e0, Int.toNat_natCast]

theorem refRead6_c {s : ByteArray} {most : Int} {sym : Nat} {w : World} (hl : s.size ≤ 1000000) (hsym : sym ≤ 1000000) :
    Does pg F_ref06_Read #[.string s, .int .i64 most, .int .i64 sym] w (fun r w' => CountsOf w' w.heap.size (readL (bitsB (lst s)) most sym) r ∧ Ext w w' nob) := by
  refine ref06_Read_does ?_
  obtain ⟨RR, hRR⟩ : ∃ RR : Value → World → Prop, RR = fun r w' => CountsOf w' w.heap.size (readL (bitsB (lst s)) most sym) r ∧ Ext w w' nob := ⟨_, rfl⟩
  rw [← hRR]
  have hll := lst_length s
  have hbl := bitsB_length (lst s)
  unfold ref06_Read ref06_Read_p29 ref06_Read_p28
  refine al_lightermanref06_C fun w1 o1 x1 s1 => ?_
  refine (refBits5_c hl).mono ?_
  rintro r w2 ⟨ob2, x2⟩
  have hbl2 : Bl w2 r (bitsB (lst s)) := ob2.sl
  have hat := OSl.atI ob2
  obtain ⟨bn, bc, rfl, _⟩ := blLen hbl2
  have z1 := x1.size
  have z2 := x2.size
  simp (disch := omega) only [Stp, bd_lightermanref05_F_0, bd_lightermanref06_C_, stepR_value]
  refine al_lightermanref05_F fun w3 o3 x3 s3 => ?_
  refine sta_lightermanref05_F o3 rfl (by simp [one]) (by simp) fun w4 o4 x4 s4 => ?_
  simp only [setAll, List.set_cons_zero, List.set_cons_succ] at o4
  have z3 := x3.size
  have z4 := x4.size
  have x24 : Ext w2 w4 nob := x3.new x4 (by omega)
  have lf := lda_lightermanref05_F (off := 0) o4 (by simp)
  simp only [List.drop_zero, List.take_succ_cons, List.take_zero] at lf
  have hbl4 := hbl2.ext x24 (inB_nob _)
  have e0 : (0 : Int) = ((0 : Nat) : Int) := rfl
  rw [e0] at lf
  simp (disch := omega) only [lf, stepR_value]
  refine (refRead_c (st := 0) (n := 4) hbl4 (by omega) (by omega) (by omega)).mono ?_
  rintro r w5 ⟨⟨hsh, rfl⟩ | ⟨hsh, rfl⟩, x5⟩
  · have n1 : ((10 : Int) != 0) = true := rfl
    have hrl : readL (bitsB (lst s)) most sym = .error 10 := by unfold readL; rw [if_pos (by omega)]
    rw [hrl] at hRR
    simp (disch := omega) only [x30, x31, x32, stepR_value, r_neq, cv_uint64_int, w_i64, r_add, bd_lightermanref06_C_0]
    refine sta_lightermanref05_F (o4.ext x5 (fun h => h)) rfl (by simp [one]) (by simp) fun w6 o6 x6 s6 => ?_
    simp (disch := omega) only [n1, Cnd_true]
    exact refEnd (RR := RR) (e := 10) ((((o1.ext x2 (fun h => h)).ext x24 (fun h => h)).ext x5 (fun h => h)).ext x6 (by omega)) ((((x1.seq x2).seq x24).seq x5).new x6 (by omega)) (Nat.le_refl _) fun w' h => by rw [hRR]; exact ⟨rfl, h⟩
  · have n1 : ((0 : Int) != 0) = false := rfl
    have hlt := numAt_lt (bitsB (lst s)) 0 4
    have hrl : readL (bitsB (lst s)) most sym = (if most < ((numAt (bitsB (lst s)) 0 4 + 5 : Nat) : Int) ∨ 15 < numAt (bitsB (lst s)) 0 4 + 5 then .error 12 else match rdC (bitsB (lst s)) sym ((bitsB (lst s)).length + 1) 4 (2 ^ (numAt (bitsB (lst s)) 0 4 + 5)) [] with
      | .error e => .error e
      | .ok (ps, st) => .ok (numAt (bitsB (lst s)) 0 4 + 5, ps, (st + 7) / 8)) := by unfold readL; rw [if_neg (by omega)]; rfl
    rw [hrl] at hRR
    generalize numAt (bitsB (lst s)) 0 4 = x at *
    have e1 : (x : Int) + 5 = ((x + 5 : Nat) : Int) := by omega
    have z5 := x5.size
    simp (disch := omega) only [Nat.zero_add, x30, x31, x32, stepR_value, r_neq, cv_uint64_int, w_i64, r_add, bd_lightermanref06_C_0]
    refine sta_lightermanref05_F (o4.ext x5 (fun h => h)) rfl (by simp [one]) (by simp) fun w6 o6 x6 s6 => ?_
    simp only [setAll, List.set_cons_zero, List.set_cons_succ] at o6
    have z6 := x6.size
    have x06 : Ext w w6 nob := (((x1.seq x2).seq x24).seq x5).new x6 (by omega)
    have o16 := ((((o1.ext x2 (fun h => h)).ext x24 (fun h => h)).ext x5 (fun h => h)).ext x6 (by omega))
    have hbl6 : Bl w6 _ _ := (hbl4.ext x5 (inB_nob _)).ext x6 (hat _ fun b hb hh => by omega)
    simp (disch := omega) only [n1, e1, Cnd_false]
    refine al_lightermanref06_C fun w7 o7 x7 s7 => ?_
    refine sta_lightermanref06_C o7 rfl (by simp [one]) (by simp) fun w8 o8 x8 s8 => ?_
    simp only [setAll, List.set_cons_zero, List.set_cons_succ] at o8
    have x68 : Ext w6 w8 nob := x7.new x8 (by omega)
    have x08 : Ext w w8 nob := x06.seq x68
    have o18 := o16.ext x68 (fun h => h)
    have c8 := o8.cell (off := 0)
    simp only [List.getElem?_cons_zero, List.getElem?_cons_succ] at c8
    by_cases hmo : most < ((x + 5 : Nat) : Int)
    · have d1 : decide (most < ((x + 5 : Nat) : Int)) = true := by simpa using hmo
      rw [if_pos (.inl hmo)] at hRR
      simp (disch := omega) only [fa_lightermanref06_C_Log, stepR_value, ld_int, c8, ldC_some, r_gtr, d1, isB_tf, r_pick, if_true, Cnd_true, Gd_false]
      exact refEnd (RR := RR) (e := 12) o18 x08 (Nat.le_refl _) fun w' h => by rw [hRR]; exact ⟨rfl, h⟩
    have d1 : decide (most < ((x + 5 : Nat) : Int)) = false := by simpa using hmo
    by_cases h15 : 15 < x + 5
    · have d2 : decide ((15 : Int) < ((x + 5 : Nat) : Int)) = true := by simp; omega
      rw [if_pos (.inr h15)] at hRR
      simp (disch := omega) only [fa_lightermanref06_C_Log, stepR_value, ld_int, c8, ldC_some, r_gtr, d1, isB_ff, r_pick, Bool.false_eq_true, if_false, Gd_true, d2, Cnd_true]
      exact refEnd (RR := RR) (e := 12) o18 x08 (Nat.le_refl _) fun w' h => by rw [hRR]; exact ⟨rfl, h⟩
    have d2 : decide ((15 : Int) < ((x + 5 : Nat) : Int)) = false := by simp; omega
    rw [if_neg (by omega)] at hRR
    simp (disch := omega) only [fa_lightermanref06_C_Log, stepR_value, ld_int, c8, ldC_some, r_gtr, d1, isB_ff, r_pick, Bool.false_eq_true, if_false, Gd_true, d2, Cnd_false]
    refine (power_c (x + 5) (by omega) _).mono ?_
    rintro r w9 ⟨rfl, rfl⟩
    have hpow : ((2 ^ (x + 5) : Nat) : Int) = (2 : Int) ^ (x + 5) := by simp
    rw [← hpow]
    have hS : RdS w9 w.heap.size w2.heap.size w6.heap.size (x + 5) 4 (.slice bn (bitsB (lst s)).length bc) (bitsB (lst s)) [] (.slice none 0 0) :=
      ⟨o18, o6.ext x68 (fun h => h), o8, OSl.nil _ _ _, hbl6.ext x68 (inB_nob _), fun M hM => hat M fun b _ hb => hM b (by omega) (by omega), by omega, by omega⟩
    refine refRead_loop (w0 := w) (res := rdC (bitsB (lst s)) sym ((bitsB (lst s)).length + 1) 4 (2 ^ (x + 5)) []) (Nat.le_refl _) (by omega) hsym (by omega) hS (by omega) x08 rfl ?_ ?_
    · intro e w' he hx
      rw [hRR, he]
      exact ⟨rfl, hx⟩
    · intro ps st v w' he ho hx
      rw [hRR, he]
      exact ⟨⟨v, rfl, ho⟩, hx⟩
end Go.Proofs.Ytcbkdccobhkbpaa
