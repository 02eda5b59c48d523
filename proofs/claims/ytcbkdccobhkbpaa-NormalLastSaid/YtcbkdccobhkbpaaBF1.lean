/- Contracts: which counts may be; of the program, and of its reference. -/
import Derived.Test.YtcbkdccobhkbpaaT
import Derived.Test.YtcbkdccobhkbpaaPuF
namespace Go.Proofs.Ytcbkdccobhkbpaa
open Go Go.En Go.Pu
set_option maxRecDepth 4000
set_option linter.unusedSimpArgs false
set_option linter.unusedVariables false

theorem parts_c (p : Int) (w : World) : Does pg F_normal_parts #[.int .i64 p] w (fun r w' => r = .int .i64 (partsI p) ∧ w' = w) := by
  refine normal_parts_does ?_
  unfold partsI
  by_cases h : p < 0
  · have d : decide (p < 0) = true := by simpa using h
    simp (disch := omega) only [normal_parts, normal_parts_p1, Stp, r_lss, d, stepR_value, and_true, Cnd_true]
    rw [if_pos h]
  · have d : decide (p < 0) = false := by simpa using h
    simp (disch := omega) only [normal_parts, normal_parts_p1, Stp, r_lss, d, stepR_value, and_true, Cnd_false]
    rw [if_neg h]

theorem headB_last {ps : List Int} (h : 0 < ps.length) : (ps.getLast? = some 0) ↔ ps[ps.length - 1]'(by omega) = 0 := by
  rw [List.getLast?_eq_getElem?, List.getElem?_eq_getElem (by omega)]
  simp

theorem may_c {log : Int} {sv : Value} {ps : List Int} {w : World} (hs : Sl w sv (ps.map (Value.int .i64))) (hl : ps.length ≤ 9223372036854775807) :
    Does pg F_normal_may #[.agg #[.int .i64 log, sv]] w (fun r w' => r = .bool (mayB log ps) ∧ Ext w w' nob) := by
  refine normal_may_does ?_
  unfold normal_may normal_may_p9 normal_may_p8
  obtain ⟨a, c, rfl, hc⟩ := hs.lenI
  refine stp_box fun w1 o1 x1 s1 => ?_
  have hs0 := hs
  have hs := hs.ext x1 (inB_nob _)
  have c0 := o1.cell (off := 0)
  have c1 := o1.cell (off := 1)
  simp only [Value.cells, List.getElem?_cons_zero, List.getElem?_cons_succ] at c0 c1
  have no : ¬ (5 ≤ log ∧ log ≤ 15 ∧ 1 ≤ ps.length ∧ ps.length ≤ 256 ∧ ps.getLast? ≠ some 0) → mayB log ps = false := fun h => by
    unfold mayB headB; rw [decide_eq_false h]; rfl
  by_cases h1 : log < 5
  · have d1 : decide (log < 5) = true := by simpa using h1
    simp (disch := omega) only [Stp, fa_normal_Counts_Log, stepR_value, fa_normal_Counts_Part, Nat.zero_add, ld_int, c0, ldC_some, r_lss, d1, isB_tf, r_pick, if_true, Cnd_true, Gd_false]
    exact ⟨by rw [no (by omega)], x1⟩
  have d1 : decide (log < 5) = false := by simpa using h1
  by_cases h2 : 15 < log
  · have d2 : decide (15 < log) = true := by simpa using h2
    simp (disch := omega) only [Stp, fa_normal_Counts_Log, stepR_value, fa_normal_Counts_Part, Nat.zero_add, ld_int, c0, ldC_some, r_lss, d1, isB_ff, r_pick, Bool.false_eq_true, if_false, Gd_true, r_gtr, d2, isB_tf, if_true, Cnd_true, Gd_false]
    exact ⟨by rw [no (by omega)], x1⟩
  have d2 : decide (15 < log) = false := by simpa using h2
  by_cases h3 : ps.length < 1
  · have d3 : decide ((ps.length : Int) < 1) = true := by simp; omega
    simp (disch := omega) only [Stp, fa_normal_Counts_Log, stepR_value, fa_normal_Counts_Part, Nat.zero_add, ld_int, c0, ldC_some, r_lss, d1, isB_ff, r_pick, Bool.false_eq_true, if_false, Gd_true, r_gtr, d2, ld_sl_int, c1, ln_sl_int, d3, isB_tf, if_true, Cnd_true, Gd_false]
    exact ⟨by rw [no (by omega)], x1⟩
  have d3 : decide ((ps.length : Int) < 1) = false := by simp; omega
  by_cases h4 : 256 < ps.length
  · have d4 : decide ((256 : Int) < (ps.length : Int)) = true := by simp; omega
    simp (disch := omega) only [Stp, fa_normal_Counts_Log, stepR_value, fa_normal_Counts_Part, Nat.zero_add, ld_int, c0, ldC_some, r_lss, d1, isB_ff, r_pick, Bool.false_eq_true, if_false, Gd_true, r_gtr, d2, ld_sl_int, c1, ln_sl_int, d3, d4, isB_tf, if_true, Cnd_true, Gd_false]
    exact ⟨by rw [no (by omega)], x1⟩
  have d4 : decide ((256 : Int) < (ps.length : Int)) = false := by simp; omega
  obtain ⟨b, off, c', e, hc', hcell⟩ := hs.openI (by omega)
  cases e
  have e1 : ((ps.length : Int) - 1) = ((ps.length - 1 : Nat) : Int) := by omega
  have g1 := hcell (ps.length - 1) (by omega)
  by_cases h5 : ps[ps.length - 1]'(by omega) = 0
  · have d5 : (ps[ps.length - 1]'(by omega) == 0) = true := by simpa using h5
    simp (disch := omega) only [Stp, fa_normal_Counts_Log, stepR_value, fa_normal_Counts_Part, Nat.zero_add, ld_int, c0, ldC_some, r_lss, d1, isB_ff, r_pick, Bool.false_eq_true, if_false, Gd_true, r_gtr, d2, ld_sl_int, c1, ln_sl_int, d3, d4, r_sub, e1, w_i64, ia_sl_int, Int.toNat_natCast, g1, r_eql, d5, r_shl, Cnd_true]
    exact ⟨by rw [no (fun h => h.2.2.2.2 ((headB_last (by omega)).2 h5))], x1⟩
  have d5 : (ps[ps.length - 1]'(by omega) == 0) = false := by simpa using h5
  obtain ⟨l, rfl⟩ : ∃ l : Nat, log = l := ⟨log.toNat, by omega⟩
  have hsh : IntKind.i64.wrap (1 * 2 ^ (min l IntKind.i64.bits)) = (2 : Int) ^ l := by
    have : ∀ k : Fin 16, IntKind.i64.wrap (1 * 2 ^ (min k.val IntKind.i64.bits)) = (2 : Int) ^ k.val := by decide
    exact this ⟨l, by omega⟩
  have hyes : mayB (l : Int) ps = fits (2 ^ l) ps := by
    unfold mayB headB
    rw [decide_eq_true ⟨by omega, by omega, by omega, by omega, fun h => h5 ((headB_last (by omega)).1 h)⟩, Int.toNat_natCast]; rfl
  simp (disch := omega) only [Stp, fa_normal_Counts_Log, stepR_value, fa_normal_Counts_Part, Nat.zero_add, ld_int, c0, ldC_some, r_lss, d1, isB_ff, r_pick, Bool.false_eq_true, if_false, Gd_true, r_gtr, d2, ld_sl_int, c1, ln_sl_int, d3, d4, r_sub, e1, w_i64, ia_sl_int, Int.toNat_natCast, g1, r_eql, d5, r_shl, hsh, Cnd_false]
  unfold normal_may_p7 normal_may_p6 normal_may_p5 normal_may_p4 normal_may_p3
  simp (disch := omega) only [Stp, fa_normal_Counts_Part, Nat.zero_add, stepR_value, ld_sl_int, c1, ldC_some, ln_sl_int]
  have hp15 := pow_le15 (log := l) (by omega)
  have hp1 := pow_pos' l
  refine LoopD.rule (fun m t w' => ∃ (i : Nat) (left : Int), m = ps.length - i ∧ t = (.int .i64 left, .int .i64 i) ∧ i ≤ ps.length ∧ 0 ≤ left ∧ left ≤ 32768 ∧ fits (2 ^ l) ps = fits left (ps.drop i) ∧ Ext w w' nob) ps.length
    ⟨0, 2 ^ l, rfl, rfl, by omega, by omega, hp15, rfl, x1⟩ ?_
  rintro m t w2 ⟨i, left, rfl, rfl, hi, hl0, hl1, hf, x2⟩
  by_cases hlt : i < ps.length
  · have d6 : decide ((i : Int) < (ps.length : Int)) = true := by simp; omega
    have hsw := hs0.ext x2 (inB_nob _)
    obtain ⟨b', off', c', e, _, hcell2⟩ := hsw.openI (by omega)
    cases e
    have g2 := hcell2 i hlt
    have hd : ps.drop i = ps[i] :: ps.drop (i + 1) := List.drop_eq_getElem_cons hlt
    rw [hd, fits] at hf
    by_cases h6 : ps[i] < -1
    · have d7 : decide (ps[i] < -1) = true := by simpa using h6
      simp (disch := omega) only [normal_may_p2, Stp, r_lss, d6, ia_sl_int, Int.toNat_natCast, r_add, w_i64, stepR_value, ld_int, g2, ldC_some, d7, isB_tf, r_pick, if_true, Cnd_true, Gd_false]
      rw [if_pos (.inl h6)] at hf
      exact ⟨by rw [hyes, hf], x2⟩
    have d7 : decide (ps[i] < -1) = false := by simpa using h6
    simp (disch := omega) only [normal_may_p2, Stp, r_lss, d6, ia_sl_int, Int.toNat_natCast, r_add, w_i64, stepR_value, ld_int, g2, ldC_some, d7, isB_ff, r_pick, Bool.false_eq_true, if_false, Gd_true, Cnd_true]
    refine (parts_c _ _).mono ?_
    rintro r w3 ⟨rfl, rfl⟩
    by_cases h7 : left < partsI ps[i]
    · have d8 : decide (left < partsI ps[i]) = true := by simpa using h7
      simp (disch := omega) only [r_gtr, d8, stepR_value, Cnd_true]
      rw [if_pos (.inr h7)] at hf
      exact ⟨by rw [hyes, hf], x2⟩
    have d8 : decide (left < partsI ps[i]) = false := by simpa using h7
    simp (disch := omega) only [r_gtr, d8, stepR_value, Cnd_false]
    refine (parts_c _ _).mono ?_
    rintro r w3 ⟨rfl, rfl⟩
    rw [if_neg (by omega)] at hf
    have hpn := partsI_nonneg (p := ps[i]) (by omega)
    simp (disch := omega) only [r_sub, w_i64, stepR_value]
    exact ⟨ps.length - (i + 1), by omega, i + 1, left - partsI ps[i], rfl, rfl, by omega, by omega, by omega, hf, x2⟩
  · have d6 : decide ((i : Int) < (ps.length : Int)) = false := by simp; omega
    rw [List.drop_of_length_le (by omega), fits] at hf
    unfold normal_may_p2 normal_may_p1
    simp (disch := omega) only [Stp, r_lss, d6, r_add, w_i64, stepR_value, r_eql, Cnd_false]
    exact ⟨by rw [hyes, hf], x2⟩
end Go.Proofs.Ytcbkdccobhkbpaa
/- Contracts: the reference's counts that may be; both checks. -/
namespace Go.Proofs.Ytcbkdccobhkbpaa
open Go Go.En Go.Pu
set_option maxRecDepth 4000
set_option linter.unusedSimpArgs false
set_option linter.unusedVariables false

theorem power_c (n : Nat) (hn : n ≤ 40) (w : World) : Does pg F_ref06_Power #[.int .i64 n] w (fun r w' => r = .int .i64 (2 ^ n) ∧ w' = w) := by
  refine ref06_Power_does ?_
  unfold ref06_Power ref06_Power_p9 ref06_Power_p8 ref06_Power_p7 ref06_Power_p6 ref06_Power_p5 ref06_Power_p4 ref06_Power_p3
  refine LoopD.rule (fun m t w' => ∃ i : Nat, m = n - i ∧ t = (.int .i64 (2 ^ i), .int .i64 i) ∧ i ≤ n ∧ w' = w) n ⟨0, rfl, rfl, by omega, rfl⟩ ?_
  rintro m t w' ⟨i, rfl, rfl, hi, rfl⟩
  by_cases hlt : i < n
  · have d1 : decide ((i : Int) < (n : Int)) = true := by simp; omega
    have d2 : decide ((i : Int) < 40) = true := by simp; omega
    have hb : (2 : Int) ^ i ≤ 549755813888 := by
      have : 2 ^ i ≤ 2 ^ 39 := Nat.pow_le_pow_right (by omega) (by omega)
      have e : ((2 ^ i : Nat) : Int) = (2 : Int) ^ i := by simp
      omega
    have hp := pow_pos' i
    simp (disch := omega) only [ref06_Power_p2, Stp, r_lss, d1, r_mul, w_i64, r_add, stepR_value, isB_tt, r_pick, if_true, Gd_true, d2, and_true, Cnd_true]
    exact ⟨n - (i + 1), by omega, i + 1, rfl, by rw [Int.pow_succ]; rfl, by omega⟩
  · have d1 : decide ((i : Int) < (n : Int)) = false := by simp; omega
    have : i = n := by omega
    subst this
    simp (disch := omega) only [ref06_Power_p2, Stp, r_lss, d1, r_mul, r_add, w_i64, stepR_value, ref06_Power_p1, true_and, isB_ft, r_pick, Bool.false_eq_true, if_false, Cnd_false, Gd_false]

theorem take_sum {ps : List Int} {i : Nat} (hi : i < ps.length) : sumP (ps.take (i + 1)) = sumP (ps.take i) + partsI ps[i] := by
  rw [List.take_add_one, List.getElem?_eq_getElem hi, sumP_append]; simp [sumP]

theorem refMay_c {log : Int} {sv : Value} {ps : List Int} {w : World} (hs : Sl w sv (ps.map (Value.int .i64))) (hl : ps.length ≤ 9223372036854775807) :
    Does pg F_ref06_May #[.agg #[.int .i64 log, sv]] w (fun r w' => r = .bool (mayB log ps) ∧ Ext w w' nob) := by
  refine ref06_May_does ?_
  unfold ref06_May ref06_May_p16 ref06_May_p15
  obtain ⟨a, c, rfl, hc⟩ := hs.lenI
  refine stp_box fun w1 o1 x1 s1 => ?_
  have hs0 := hs.ext x1 (inB_nob _)
  have c0 := o1.cell (off := 0)
  have c1 := o1.cell (off := 1)
  simp only [Value.cells, List.getElem?_cons_zero, List.getElem?_cons_succ] at c0 c1
  have no : ¬ (5 ≤ log ∧ log ≤ 15 ∧ 1 ≤ ps.length ∧ ps.length ≤ 256 ∧ ps.getLast? ≠ some 0) → mayB log ps = false := fun h => by
    unfold mayB headB; rw [decide_eq_false h]; rfl
  by_cases h1 : log < 5
  · have d1 : decide (log < 5) = true := by simpa using h1
    simp (disch := omega) only [Stp, fa_lightermanref06_C_Log, stepR_value, fa_lightermanref06_C_Part, Nat.zero_add, ld_int, c0, ldC_some, r_lss, d1, isB_tf, r_pick, if_true, Cnd_true, Gd_false]
    exact ⟨by rw [no (by omega)], x1⟩
  have d1 : decide (log < 5) = false := by simpa using h1
  by_cases h2 : 15 < log
  · have d2 : decide (15 < log) = true := by simpa using h2
    simp (disch := omega) only [Stp, fa_lightermanref06_C_Log, stepR_value, fa_lightermanref06_C_Part, Nat.zero_add, ld_int, c0, ldC_some, r_lss, d1, isB_ff, r_pick, Bool.false_eq_true, if_false, Gd_true, r_gtr, d2, isB_tf, if_true, Cnd_true, Gd_false]
    exact ⟨by rw [no (by omega)], x1⟩
  have d2 : decide (15 < log) = false := by simpa using h2
  by_cases h3 : ps.length < 1
  · have d3 : ((ps.length : Int) == 0) = true := by rw [beq_iff_eq]; omega
    simp (disch := omega) only [Stp, fa_lightermanref06_C_Log, stepR_value, fa_lightermanref06_C_Part, Nat.zero_add, ld_int, c0, ldC_some, r_lss, d1, isB_ff, r_pick, Bool.false_eq_true, if_false, Gd_true, r_gtr, d2, ld_sl_int, c1, ln_sl_int, r_eql, d3, isB_tf, if_true, Cnd_true, Gd_false]
    exact ⟨by rw [no (by omega)], x1⟩
  have d3 : ((ps.length : Int) == 0) = false := by rw [beq_eq_false_iff_ne]; omega
  by_cases h4 : 256 < ps.length
  · have d4 : decide ((256 : Int) < (ps.length : Int)) = true := by simp; omega
    simp (disch := omega) only [Stp, fa_lightermanref06_C_Log, stepR_value, fa_lightermanref06_C_Part, Nat.zero_add, ld_int, c0, ldC_some, r_lss, d1, isB_ff, r_pick, Bool.false_eq_true, if_false, Gd_true, r_gtr, d2, ld_sl_int, c1, ln_sl_int, r_eql, d3, d4, isB_tf, if_true, Cnd_true, Gd_false]
    exact ⟨by rw [no (by omega)], x1⟩
  have d4 : decide ((256 : Int) < (ps.length : Int)) = false := by simp; omega
  obtain ⟨b, off, c', e, hc', hcell⟩ := hs0.openI (by omega)
  cases e
  have e1 : ((ps.length : Int) - 1) = ((ps.length - 1 : Nat) : Int) := by omega
  have g1 := hcell (ps.length - 1) (by omega)
  by_cases h5 : ps[ps.length - 1]'(by omega) = 0
  · have d5 : (ps[ps.length - 1]'(by omega) == 0) = true := by simpa using h5
    simp (disch := omega) only [Stp, fa_lightermanref06_C_Log, stepR_value, fa_lightermanref06_C_Part, Nat.zero_add, ld_int, c0, ldC_some, r_lss, d1, isB_ff, r_pick, Bool.false_eq_true, if_false, Gd_true, r_gtr, d2, ld_sl_int, c1, ln_sl_int, r_eql, d3, d4, r_sub, e1, w_i64, ia_sl_int, Int.toNat_natCast, g1, d5, Cnd_true]
    exact ⟨by rw [no (fun h => h.2.2.2.2 ((headB_last (by omega)).2 h5))], x1⟩
  have d5 : (ps[ps.length - 1]'(by omega) == 0) = false := by simpa using h5
  obtain ⟨l, rfl⟩ : ∃ l : Nat, log = l := ⟨log.toNat, by omega⟩
  have hyes : mayB (l : Int) ps = fits (2 ^ l) ps := by
    unfold mayB headB
    rw [decide_eq_true ⟨by omega, by omega, by omega, by omega, fun h => h5 ((headB_last (by omega)).1 h)⟩, Int.toNat_natCast]; rfl
  simp (disch := omega) only [Stp, fa_lightermanref06_C_Log, stepR_value, fa_lightermanref06_C_Part, Nat.zero_add, ld_int, c0, ldC_some, r_lss, d1, isB_ff, r_pick, Bool.false_eq_true, if_false, Gd_true, r_gtr, d2, ld_sl_int, c1, ln_sl_int, r_eql, d3, d4, r_sub, e1, w_i64, ia_sl_int, Int.toNat_natCast, g1, d5, Cnd_false]
  unfold ref06_May_p14 ref06_May_p13 ref06_May_p12 ref06_May_p11 ref06_May_p10
  have hp15 := pow_le15 (log := l) (by omega)
  refine LoopD.rule (fun m t w' => ∃ (i : Nat), m = ps.length - i ∧ t = (.int .i64 (sumP (ps.take i)), .int .i64 i) ∧ i ≤ ps.length ∧ 0 ≤ sumP (ps.take i) ∧ sumP (ps.take i) ≤ 32768 * i ∧ (∀ p ∈ ps.take i, -1 ≤ p) ∧ Ext w w' nob ∧ Ext w1 w' nob) ps.length
    ⟨0, rfl, by simp [sumP], by omega, by simp [sumP], by simp [sumP], by simp, x1, Ext.refl _ _⟩ ?_
  rintro m t w2 ⟨i, rfl, rfl, hi, hs0', hs1, hlo, x2, x12⟩
  have o2 := o1.ext x12 (fun h => h)
  have c0 := o2.cell (off := 0)
  have c1 := o2.cell (off := 1)
  simp only [Value.cells, List.getElem?_cons_zero, List.getElem?_cons_succ] at c0 c1
  by_cases hlt : i < ps.length
  · have d6 : decide ((i : Int) < (ps.length : Int)) = true := by simp; omega
    obtain ⟨b', off', c', e, _, hcell2⟩ := (hs.ext x2 (inB_nob _)).openI (by omega)
    cases e
    have g2 := hcell2 i hlt
    have bad : ¬ (-1 ≤ ps[i] ∧ ps[i] ≤ 32768) → mayB (l : Int) ps = false := fun h => by
      rw [hyes, ← Bool.not_eq_true, fits_iff]
      rintro ⟨k1, k2⟩
      have := part_le k1 (List.getElem_mem hlt)
      have := k1 _ (List.getElem_mem hlt)
      unfold partsI at *
      split at * <;> omega
    by_cases h6 : ps[i] < -1
    · have d7 : decide (ps[i] < -1) = true := by simpa using h6
      unfold ref06_May_p9 ref06_May_p8 ref06_May_p7 ref06_May_p6 ref06_May_p5 ref06_May_p4
      simp (disch := omega) only [Stp, fa_lightermanref06_C_Part, Nat.zero_add, stepR_value, ld_sl_int, c1, ldC_some, ln_sl_int, r_lss, d6, ia_sl_int, Int.toNat_natCast, ld_int, g2, d7, isB_tf, r_pick, if_true, Cnd_true, Gd_false]
      exact ⟨by rw [bad (by omega)], x2⟩
    have d7 : decide (ps[i] < -1) = false := by simpa using h6
    by_cases h7 : 32768 < ps[i]
    · have d8 : decide (32768 < ps[i]) = true := by simpa using h7
      unfold ref06_May_p9 ref06_May_p8 ref06_May_p7 ref06_May_p6 ref06_May_p5 ref06_May_p4
      simp (disch := omega) only [Stp, fa_lightermanref06_C_Part, Nat.zero_add, stepR_value, ld_sl_int, c1, ldC_some, ln_sl_int, r_lss, d6, ia_sl_int, Int.toNat_natCast, ld_int, g2, d7, isB_ff, r_pick, Bool.false_eq_true, if_false, Gd_true, r_gtr, d8, Cnd_true]
      exact ⟨by rw [bad (by omega)], x2⟩
    have d8 : decide (32768 < ps[i]) = false := by simpa using h7
    have hts := take_sum hlt
    have hlow : ∀ p ∈ ps.take (i + 1), -1 ≤ p := fun p hp => by
      rw [List.take_add_one, List.getElem?_eq_getElem hlt] at hp
      rcases List.mem_append.1 hp with hp | hp
      · exact hlo p hp
      · simp at hp; omega
    unfold ref06_May_p9 ref06_May_p8 ref06_May_p7 ref06_May_p6 ref06_May_p5 ref06_May_p4
    by_cases h8 : ps[i] < 0
    · have d9 : decide (ps[i] < 0) = true := by simpa using h8
      have e : partsI ps[i] = 1 := by unfold partsI; rw [if_pos h8]
      simp (disch := omega) only [Stp, fa_lightermanref06_C_Part, Nat.zero_add, ref06_May_p3, r_add, w_i64, ref06_May_p2, stepR_value, ld_sl_int, c1, ldC_some, ln_sl_int, r_lss, d6, ia_sl_int, Int.toNat_natCast, ld_int, g2, d7, d9, Cnd_true, isB_ff, r_pick, Bool.false_eq_true, if_false, Gd_true, r_gtr, d8, Cnd_false]
      exact ⟨ps.length - (i + 1), by omega, i + 1, rfl, by rw [hts, e]; rfl, by omega, by omega, by omega, hlow, x2, x12⟩
    · have d9 : decide (ps[i] < 0) = false := by simpa using h8
      have e : partsI ps[i] = ps[i] := by unfold partsI; rw [if_neg h8]
      simp (disch := omega) only [Stp, fa_lightermanref06_C_Part, Nat.zero_add, ref06_May_p3, r_add, w_i64, ref06_May_p2, stepR_value, ld_sl_int, c1, ldC_some, ln_sl_int, r_lss, d6, ia_sl_int, Int.toNat_natCast, ld_int, g2, d7, d9, Cnd_false, isB_ff, r_pick, Bool.false_eq_true, if_false, Gd_true, r_gtr, d8, Cnd_true]
      exact ⟨ps.length - (i + 1), by omega, i + 1, rfl, by rw [hts, e]; rfl, by omega, by omega, by omega, hlow, x2, x12⟩
  · have d6 : decide ((i : Int) < (ps.length : Int)) = false := by simp; omega
    unfold ref06_May_p9 ref06_May_p8 ref06_May_p1
    simp (disch := omega) only [Stp, fa_lightermanref06_C_Part, Nat.zero_add, fa_lightermanref06_C_Log, stepR_value, ld_int, ld_sl_int, c1, ldC_some, ln_sl_int, r_lss, d6, c0, Cnd_false]
    refine (power_c l (by omega) _).mono ?_
    rintro r w3 ⟨rfl, rfl⟩
    rw [List.take_of_length_le (by omega)] at hlo ⊢
    simp (disch := omega) only [r_eql, stepR_value]
    refine ⟨?_, x2⟩
    rw [hyes]
    congr 1
    rw [Bool.eq_iff_iff, fits_iff, beq_iff_eq]
    exact ⟨fun h => ⟨hlo, h⟩, fun h => h.2⟩

/-- what a check tells -/
def chkE (log : Int) (ps : List Int) (most : Int) : Int := if mayB log ps = false then 1 else if most < log then 12 else 0

theorem check_c {log most : Int} {sv : Value} {ps : List Int} {w : World} (hs : Sl w sv (ps.map (Value.int .i64))) (hl : ps.length ≤ 9223372036854775807) :
    Does pg F_normal_Check #[.agg #[.int .i64 log, sv], .int .i64 most] w (fun r w' => r = .int .i64 (chkE log ps most) ∧ Ext w w' nob) := by
  refine normal_Check_does ?_
  unfold normal_Check normal_Check_p1
  refine stp_box fun w1 o1 x1 s1 => ?_
  have hs := hs.ext x1 (inB_nob _)
  rw [show sLoad 24 = sLoad 24 from rfl]
  have l1 := lda_normal_Counts o1 (off := 0) (by simp [Value.cells])
  simp only [Value.cells, List.drop_zero, List.take_succ_cons, List.take_zero] at l1
  simp (disch := omega) only [Stp, l1, fa_normal_Counts_Log, stepR_value, ld_int]
  refine (may_c hs hl).mono ?_
  rintro r w2 ⟨rfl, x2⟩
  have o2 := o1.ext x2 (fun h => h)
  have c0 := o2.cell (off := 0)
  simp only [Value.cells, List.getElem?_cons_zero] at c0
  unfold chkE
  cases hm : mayB log ps with
  | false =>
    simp (disch := omega) only [r_not, Bool.not_false, if_true, true_and, stepR_value, Cnd_true]
    exact x1.seq x2
  | true =>
    by_cases h : most < log
    · have d : decide (most < log) = true := by simpa using h
      simp (disch := omega) only [r_not, Bool.not_true, stepR_value, c0, ldC_some, r_gtr, d, Cnd_true, Cnd_false]
      exact ⟨by simp [h], x1.seq x2⟩
    · have d : decide (most < log) = false := by simpa using h
      simp (disch := omega) only [r_not, Bool.not_true, stepR_value, c0, ldC_some, r_gtr, d, Cnd_false]
      exact ⟨by simp [h], x1.seq x2⟩

theorem refCheck_c {log most : Int} {sv : Value} {ps : List Int} {w : World} (hs : Sl w sv (ps.map (Value.int .i64))) (hl : ps.length ≤ 9223372036854775807) :
    Does pg F_ref06_Check #[.agg #[.int .i64 log, sv], .int .i64 most] w (fun r w' => r = .int .i64 (chkE log ps most) ∧ Ext w w' nob) := by
  refine ref06_Check_does ?_
  unfold ref06_Check ref06_Check_p1
  refine stp_box fun w1 o1 x1 s1 => ?_
  have hs := hs.ext x1 (inB_nob _)
  have l1 := lda_lightermanref06_C o1 (off := 0) (by simp [Value.cells])
  simp only [Value.cells, List.drop_zero, List.take_succ_cons, List.take_zero] at l1
  simp (disch := omega) only [Stp, l1, fa_lightermanref06_C_Log, stepR_value, ld_int]
  refine (refMay_c hs hl).mono ?_
  rintro r w2 ⟨rfl, x2⟩
  have o2 := o1.ext x2 (fun h => h)
  have c0 := o2.cell (off := 0)
  simp only [Value.cells, List.getElem?_cons_zero] at c0
  unfold chkE
  cases hm : mayB log ps with
  | false =>
    simp (disch := omega) only [r_not, Bool.not_false, if_true, true_and, stepR_value, Cnd_true]
    exact x1.seq x2
  | true =>
    by_cases h : most < log
    · have d : decide (most < log) = true := by simpa using h
      simp (disch := omega) only [r_not, Bool.not_true, stepR_value, c0, ldC_some, r_gtr, d, Cnd_true, Cnd_false]
      exact ⟨by simp [h], x1.seq x2⟩
    · have d : decide (most < log) = false := by simpa using h
      simp (disch := omega) only [r_not, Bool.not_true, stepR_value, c0, ldC_some, r_gtr, d, Cnd_false]
      exact ⟨by simp [h], x1.seq x2⟩
end Go.Proofs.Ytcbkdccobhkbpaa
/- Contracts: how many bits a number has; symbols laid over states. -/
namespace Go.Proofs.Ytcbkdccobhkbpaa
open Go Go.En Go.Pu
set_option maxRecDepth 4000
set_option linter.unusedSimpArgs false
set_option linter.unusedVariables false

def len8 : ByteArray := ⟨#[0, 1, 2, 2, 3, 3, 3, 3, 4, 4, 4, 4, 4, 4, 4, 4, 5, 5, 5, 5, 5, 5, 5, 5, 5, 5, 5, 5, 5, 5, 5, 5, 6, 6, 6, 6, 6, 6, 6, 6, 6, 6, 6, 6, 6, 6, 6, 6, 6, 6, 6, 6, 6, 6, 6, 6, 6, 6, 6, 6, 6, 6, 6, 6, 7, 7, 7, 7, 7, 7, 7, 7, 7, 7, 7, 7, 7, 7, 7, 7, 7, 7, 7, 7, 7, 7, 7, 7, 7, 7, 7, 7, 7, 7, 7, 7, 7, 7, 7, 7, 7, 7, 7, 7, 7, 7, 7, 7, 7, 7, 7, 7, 7, 7, 7, 7, 7, 7, 7, 7, 7, 7, 7, 7, 7, 7, 7, 7, 8, 8, 8, 8, 8, 8, 8, 8, 8, 8, 8, 8, 8, 8, 8, 8, 8, 8, 8, 8, 8, 8, 8, 8, 8, 8, 8, 8, 8, 8, 8, 8, 8, 8, 8, 8, 8, 8, 8, 8, 8, 8, 8, 8, 8, 8, 8, 8, 8, 8, 8, 8, 8, 8, 8, 8, 8, 8, 8, 8, 8, 8, 8, 8, 8, 8, 8, 8, 8, 8, 8, 8, 8, 8, 8, 8, 8, 8, 8, 8, 8, 8, 8, 8, 8, 8, 8, 8, 8, 8, 8, 8, 8, 8, 8, 8, 8, 8, 8, 8, 8, 8, 8, 8, 8, 8, 8, 8, 8, 8, 8, 8, 8, 8, 8, 8, 8, 8, 8, 8, 8, 8, 8, 8, 8, 8, 8, 8]⟩
theorem len8_size : len8.size = 256 := by decide
set_option maxRecDepth 100000 in
theorem len8_get (x : Nat) (h : x < 256) : (len8[x]'(by rw [len8_size]; exact h)).toNat = bl x := by
  have : ∀ k : Fin 256, (len8.data[k.val]!).toNat = bl k.val := by decide +kernel
  have h2 := this ⟨x, h⟩
  simp only at h2
  rw [← h2]
  have hs : x < len8.data.size := by have := len8_size; exact (show len8.data.size = 256 from this) ▸ h
  rw [getElem!_pos len8.data x hs]
  rfl

theorem bl_shift {x j : Nat} (h : 2 ^ j ≤ x) : bl x = bl (x / 2 ^ j) + j := by
  have hp := Nat.two_pow_pos j
  have h0 : x / 2 ^ j ≠ 0 := by
    have := Nat.div_pos h hp
    omega
  have a := bl_le h0
  have b := bl_lt (x / 2 ^ j)
  have c := bl_pos h0
  obtain ⟨m, hm⟩ : ∃ m, bl (x / 2 ^ j) = m + 1 := ⟨bl (x / 2 ^ j) - 1, by omega⟩
  rw [hm, Nat.add_sub_cancel] at a
  rw [hm] at b ⊢
  have h1 : 2 ^ (m + j) ≤ x := by
    rw [Nat.pow_add]
    exact Nat.le_trans (Nat.mul_le_mul_right _ a) (Nat.div_mul_le_self _ _)
  have h2 : x < 2 ^ (m + j + 1) := by
    rw [show m + j + 1 = (m + 1) + j from by omega, Nat.pow_add]
    exact (Nat.div_lt_iff_lt_mul hp).1 b
  rw [bl_eq h1 h2]; omega

/-- the last step of a number's length -/
theorem len_last {x n : Nat} (hx : x < 256) (hn : n ≤ 1000) (R : Value → World → Prop) (w : World) (h : R (.int .i64 ((n + bl x : Nat) : Int)) w) :
    math_bits_Len64_p1 R (.int .u64 x) (.int .i64 n) w := by
  have hg := len8_get x hx
  have hs := len8_size
  have hb : bl x ≤ 8 := bl_le_of (n := 8) (by omega)
  unfold math_bits_Len64_p1
  change Stp pg _ w fun t21 w => Stp pg (sIdx 9 (.string len8) t21) w _
  simp (disch := omega) only [Stp, cv_uint64_uint8, w_u8, stepR_value, ix_string, Int.toNat_natCast, hg, cv_uint8_int, w_i64, r_add]
  rw [Int.natCast_add] at h
  exact h

theorem fdiv_nat (a b : Nat) : ((a : Int)).fdiv (b : Int) = ((a / b : Nat) : Int) := by rw [Int.fdiv_eq_ediv_of_nonneg _ (by omega)]; rfl
theorem shr_u64 (x j : Nat) (hj : j ≤ 64) : ((x : Int)).fdiv (2 ^ (min (j : Nat) IntKind.u64.bits)) = ((x / 2 ^ j : Nat) : Int) := by
  have e : min j IntKind.u64.bits = j := by simp only [IntKind.bits]; omega
  rw [e, ← fdiv_nat]; simp

theorem len64_c (x : Nat) (hx : x < 18446744073709551616) (w : World) : Does pg F_math_bits_Len64 #[.int .u64 x] w (fun r w' => r = .int .i64 (bl x : Nat) ∧ w' = w) := by
  refine math_bits_Len64_does ?_
  unfold math_bits_Len64 math_bits_Len64_p7 math_bits_Len64_p6
  have step8 : ∀ (y n : Nat), y < 65536 → n ≤ 64 → n + bl y = bl x → math_bits_Len64_p3 (fun r w' => r = .int .i64 (bl x : Nat) ∧ w' = w) (.int .u64 y) (.int .i64 n) w := by
    intro y n hy hn e
    unfold math_bits_Len64_p3 math_bits_Len64_p2
    by_cases h : 256 ≤ y
    · have d : decide ((256 : Int) ≤ (y : Int)) = true := by simp; omega
      have sh := shr_u64 y 8 (by omega)
      have hq : y / 2 ^ 8 < 256 := by omega
      have := bl_shift (x := y) (j := 8) (by omega)
      have e2 : (n : Int) + 8 = ((n + 8 : Nat) : Int) := by omega
      simp (disch := omega) only [Stp, r_geq, d, r_shr, r_add, e2, w_i64, stepR_value, Cnd_true]
      rw [show (8 : Int).toNat = 8 from rfl, sh]
      exact len_last hq (by omega) _ _ ⟨by rw [← e, this]; congr 2; omega, rfl⟩
    · have d : decide ((256 : Int) ≤ (y : Int)) = false := by simp; omega
      simp (disch := omega) only [Stp, r_geq, d, r_shr, r_add, w_i64, stepR_value, Cnd_false]
      exact len_last (by omega) (by omega) _ _ ⟨by rw [e], rfl⟩
  have step16 : ∀ (y n : Nat), y < 4294967296 → n ≤ 32 → n + bl y = bl x → math_bits_Len64_p5 (fun r w' => r = .int .i64 (bl x : Nat) ∧ w' = w) (.int .u64 y) (.int .i64 n) w := by
    intro y n hy hn e
    unfold math_bits_Len64_p5 math_bits_Len64_p4
    by_cases h : 65536 ≤ y
    · have d : decide ((65536 : Int) ≤ (y : Int)) = true := by simp; omega
      have sh := shr_u64 y 16 (by omega)
      have hq : y / 2 ^ 16 < 65536 := by omega
      have := bl_shift (x := y) (j := 16) (by omega)
      have e2 : (n : Int) + 16 = ((n + 16 : Nat) : Int) := by omega
      simp (disch := omega) only [Stp, r_geq, d, r_shr, r_add, e2, w_i64, stepR_value, Cnd_true]
      rw [show (16 : Int).toNat = 16 from rfl, sh]
      exact step8 _ _ hq (by omega) (by rw [← e, this]; omega)
    · have d : decide ((65536 : Int) ≤ (y : Int)) = false := by simp; omega
      simp (disch := omega) only [Stp, r_geq, d, r_shr, r_add, w_i64, stepR_value, Cnd_false]
      exact step8 _ _ (by omega) (by omega) e
  by_cases h : 4294967296 ≤ x
  · have d : decide ((4294967296 : Int) ≤ (x : Int)) = true := by simp; omega
    have sh := shr_u64 x 32 (by omega)
    have hq : x / 2 ^ 32 < 4294967296 := by omega
    have := bl_shift (x := x) (j := 32) (by omega)
    simp (disch := omega) only [Stp, r_geq, d, r_shr, stepR_value, Cnd_true]
    rw [show (32 : Int).toNat = 32 from rfl, sh]
    exact step16 _ 32 hq (by omega) (by rw [this]; omega)
  · have d : decide ((4294967296 : Int) ≤ (x : Int)) = false := by simp; omega
    simp (disch := omega) only [Stp, r_geq, d, r_shr, stepR_value, Cnd_false]
    exact step16 _ 0 (by omega) (by omega) (by omega)

theorem len_c (x : Nat) (hx : x < 18446744073709551616) (w : World) : Does pg F_math_bits_Len #[.int .u64 x] w (fun r w' => r = .int .i64 (bl x : Nat) ∧ w' = w) := by
  refine math_bits_Len_does ?_
  simp (disch := omega) only [math_bits_Len, math_bits_Len_p1, Stp, cv_uint_uint32, stepR_value, Cnd_false]
  exact len64_c x hx w
end Go.Proofs.Ytcbkdccobhkbpaa
/- Contract: the program lays symbols over states. -/
namespace Go.Proofs.Ytcbkdccobhkbpaa
open Go Go.En Go.Pu
set_option maxRecDepth 4000
set_option linter.unusedSimpArgs false
set_option linter.unusedVariables false

def m3 (L : List Int) : List T3 := L.map fun x => (x, 0, 0)
theorem m3_set (L : List Int) (i : Nat) (h : i < L.length) (x : Int) : (m3 L).set i (x, ((m3 L)[i]'(by simpa [m3] using h)).2) = m3 (L.set i x) := by
  unfold m3; rw [List.map_set]; simp
theorem m3_store {k : IntKind} {L : List Int} {i : Nat} (h : i < L.length) (x : Int) : (fe k (m3 L)).set (i * 3) (.int k x) = fe k (m3 (L.set i x)) := by
  rw [(fe_set k (m3 L) i (by simpa [m3] using h) x).1, m3_set L i h x]

theorem place_cons (n high s : Nat) (r : List Nat) (a : Nat) (arr : List Int) : place n high (s :: r) a arr = place n high r (seek n high n (adv n a)) (arr.set a s) := rfl

theorem reps_drop {ps : List Int} {i : Nat} (h : i < ps.length) : reps (ps.drop i) i = List.replicate ps[i].toNat i ++ reps (ps.drop (i + 1)) (i + 1) := by
  rw [List.drop_eq_getElem_cons h, reps]

/-- the walk to the next place below high -/
theorem seek_c {w0 w : World} {N high j : Nat} (hN : 0 < N) (hN2 : N ≤ 32768) (hh : 0 < high) (hhN : high ≤ N) (hx : Ext w0 w nob)
    {ov sv a b c d e : Value} {k : Value → Value → Value → Value → Value → Value → Value → Value → Value → Value → World → Prop}
    (hk : ∃ j', seek N high N (adv N (pos N j)) = pos N j' ∧ k (.int .i64 N) ov (.int .i64 high) (.int .i64 (pos N j' : Nat)) sv a b c d e w) :
    fse_spread_p5 k (.int .i64 N) ov (.int .i64 high) (.int .i64 (pos N j : Nat)) sv a b c d e w := by
  obtain ⟨dd, h1, h2, h3⟩ := seek_spec hN hh (j + 1)
  obtain ⟨j', hj', hk⟩ := hk
  rw [adv_pos, h3] at hj'
  rw [← hj'] at hk
  unfold fse_spread_p5
  refine LoopD.rule (fun m t w' => ∃ q : Nat, m = dd - q ∧ t = .int .i64 (pos N (j + q) : Nat) ∧ q ≤ dd ∧ w' = w) dd ⟨0, rfl, rfl, by omega, rfl⟩ ?_
  rintro m t w' ⟨q, rfl, rfl, hq, rfl⟩
  have hp := pos_lt hN (j + q)
  have e1 : ((N : Int)).fdiv (2 ^ (min 1 IntKind.i64.bits)) = ((N / 2 : Nat) : Int) := by
    have : (2 : Int) ^ (min 1 IntKind.i64.bits) = ((2 : Nat) : Int) := by decide
    rw [this, fdiv_nat]
  have e3 : ((N : Int)).fdiv (2 ^ (min 3 IntKind.i64.bits)) = ((N / 8 : Nat) : Int) := by
    have : (2 : Int) ^ (min 3 IntKind.i64.bits) = ((8 : Nat) : Int) := by decide
    rw [this, fdiv_nat]
  have t1 : (1 : Int).toNat = 1 := rfl
  have t3 : (3 : Int).toNat = 3 := rfl
  have e4 : (((pos N (j + q) : Nat) : Int) + ((N / 2 : Nat) : Int) + ((N / 8 : Nat) : Int) + 3).tmod (N : Int) = ((pos N (j + q + 1) : Nat) : Int) := by
    rw [Int.tmod_eq_emod_of_nonneg (by omega), ← adv_pos]
    unfold adv
    simp
  unfold fse_spread_p4
  by_cases hd : q = dd
  · subst hd
    have d1 : decide (((pos N (j + q + 1) : Nat) : Int) < (high : Int)) = true := by
      simp only [decide_eq_true_eq]
      rw [show j + 1 + q = j + q + 1 from by omega] at h2
      omega
    simp (disch := omega) only [Stp, r_shr, t1, e1, t3, e3, stepR_value, r_add, w_i64, r_rem, e4, r_lss, d1, and_true, Cnd_true]
    rw [show j + 1 + q = j + q + 1 from by omega] at hk
    exact hk
  · have d1 : decide (((pos N (j + q + 1) : Nat) : Int) < (high : Int)) = false := by
      have := h1 q (by omega)
      rw [show j + 1 + q = j + q + 1 from by omega] at this
      simp only [decide_eq_false_iff_not]
      omega
    simp (disch := omega) only [Stp, r_shr, t1, e1, t3, e3, stepR_value, r_add, w_i64, r_rem, e4, r_lss, d1, and_true, Cnd_false]
    exact ⟨dd - (q + 1), by omega, q + 1, rfl, rfl, by omega⟩

theorem spread_c {log : Nat} {sv : Value} {ps : List Int} {w : World} (hm : May log ps) (hs : Sl w sv (ps.map (Value.int .i64))) :
    Does pg F_fse_spread #[.agg #[.int .i64 log, sv]] w (fun r w' => ∃ b, r = .slice (some ⟨b, 0, none⟩) (2 ^ log) (2 ^ log) ∧ w.heap.size ≤ b ∧ Own w' b (fe .u8 (m3 (spreadL 0 log ps))) ∧ Ext w w' nob) := by
  refine fse_spread_does ?_
  have h5 := hm.log5
  have h15 := hm.log15
  have hlen := hm.len256
  obtain ⟨arr0, ht, hal, hsum, hfin⟩ := spread_spec hm 0
  rw [hfin]
  have hN1 : 2 ^ 5 ≤ 2 ^ log := Nat.pow_le_pow_right (by omega) h5
  have hN2 : 2 ^ log ≤ 2 ^ 15 := Nat.pow_le_pow_right (by omega) h15
  have hsh : IntKind.i64.wrap (1 * 2 ^ (min log IntKind.i64.bits)) = ((2 ^ log : Nat) : Int) := by
    have : ∀ k : Fin 16, IntKind.i64.wrap (1 * 2 ^ (min k.val IntKind.i64.bits)) = ((2 ^ k.val : Nat) : Int) := by decide
    exact this ⟨log, by omega⟩
  clear hfin
  generalize hN : 2 ^ log = N at *
  generalize hhigh : (reps ps 0).length = high at *
  unfold fse_spread fse_spread_p40 fse_spread_p39
  refine stp_box fun w1 o1 x1 s1 => ?_
  have hs1 := hs.ext x1 (inB_nob _)
  have c0 := o1.cell (off := 0)
  have c1 := o1.cell (off := 1)
  simp only [Value.cells, List.getElem?_cons_zero, List.getElem?_cons_succ] at c0 c1
  obtain ⟨a, c, rfl, hc⟩ := hs.lenI
  simp (disch := omega) only [Stp, fa_normal_Counts_Log, stepR_value, ld_int, c0, ldC_some, r_shl, Int.toNat_natCast, hsh]
  refine mkn_sl_fse_Entry (by omega) (by omega) fun w2 o2 x2 s2 => ?_
  rw [Int.toNat_natCast, fe_reps] at o2
  rw [Int.toNat_natCast]
  have o2 : Own w2 w1.heap.size (fe .u8 (m3 (List.replicate N 0))) := by unfold m3; rw [List.map_replicate]; exact o2
  have x02 : Ext w w2 nob := x1.seq x2
  have ob2 := o1.ext x2 (fun h => h)
  have c1 := ob2.cell (off := 1)
  simp only [Value.cells, List.getElem?_cons_zero, List.getElem?_cons_succ] at c1
  unfold fse_spread_p38 fse_spread_p37 fse_spread_p36 fse_spread_p35 fse_spread_p34
  simp (disch := omega) only [Stp, fa_normal_Counts_Part, Nat.zero_add, stepR_value, ld_sl_int, c1, ldC_some, ln_sl_int]
  have hw1 : w.heap.size ≤ w1.heap.size := x1.size
  refine LoopD.rule (fun m t w' => ∃ (i hg : Nat) (arr : List Int), m = ps.length - i ∧ t = (.int .i64 hg, .int .i64 i) ∧ i ≤ ps.length ∧ (negs (ps.drop i) i).length ≤ hg ∧ hg ≤ N ∧ arr.length = N ∧ tops (ps.drop i) i hg arr = (high, arr0) ∧ Own w' w1.heap.size (fe .u8 (m3 arr)) ∧ Ext w w' nob ∧ Own w' w.heap.size (Value.cells (.agg #[.int .i64 log, .slice a ps.length c])).toList) ps.length
    ⟨0, N, _, rfl, rfl, by omega, by rw [List.drop_zero]; omega, by omega, by simp, by rw [List.drop_zero]; exact ht, o2, x02, ob2⟩ ?_
  rintro m t w3 ⟨i, hg, arr, rfl, rfl, hi, hng, hgN, harr, htop, o3, x3, ob3⟩
  by_cases hlt : i < ps.length
  · have d1 : decide ((i : Int) < (ps.length : Int)) = true := by simp; omega
    obtain ⟨b', off', c', e, _, hcell⟩ := (hs.ext x3 (inB_nob _)).openI (by omega)
    cases e
    have g1 := hcell i hlt
    have hd : ps.drop i = ps[i] :: ps.drop (i + 1) := List.drop_eq_getElem_cons hlt
    rw [hd, negs] at hng
    rw [hd, tops] at htop
    unfold fse_spread_p33 fse_spread_p32 fse_spread_p31
    by_cases hp : ps[i] = -1
    · have d2 : (ps[i] == -1) = true := by simpa using hp
      rw [if_pos hp] at hng htop
      simp only [List.length_cons] at hng
      have e1 : (hg : Int) - 1 = ((hg - 1 : Nat) : Int) := by omega
      simp (disch := omega) only [Stp, r_lss, d1, ia_sl_int, Int.toNat_natCast, r_sub, e1, w_i64, cv_int_uint8, w_u8, r_add, stepR_value, ia_sl_fse_Entry, Nat.zero_add, fa_fse_Entry_Symbol, ld_int, g1, ldC_some, r_eql, d2, Cnd_true]
      refine st_uint8 o3 rfl (by rw [fe_length]; simp [m3]; omega) fun w4 o4 x4 s4 => ?_
      rw [m3_store (by omega)] at o4
      exact ⟨ps.length - (i + 1), by omega, i + 1, hg - 1, _, rfl, rfl, by omega, by omega, by omega, by simp [harr], htop, o4, x3.new x4 hw1, ob3.ext x4 (by omega)⟩
    · have d2 : (ps[i] == -1) = false := by simpa using hp
      rw [if_neg hp] at hng htop
      simp (disch := omega) only [Stp, r_lss, d1, ia_sl_int, Int.toNat_natCast, r_sub, w_i64, cv_int_uint8, w_u8, r_add, stepR_value, ld_int, g1, ldC_some, r_eql, d2, Cnd_false, Cnd_true]
      exact ⟨ps.length - (i + 1), by omega, i + 1, hg, arr, rfl, rfl, by omega, by omega, by omega, harr, htop, o3, x3, ob3⟩
  · have d1 : decide ((i : Int) < (ps.length : Int)) = false := by simp; omega
    rw [List.drop_of_length_le (by omega), tops] at htop
    obtain ⟨rfl, rfl⟩ : hg = high ∧ arr = arr0 := by simpa using htop
    have c1 := ob3.cell (off := 1)
    simp only [Value.cells, List.getElem?_cons_zero, List.getElem?_cons_succ] at c1
    unfold fse_spread_p33 fse_spread_p32 fse_spread_p30 fse_spread_p29 fse_spread_p28 fse_spread_p27 fse_spread_p26 fse_spread_p25 fse_spread_p24
    simp (disch := omega) only [Stp, r_lss, d1, r_sub, w_i64, cv_int_uint8, stepR_value, fa_normal_Counts_Part, Nat.zero_add, ld_sl_int, c1, ldC_some, ln_sl_int, Cnd_false]
    clear d1 hlt hi hng htop
    have hbig : Own w3 w1.heap.size (fe .u8 (m3 arr)) := o3
    refine LoopD.rule (fun m t w' => ∃ (s j : Nat) (ar : List Int), m = ps.length - s ∧ t = (.int .i64 (pos N j : Nat), .int .i64 s) ∧ s ≤ ps.length ∧ ar.length = N ∧ place N hg (reps (ps.drop s) s) (pos N j) ar = place N hg (reps ps 0) 0 arr ∧ (reps (ps.drop s) s).length ≤ hg ∧ Own w' w1.heap.size (fe .u8 (m3 ar)) ∧ Ext w w' nob) ps.length
      ⟨0, 0, arr, rfl, by rw [pos_zero]; rfl, by omega, harr, by rw [pos_zero, List.drop_zero], by rw [List.drop_zero, hhigh]; exact Nat.le_refl _, o3, x3⟩ ?_
    rintro m t w4 ⟨s, j, ar, rfl, rfl, hs4, har, hpl, hrl, o4, x4⟩
    by_cases hlt : s < ps.length
    · have d1 : decide ((s : Int) < (ps.length : Int)) = true := by simp; omega
      obtain ⟨b', off', c', e, _, hcell⟩ := (hs.ext x4 (inB_nob _)).openI (by omega)
      cases e
      have g1 := hcell s hlt
      obtain ⟨q, hq⟩ : ∃ q, q = ps[s].toNat := ⟨_, rfl⟩
      have emax : (if (0 : Int) > ps[s] then (0 : Int) else ps[s]) = (q : Int) := by rw [hq]; split <;> omega
      rw [reps_drop hlt, ← hq] at hpl hrl
      have hqN : q ≤ N := by simp at hrl; omega
      unfold fse_spread_p23 fse_spread_p22 fse_spread_p21 fse_spread_p20 fse_spread_p19 fse_spread_p18 fse_spread_p17 fse_spread_p16 fse_spread_p15
      simp (disch := omega) only [Stp, r_lss, d1, ia_sl_int, Int.toNat_natCast, stepR_value, ld_int, g1, ldC_some, r_max, emax, Cnd_true]
      unfold fse_spread_p14 fse_spread_p13
      refine LoopD.rule (fun m t w' => ∃ (k j : Nat) (ar : List Int), m = q - k ∧ t = (.int .i64 (pos N j : Nat), .int .i64 k) ∧ k ≤ q ∧ ar.length = N ∧ place N hg (List.replicate (q - k) s ++ reps (ps.drop (s + 1)) (s + 1)) (pos N j) ar = place N hg (reps ps 0) 0 arr ∧ Own w' w1.heap.size (fe .u8 (m3 ar)) ∧ Ext w w' nob) q
        ⟨0, j, ar, rfl, rfl, by omega, har, hpl, o4, x4⟩ ?_
      rintro m t w5 ⟨k, j5, ar5, rfl, rfl, hk, har5, hpl5, o5, x5⟩
      by_cases hkq : k < q
      · have d2 : decide ((k : Int) < (q : Int)) = true := by simp; omega
        have hp := pos_lt (n := N) (by omega) j5
        have hhg : 0 < hg := by simp at hrl; omega
        unfold fse_spread_p12 fse_spread_p11 fse_spread_p10 fse_spread_p9 fse_spread_p8 fse_spread_p7
        simp (disch := omega) only [Stp, r_lss, d2, cv_int_uint8, w_u8, ia_sl_fse_Entry, Int.toNat_natCast, Nat.zero_add, stepR_value, fa_fse_Entry_Symbol, Cnd_true]
        refine st_uint8 o5 rfl (by rw [fe_length]; simp [m3]; omega) fun w6 o6 x6 s6 => ?_
        rw [m3_store (by omega)] at o6
        unfold fse_spread_p6
        rw [show q - k = (q - (k + 1)) + 1 from by omega, List.replicate_succ, List.cons_append, place_cons] at hpl5
        obtain ⟨d, _, hd2, hd3⟩ := seek_spec (n := N) (high := hg) (by omega) hhg (j5 + 1)
        have hsk : seek N hg N (adv N (pos N j5)) = pos N (j5 + 1 + d) := by rw [adv_pos]; exact hd3
        refine seek_c (w0 := w) (by omega) hN2 hhg hgN (x5.new x6 hw1) ⟨j5 + 1 + d, hsk, ?_⟩
        rw [hsk] at hpl5
        unfold fse_spread_p3
        simp (disch := omega) only [Stp, r_add, w_i64, stepR_value]
        exact ⟨q - (k + 1), by omega, k + 1, j5 + 1 + d, _, rfl, rfl, by omega, by simp [har5], hpl5, o6, x5.new x6 hw1⟩
      · have d2 : decide ((k : Int) < (q : Int)) = false := by simp; omega
        rw [show q - k = 0 from by omega, List.replicate_zero, List.nil_append] at hpl5
        unfold fse_spread_p12 fse_spread_p11 fse_spread_p2
        simp (disch := omega) only [Stp, r_lss, d2, r_add, w_i64, stepR_value, Cnd_false]
        exact ⟨ps.length - (s + 1), by omega, s + 1, j5, ar5, rfl, rfl, by omega, har5, hpl5, by simp at hrl; omega, o5, x5⟩
    · have d1 : decide ((s : Int) < (ps.length : Int)) = false := by simp; omega
      rw [List.drop_of_length_le (by omega), reps, place] at hpl
      unfold fse_spread_p23 fse_spread_p22 fse_spread_p1
      simp (disch := omega) only [Stp, r_lss, d1, stepR_value, Cnd_false]
      exact ⟨_, rfl, hw1, by rw [← hpl]; exact o4, x4⟩
end Go.Proofs.Ytcbkdccobhkbpaa
/- Contract: the program's table. -/
namespace Go.Proofs.Ytcbkdccobhkbpaa
open Go Go.En Go.Pu
set_option maxRecDepth 4000
set_option linter.unusedSimpArgs false
set_option linter.unusedVariables false

/-- entries, the first i of them filled in -/
def Es (log : Nat) (ps S : List Int) (i : Nat) : List T3 := (List.range (2 ^ log)).map fun j => if j < i then entAt log ps S j else (S.getD j 0, 0, 0)
/-- how far each symbol is, behind i states -/
def nxt (ps S : List Int) (i : Nat) : List Int := (List.range ps.length).map fun s => partsI (ps.getD s 0) + ((S.take i).count (s : Int) : Nat)

theorem Es_zero {log : Nat} {ps S : List Int} (h : S.length = 2 ^ log) : Es log ps S 0 = m3 S := by
  unfold Es m3
  apply List.ext_getElem
  · simp [h]
  · intro i h1 h2
    simp only [List.length_map, List.length_range] at h1
    simp only [List.getElem_map, List.getElem_range, Nat.not_lt_zero, if_false, List.getD_eq_getElem?_getD]
    rw [List.getElem?_eq_getElem (by omega)]; rfl
theorem Es_all (log : Nat) (ps : List Int) : Es log ps (spreadL 0 log ps) (2 ^ log) = buildL log ps := by
  unfold Es buildL
  refine List.map_congr_left fun j hj => ?_
  rw [if_pos (List.mem_range.1 hj)]
theorem Es_length (log : Nat) (ps S : List Int) (i : Nat) : (Es log ps S i).length = 2 ^ log := by simp [Es]
theorem Es_at {log : Nat} {ps S : List Int} {i : Nat} (h : i < 2 ^ log) : (Es log ps S i)[i]'(by rw [Es_length]; exact h) = (S.getD i 0, 0, 0) := by
  unfold Es; simp
theorem Es_set {log : Nat} {ps S : List Int} {i : Nat} (_ : i < 2 ^ log) : (Es log ps S i).set i (entAt log ps S i) = Es log ps S (i + 1) := by
  unfold Es
  apply List.ext_getElem
  · simp
  · intro j h1 h2
    rw [List.getElem_set]
    simp only [List.getElem_map, List.getElem_range]
    by_cases hij : i = j
    · subst hij; simp
    · rw [if_neg hij]
      by_cases hj : j < i
      · rw [if_pos hj, if_pos (by omega)]
      · rw [if_neg hj, if_neg (by omega)]
theorem nxt_length (ps S : List Int) (i : Nat) : (nxt ps S i).length = ps.length := by simp [nxt]
theorem nxt_zero (ps S : List Int) : nxt ps S 0 = ps.map partsI := by
  unfold nxt
  apply List.ext_getElem
  · simp
  · intro i h1 h2
    simp only [List.length_map, List.length_range] at h1
    simp only [List.getElem_map, List.getElem_range, List.take_zero, List.count_nil, List.getD_eq_getElem?_getD]
    rw [List.getElem?_eq_getElem h1]; simp
theorem nxt_get {ps S : List Int} {i s : Nat} (h : s < ps.length) : (nxt ps S i)[s]'(by rw [nxt_length]; exact h) = partsI ps[s] + ((S.take i).count (s : Int) : Nat) := by
  unfold nxt
  simp only [List.getElem_map, List.getElem_range, List.getD_eq_getElem?_getD]
  rw [List.getElem?_eq_getElem h]; rfl
theorem nxt_set {ps S : List Int} {i s : Nat} (h : i < S.length) (hs : s < ps.length) (e : S[i] = (s : Int)) : (nxt ps S i).set s (partsI ps[s] + ((S.take i).count (s : Int) : Nat) + 1) = nxt ps S (i + 1) := by
  apply List.ext_getElem
  · simp [nxt]
  · intro j h1 h2
    have hj : j < ps.length := by simpa [nxt] using h2
    rw [List.getElem_set, nxt_get hj, nxt_get hj, List.take_add_one, List.getElem?_eq_getElem h, List.count_append]
    simp only [Option.toList, e, List.count_singleton]
    by_cases hij : s = j
    · subst hij; simp; omega
    · have : ((s : Int) == (j : Int)) = false := by simp; omega
      rw [if_neg hij, this]; simp

theorem shl_i64 {k b : Nat} (hb : b ≤ 64) (h : k * 2 ^ b ≤ 9223372036854775807) : IntKind.i64.wrap ((k : Int) * 2 ^ (min b IntKind.i64.bits)) = ((k * 2 ^ b : Nat) : Int) := by
  have e : min b IntKind.i64.bits = b := by simp only [IntKind.bits]; omega
  rw [e]
  have : (k : Int) * 2 ^ b = ((k * 2 ^ b : Nat) : Int) := by simp
  rw [this]
  exact w_i64 (by omega) (by omega)

section
variable {log : Nat} {ps S : List Int} {w0 w1 : World} {p1 p2 p4 b nb N : Nat} {sv : Value}

/-- one entry is filled in -/
theorem build_step (hm : May log ps) (L : Lay log ps S) (hN : 2 ^ log = N) {i : Nat} (hlt : i < N) {w3 : World}
    (on3 : Own w3 nb ((nxt ps S i).map (Value.int .i64))) (ob3 : Own w3 b (fe .u8 (Es log ps S i)))
    (o13 : Own w3 p1 [.int .i64 log, sv]) (o43 : Own w3 p4 [.int .i64 log, .slice (some ⟨b, 0, none⟩) N N])
    (hne : p1 ≠ b ∧ p4 ≠ b ∧ nb ≠ b ∧ p1 ≠ nb ∧ p4 ≠ nb) {t2 : Value} {kn : Value → Value → Value → Value → Value → Value → World → Prop}
    (hk : ∀ w', Own w' nb ((nxt ps S (i + 1)).map (Value.int .i64)) → Own w' b (fe .u8 (Es log ps S (i + 1))) → Ext w3 w' (fun y => y = nb ∨ y = b) →
      kn (.pointer (some ⟨p1, 0, none⟩)) t2 (.pointer (some ⟨p4, 0, none⟩)) (.slice (some ⟨nb, 0, none⟩) ps.length ps.length) (.int .i64 N) (.int .i64 ((i + 1 : Nat) : Int)) w') :
    fse_Build_p9 kn (.pointer (some ⟨p1, 0, none⟩)) t2 (.pointer (some ⟨p4, 0, none⟩)) (.slice (some ⟨nb, 0, none⟩) ps.length ps.length) (.int .i64 N) (.int .i64 i) w3 := by
  have h5 := hm.log5
  have h15 := hm.log15
  have hlen := hm.len256
  have hN2 : 2 ^ log ≤ 2 ^ 15 := Nat.pow_le_pow_right (by omega) h15
  have hSl : S.length = 2 ^ log := L.len
  have c40 := o43.cell (off := 0)
  have c41 := o43.cell (off := 1)
  have c10 := o13.cell (off := 0)
  simp only [List.getElem?_cons_zero, List.getElem?_cons_succ] at c40 c41 c10
  have hltN : i < 2 ^ log := by omega
  obtain ⟨s, hsl, hsS, hp1, hp2, hk', hcnt⟩ := kAt_bd hm L hltN
  obtain ⟨k, hkk⟩ : ∃ k, k = kAt ps S i := ⟨_, rfl⟩
  rw [← hkk] at hk'
  have hk2 : k < 2 ^ (log + 1) := by rw [Nat.pow_succ]; omega
  obtain ⟨eb1, eb2, eb3, eb4⟩ := ent_bd (log := log) (k := k) (by omega) hk2
  have hel : i < (Es log ps S i).length := by rw [Es_length]; exact hltN
  obtain ⟨f0, f1, f2⟩ := fe_get .u8 (Es log ps S i) i hel
  rw [Es_at hltN] at f0
  simp only at f0
  rw [hsS] at f0
  have g0 := ob3.cell (off := i * 3)
  rw [f0] at g0
  have hnx : ((nxt ps S i).map (Value.int .i64))[s]? = some (.int .i64 k) := by
    rw [List.getElem?_map, List.getElem?_eq_getElem (by rw [nxt_length]; exact hsl), nxt_get hsl, hk']
    simp; omega
  have gn := on3.cell (off := s)
  rw [hnx] at gn
  have hkb : k < 131072 := by
    have : 2 ^ (log + 1) ≤ 2 ^ 16 := Nat.pow_le_pow_right (by omega) (by omega)
    omega
  have hpn := partsI_nonneg (hm.low _ (List.getElem_mem hsl))
  have hSi : S[i]'(by omega) = (s : Int) := by rw [← hsS, List.getD_eq_getElem?_getD, List.getElem?_eq_getElem (by omega)]; rfl
  have hns := nxt_set (ps := ps) (S := S) (i := i) (s := s) (by omega) hsl hSi
  have hkv : partsI ps[s] + ((S.take i).count (s : Int) : Nat) + 1 = (k : Int) + 1 := by rw [hk']; omega
  rw [hkv] at hns
  have hent : entAt log ps S i = entOf log (s : Int) k := by unfold entAt; rw [hsS, ← hkk]
  have hes := Es_set (log := log) (ps := ps) (S := S) (i := i) hltN
  rw [hent] at hes
  have hE0 : (Es log ps S i)[i]'hel = ((s : Int), 0, 0) := by rw [Es_at hltN, hsS]
  clear hkk hcnt
  unfold fse_Build_p9 fse_Build_p8 fse_Build_p7 fse_Build_p6
  simp (disch := omega) only [Stp, fa_fse_Table_Entries, Nat.zero_add, stepR_value, ld_sl_fse_Entry, c41, ldC_some, ia_sl_fse_Entry, Int.toNat_natCast, r_nil, fa_fse_Entry_Symbol, ld_uint8, g0, ia_sl_int, ld_int, gn, r_add, w_i64]
  refine st_int on3 rfl (by simp [nxt_length]; omega) fun w4 on4 x4 s4 => ?_
  rw [← List.map_set, hns] at on4
  unfold fse_Build_p5 fse_Build_p4
  have o14 := own_dr (o13.ext x4 (by omega))
  have o44 := o43.ext x4 (by omega)
  have ob4 := ob3.ext x4 (by omega)
  have c10 := o14.cell (off := 0)
  simp only [List.getElem?_cons_zero] at c10
  simp (disch := omega) only [Stp, fa_normal_Counts_Log, cv_int_uint, w_u64, Same, Result.ok.injEq, Next.value.injEq, and_true, r_nil, stepR_value, fa_fse_Entry_Bits, true_and, ld_int, c10, ldC_some]
  refine (len_c k (by omega) _).mono ?_
  rintro r w5 ⟨rfl, rfl⟩
  obtain ⟨nbits, hnbits⟩ : ∃ x, x = log + 1 - bl k := ⟨_, rfl⟩
  have e2 : (log : Int) - (bl k : Int) + 1 = (nbits : Int) := by omega
  have e3 : IntKind.i64.wrap ((log : Int) - (bl k : Int)) = (log : Int) - (bl k : Int) := w_i64 (by omega) (by omega)
  simp (disch := omega) only [c10, ldC_some, r_sub, e3, stepR_value, r_add, e2, w_i64, true_and]
  have ob4 := own_dr ob4
  refine st_int ob4 rfl (by rw [fe_length, Es_length]; omega) fun w5 ob5 x5 s5 => ?_
  rw [(fe_set .u8 (Es log ps S i) i hel _).2.1, hE0] at ob5
  unfold fse_Build_p3
  have o45 := own_dr ((own_dr o44).ext x5 (by omega))
  have ob5 := own_dr ob5
  have on5 := own_dr ((own_dr on4).ext x5 (by omega))
  have c41 := o45.cell (off := 1)
  simp only [List.getElem?_cons_zero, List.getElem?_cons_succ] at c41
  have hel5 : i < ((Es log ps S i).set i ((s : Int), (nbits : Int), 0)).length := by simpa using hel
  obtain ⟨-, f1, -⟩ := fe_get .u8 _ i hel5
  simp only [List.getElem_set_self] at f1
  have g1 := ob5.cell (off := i * 3 + 1)
  rw [f1] at g1
  have hnb2 : k * 2 ^ nbits ≤ 2 ^ 16 := by
    rw [hnbits]
    have : 2 ^ (log + 1) ≤ 2 ^ 16 := Nat.pow_le_pow_right (by omega) (by omega)
    have := Nat.mul_le_mul_right (2 ^ (log + 1 - bl k)) (show k ≤ k + 1 by omega)
    omega
  have e4 := shl_i64 (k := k) (b := nbits) (by omega) (by omega)
  have e5 : (((k * 2 ^ nbits : Nat) : Int) - (N : Int)) = (entOf log (s : Int) k).2.2 := by
    unfold entOf
    simp only
    rw [← hnbits, ← hN]
    simp
  have e6 : IntKind.i64.wrap (((k * 2 ^ nbits : Nat) : Int) - (N : Int)) = ((k * 2 ^ nbits : Nat) : Int) - (N : Int) := w_i64 (by omega) (by omega)
  rw [e5] at e6
  have e7 : (entOf log (s : Int) k) = ((s : Int), (nbits : Int), (entOf log (s : Int) k).2.2) := by unfold entOf; rw [hnbits]
  generalize hq : k * 2 ^ nbits = q at *
  generalize hbase : (entOf log (s : Int) k).2.2 = base at *
  simp (disch := omega) only [Stp, r_nil, fa_fse_Table_Entries, Nat.zero_add, stepR_value, fa_fse_Entry_Base, true_and, ld_sl_fse_Entry, c41, ldC_some, ln_sl_fse_Entry, fa_fse_Entry_Bits, ld_int, g1, r_shl, Int.toNat_natCast, e4, r_sub, e5, e6]
  refine st_int ob5 rfl (by rw [fe_length]; simp [Es_length]; omega) fun w6 ob6 x6 s6 => ?_
  rw [(fe_set .u8 _ i hel5 _).2.2] at ob6
  simp only [List.getElem_set_self, List.set_set] at ob6
  rw [← e7, hes] at ob6
  have xx : Ext w3 w6 (fun y => y = nb ∨ y = b) :=
    ((((x4.mono fun _ _ h => .inl h : Ext w3 w4 (fun y => y = nb ∨ y = b)).seq (Ext.dr _ _)).seq (x5.mono fun _ _ h => .inr h)).seq (Ext.dr _ _)).seq (x6.mono fun _ _ h => .inr h)
  unfold fse_Build_p2
  simp (disch := omega) only [Stp, r_add, w_i64, stepR_value]
  exact hk _ (on5.ext x6 (by omega)) ob6 xx

/-- all entries -/
theorem build_all (hm : May log ps) (L : Lay log ps S) (hN : 2 ^ log = N) {w3 : World}
    (on3 : Own w3 nb ((nxt ps S 0).map (Value.int .i64))) (ob3 : Own w3 b (fe .u8 (m3 S)))
    (o13 : Own w3 p1 [.int .i64 log, sv]) (o23 : Own w3 p2 [.int .i64 0, .slice none 0 0]) (o43 : Own w3 p4 [.int .i64 log, .slice (some ⟨b, 0, none⟩) N N])
    (hne : p1 ≠ b ∧ p4 ≠ b ∧ nb ≠ b ∧ p1 ≠ nb ∧ p4 ≠ nb ∧ p2 ≠ b ∧ p2 ≠ nb) (hlo : w0.heap.size ≤ p2 ∧ w0.heap.size ≤ b ∧ w0.heap.size ≤ nb) (hx : Ext w0 w3 nob) {R : Value → World → Prop}
    (hR : ∀ w', Own w' b (fe .u8 (Es log ps S N)) → Ext w0 w' nob → R (.tuple #[.agg #[.int .i64 log, .slice (some ⟨b, 0, none⟩) N N], .int .i64 0]) w') :
    fse_Build_p16 R (.pointer (some ⟨p1, 0, none⟩)) (.pointer (some ⟨p2, 0, none⟩)) (.pointer (some ⟨p4, 0, none⟩)) (.slice (some ⟨nb, 0, none⟩) ps.length ps.length) w3 := by
  have hN2 : 2 ^ log ≤ 2 ^ 15 := Nat.pow_le_pow_right (by omega) hm.log15
  have c41 := o43.cell (off := 1)
  simp only [List.getElem?_cons_zero, List.getElem?_cons_succ] at c41
  unfold fse_Build_p16 fse_Build_p15 fse_Build_p14 fse_Build_p13 fse_Build_p12
  simp (disch := omega) only [Stp, fa_fse_Table_Entries, Nat.zero_add, stepR_value, ld_sl_fse_Entry, c41, ldC_some, ln_sl_fse_Entry]
  have ob0 : Own w3 b (fe .u8 (Es log ps S 0)) := by rw [Es_zero L.len]; exact ob3
  refine LoopD.rule (fun m t w' => ∃ i : Nat, m = N - i ∧ t = .int .i64 i ∧ i ≤ N ∧ Own w' nb ((nxt ps S i).map (Value.int .i64)) ∧ Own w' b (fe .u8 (Es log ps S i)) ∧ Ext w3 w' (fun y => y = nb ∨ y = b)) N
    ⟨0, rfl, rfl, by omega, on3, ob0, Ext.refl _ _⟩ ?_
  rintro m t w4 ⟨i, rfl, rfl, hi, on4, ob4, x4⟩
  unfold fse_Build_p11 fse_Build_p10
  have o44 := o43.ext x4 (by omega)
  have o24 := o23.ext x4 (by omega)
  by_cases hlt : i < N
  · have d1 : decide ((i : Int) < (N : Int)) = true := by simp only [decide_eq_true_eq]; omega
    simp (disch := omega) only [Stp, r_lss, d1, stepR_value, Cnd_true]
    refine build_step hm L hN hlt on4 ob4 (o13.ext x4 (by omega)) o44 ⟨hne.1, hne.2.1, hne.2.2.1, hne.2.2.2.1, hne.2.2.2.2.1⟩ fun w5 on5 ob5 x5 => ?_
    exact ⟨N - (i + 1), by omega, i + 1, rfl, rfl, by omega, on5, ob5, x4.trans x5 (fun _ _ h => h)⟩
  · have d1 : decide ((i : Int) < (N : Int)) = false := by simp only [decide_eq_false_iff_not]; omega
    have : i = N := by omega
    subst this
    have l4 := lda_fse_Table (off := 0) o44 (by simp)
    simp only [List.drop_zero, List.take_succ_cons, List.take_zero] at l4
    simp (disch := omega) only [Stp, r_lss, d1, stepR_value, Cnd_false]
    unfold fse_Build_p1
    simp (disch := omega) only [Stp, l4, stepR_value]
    refine sta_fse_Table o24 rfl (by simp [one]) (by simp) fun w5 o25 x5 s5 => ?_
    refine ldr_fse_Table o25 (by simp [setAll]) ?_
    simp only [setAll, List.set_cons_zero, List.set_cons_succ, List.drop_zero, List.take_succ_cons, List.take_zero]
    exact hR _ (ob4.ext x5 (by omega)) ((hx.trans x4 (fun y hy hh => by omega)).new x5 hlo.1)

theorem build_next (hm : May log ps) (L : Lay log ps S) (hN : 2 ^ log = N) {w : World} (hs : Sl w0 sv (ps.map (Value.int .i64)))
    (o1 : Own w p1 [.int .i64 log, sv]) (o2 : Own w p2 [.int .i64 0, .slice none 0 0]) (o4 : Own w p4 [.int .i64 log, .slice (some ⟨b, 0, none⟩) N N]) (ob : Own w b (fe .u8 (m3 S)))
    (hlo : w0.heap.size ≤ p2 ∧ w0.heap.size ≤ b) (hne : p1 ≠ b ∧ p2 ≠ b ∧ p4 ≠ b) (hx : Ext w0 w nob) {R : Value → World → Prop}
    (hR : ∀ w', Own w' b (fe .u8 (Es log ps S N)) → Ext w0 w' nob → R (.tuple #[.agg #[.int .i64 log, .slice (some ⟨b, 0, none⟩) N N], .int .i64 0]) w') :
    fse_Build_p24 R (.pointer (some ⟨p1, 0, none⟩)) (.pointer (some ⟨p2, 0, none⟩)) (.pointer (some ⟨p4, 0, none⟩)) w := by
  have hlen := hm.len256
  have hN2 : 2 ^ log ≤ 2 ^ 15 := Nat.pow_le_pow_right (by omega) hm.log15
  obtain ⟨a, c, rfl, hc⟩ := hs.lenI
  have c1 := o1.cell (off := 1)
  simp only [List.getElem?_cons_zero, List.getElem?_cons_succ] at c1
  unfold fse_Build_p24 fse_Build_p23
  simp (disch := omega) only [Stp, fa_normal_Counts_Part, Nat.zero_add, stepR_value, ld_sl_int, c1, ldC_some, ln_sl_int]
  refine mk_sl_int (by omega) (by omega) fun w1 on x1 s1 => ?_
  rw [Int.toNat_natCast] at on ⊢
  have l1 := o1.lt
  have l2 := o2.lt
  have l4 := o4.lt
  have lb := ob.lt
  have o1 := o1.ext x1 (fun h => h)
  have o2 := o2.ext x1 (fun h => h)
  have o4 := o4.ext x1 (fun h => h)
  have ob := ob.ext x1 (fun h => h)
  have x01 := hx.seq x1
  have c1 := o1.cell (off := 1)
  simp only [List.getElem?_cons_zero, List.getElem?_cons_succ] at c1
  have hwn : w0.heap.size ≤ w.heap.size := hx.size
  generalize w.heap.size = nb at *
  unfold fse_Build_p22 fse_Build_p21 fse_Build_p20 fse_Build_p19 fse_Build_p18
  simp (disch := omega) only [Stp, fa_normal_Counts_Part, Nat.zero_add, stepR_value, ld_sl_int, c1, ldC_some, ln_sl_int]
  refine LoopD.rule (fun m t w' => ∃ i : Nat, m = ps.length - i ∧ t = .int .i64 i ∧ i ≤ ps.length ∧ Own w' nb (((ps.take i).map partsI ++ List.replicate (ps.length - i) 0).map (Value.int .i64)) ∧ Ext w0 w' nob ∧ Ext w1 w' (fun y => y = nb)) ps.length
    ⟨0, rfl, rfl, by omega, by simpa using on, x01, Ext.refl _ _⟩ ?_
  rintro m t w2 ⟨i, rfl, rfl, hi, on2, x2, y2⟩
  by_cases hlt : i < ps.length
  · have d1 : decide ((i : Int) < (ps.length : Int)) = true := by simp; omega
    obtain ⟨b', off', c', e, _, hcell⟩ := (hs.ext x2 (inB_nob _)).openI (by omega)
    cases e
    have g1 := hcell i hlt
    have hp := hm.low _ (List.getElem_mem hlt)
    have hple := partsI_sum hm hlt
    have hpv : partsI ps[i] = ps[i] ∨ ps[i] = -1 := by unfold partsI; split <;> omega
    have hpn := partsI_nonneg hp
    have emax : (if (0 - ps[i]) > ps[i] then (0 - ps[i]) else ps[i]) = partsI ps[i] := by unfold partsI; split <;> split <;> omega
    unfold fse_Build_p17
    simp (disch := omega) only [Stp, r_lss, d1, ia_sl_int, Int.toNat_natCast, Nat.zero_add, r_add, w_i64, stepR_value, ld_int, g1, ldC_some, r_neg, r_max, emax, Cnd_true]
    refine st_int on2 rfl (by simp; omega) fun w3 on3 x3 s3 => ?_
    refine ⟨ps.length - (i + 1), by omega, i + 1, rfl, rfl, by omega, ?_, x2.new x3 hwn, y2.trans x3 (fun _ _ h => h)⟩
    rw [← List.map_set] at on3
    have e : ((ps.take i).map partsI ++ List.replicate (ps.length - i) 0).set i (partsI ps[i]) = (ps.take (i + 1)).map partsI ++ List.replicate (ps.length - (i + 1)) 0 := by
      rw [show ps.length - i = (ps.length - (i + 1)) + 1 from by omega, List.replicate_succ, List.set_append_right _ _ (by rw [List.length_map, List.length_take]; omega)]
      have : i - ((ps.take i).map partsI).length = 0 := by rw [List.length_map, List.length_take]; omega
      rw [this, List.set_cons_zero, List.take_add_one, List.getElem?_eq_getElem hlt, List.map_append, List.append_assoc]
      rfl
    rw [e] at on3
    exact on3
  · have d1 : decide ((i : Int) < (ps.length : Int)) = false := by simp; omega
    have : i = ps.length := by omega
    subst this
    have on2 : Own w2 nb ((nxt ps S 0).map (Value.int .i64)) := by rw [nxt_zero]; simpa using on2
    unfold fse_Build_p17
    simp (disch := omega) only [Stp, r_lss, d1, r_add, w_i64, stepR_value, Cnd_false]
    exact build_all hm L hN on2 (ob.ext y2 (by omega)) (o1.ext y2 (by omega)) (o2.ext y2 (by omega)) (o4.ext y2 (by omega)) (by omega) (by omega) x2 hR

/-- the table -/
def Tbl (w : World) (base b log : Nat) (L : List T3) (v : Value) : Prop := v = .agg #[.int .i64 log, .slice (some ⟨b, 0, none⟩) L.length L.length] ∧ base ≤ b ∧ Own w b (fe .u8 L)

theorem chkE_ok {log most : Nat} {ps : List Int} (h : May log ps) (hl : log ≤ most) : chkE log ps most = 0 := by
  unfold chkE; rw [h.b]; simp; omega

theorem build_c {w : World} (hm : May log ps) (hs : Sl w sv (ps.map (Value.int .i64))) :
    Does pg F_fse_Build #[.agg #[.int .i64 log, sv]] w (fun r w' => ∃ b v, r = .tuple #[v, .int .i64 0] ∧ Tbl w' w.heap.size b log (buildL log ps) v ∧ Ext w w' nob) := by
  refine fse_Build_does ?_
  have hlen := hm.len256
  unfold fse_Build fse_Build_p26 fse_Build_p25
  refine stp_box fun w1 o1 x1 s1 => ?_
  refine al_fse_Table fun w2 o2 x2 s2 => ?_
  have o1 := o1.ext x2 (fun h => h)
  have l1 := lda_normal_Counts (off := 0) o1 (by simp [Value.cells])
  simp only [Value.cells, List.drop_zero, List.take_succ_cons, List.take_zero] at l1
  simp (disch := omega) only [Stp, l1, bd_fse_Table_, stepR_value, fa_normal_Counts_Log, Same, Result.ok.injEq, Next.value.injEq, and_true, ld_int, true_and]
  refine (check_c (most := 15) ((hs.ext x1 (inB_nob _)).ext x2 (inB_nob _)) (by omega)).mono ?_
  rintro r w3 ⟨rfl, x3⟩
  have hce := chkE_ok (most := 15) hm hm.log15
  rw [show (((15 : Nat) : Int)) = 15 from rfl] at hce
  rw [hce]
  have e0 : ((0 : Int) != 0) = false := rfl
  have x03 : Ext w w3 nob := (x1.seq x2).seq x3
  have o1 := own_dr (o1.ext x3 (fun h => h))
  have o2 := own_dr (o2.ext x3 (fun h => h))
  have c0 := o1.cell (off := 0)
  simp only [Value.cells, List.getElem?_cons_zero] at c0
  have l1 := lda_normal_Counts (off := 0) o1 (by simp [Value.cells])
  simp only [Value.cells, List.drop_zero, List.take_succ_cons, List.take_zero] at l1
  have hz2 := o2.lt
  have fin : ∀ {b p4 : Nat} {w' : World}, Own w' w.heap.size [.int .i64 log, sv] → Own w' w1.heap.size [.int .i64 0, .slice none 0 0] → Own w' p4 [.int .i64 log, .slice (some ⟨b, 0, none⟩) (2 ^ log) (2 ^ log)] → Own w' b (fe .u8 (m3 (spreadL 0 log ps))) → w2.heap.size ≤ b → p4 ≠ b → Ext w w' nob →
      fse_Build_p24 (fun r w' => ∃ b v, r = .tuple #[v, .int .i64 0] ∧ Tbl w' w.heap.size b log (buildL log ps) v ∧ Ext w w' nob) (.pointer (some ⟨w.heap.size, 0, none⟩)) (.pointer (some ⟨w1.heap.size, 0, none⟩)) (.pointer (some ⟨p4, 0, none⟩)) w' := by
    intro b p4 w' h1 h2 h3 h4 h5 h6 h7
    refine build_next hm (spread_lay hm 0) rfl hs h1 h2 h3 h4 (by omega) (by omega) h7 fun w'' ho hx => ?_
    rw [Es_all] at ho
    exact ⟨b, _, rfl, ⟨by rw [buildL_length], by omega, ho⟩, hx⟩
  simp (disch := omega) only [r_neq, e0, stepR_value, Cnd_false]
  have hdr : (dr w3).heap.size = w3.heap.size := rfl
  have h23 := x3.size
  refine Ord_both ?_ ?_
  · simp (disch := omega) only [c0, ldC_some, l1, stepR_value, true_and]
    refine (spread_c hm ((hs.ext x03 (inB_nob _)).dr)).mono ?_
    rintro r w4 ⟨b, rfl, hb, ob, x4⟩
    have o1 := o1.ext x4 (fun h => h)
    have c0 := o1.cell (off := 0)
    simp only [Value.cells, List.getElem?_cons_zero] at c0
    simp (disch := omega) only [c0, ldC_some, bd_fse_Table_0_1, Result.ok.injEq, Next.value.injEq, and_true, stepR_value, true_and]
    refine al_fse_Table fun w5 o5 x5 s5 => ?_
    have o1 := o1.ext x5 (fun h => h)
    have c0 := o1.cell (off := 0)
    simp only [Value.cells, List.getElem?_cons_zero] at c0
    simp (disch := omega) only [c0, ldC_some, true_and]
    have hlb := ob.lt
    refine sta_fse_Table o5 rfl (by simp [one]) (by simp) fun w6 o6 x6 s6 => ?_
    have h45 := x4.size
    refine fin (o1.ext x6 (by omega)) (((o2.ext x4 (fun h => h)).ext x5 (fun h => h)).ext x6 (by omega)) o6 ((ob.ext x5 (fun h => h)).ext x6 (by omega)) (by omega) (by omega) ?_
    exact (((x03.seq (Ext.dr _ _)).seq x4).seq x5).new x6 (by omega)
  · simp (disch := omega) only [c0, ldC_some, l1, stepR_value, true_and]
    refine al_fse_Table fun w4 o4 x4 s4 => ?_
    have o1 := o1.ext x4 (fun h => h)
    have c0 := o1.cell (off := 0)
    simp only [Value.cells, List.getElem?_cons_zero] at c0
    have l1 := lda_normal_Counts (off := 0) o1 (by simp [Value.cells])
    simp only [Value.cells, List.drop_zero, List.take_succ_cons, List.take_zero] at l1
    simp (disch := omega) only [l1, c0, ldC_some, and_true, true_and]
    refine (spread_c hm ((((hs.ext x03 (inB_nob _)).dr).ext x4 (inB_nob _)))).mono ?_
    rintro r w5 ⟨b, rfl, hb, ob, x5⟩
    have o1 := o1.ext x5 (fun h => h)
    have c0 := o1.cell (off := 0)
    simp only [Value.cells, List.getElem?_cons_zero] at c0
    simp (disch := omega) only [c0, ldC_some, bd_fse_Table_0_1, stepR_value, true_and]
    refine sta_fse_Table (o4.ext x5 (fun h => h)) rfl (by simp [one]) (by simp) fun w6 o6 x6 s6 => ?_
    refine fin (o1.ext x6 (by omega)) (((o2.ext x4 (fun h => h)).ext x5 (fun h => h)).ext x6 (by omega)) o6 (ob.ext x6 (by omega)) (by omega) (by omega) ?_
    exact (((x03.seq (Ext.dr _ _)).seq x4).seq x5).new x6 (by omega)

theorem build_bad {log : Int} {w : World} (hm : mayB log ps = false) (hs : Sl w sv (ps.map (Value.int .i64))) (hl : ps.length ≤ 9223372036854775807) :
    Does pg F_fse_Build #[.agg #[.int .i64 log, sv]] w (fun r w' => r = .tuple #[.agg #[.int .i64 0, .slice none 0 0], .int .i64 1] ∧ Ext w w' nob) := by
  refine fse_Build_does ?_
  unfold fse_Build fse_Build_p26 fse_Build_p25
  refine stp_box fun w1 o1 x1 s1 => ?_
  refine al_fse_Table fun w2 o2 x2 s2 => ?_
  have o1 := o1.ext x2 (fun h => h)
  have l1 := lda_normal_Counts (off := 0) o1 (by simp [Value.cells])
  simp only [Value.cells, List.drop_zero, List.take_succ_cons, List.take_zero] at l1
  simp (disch := omega) only [Stp, l1, bd_fse_Table_, stepR_value, fa_normal_Counts_Log, Same, Result.ok.injEq, Next.value.injEq, and_true, ld_int, true_and]
  refine (check_c (most := 15) ((hs.ext x1 (inB_nob _)).ext x2 (inB_nob _)) (by omega)).mono ?_
  rintro r w3 ⟨rfl, x3⟩
  have hce : chkE log ps 15 = 1 := by unfold chkE; rw [hm]; rfl
  rw [hce]
  have e0 : ((1 : Int) != 0) = true := rfl
  simp (disch := omega) only [r_neq, e0, stepR_value, Cnd_true]
  refine sta_fse_Table (o2.ext x3 (fun h => h)) rfl (by simp [one]) (by simp) fun w6 o6 x6 s6 => ?_
  refine ldr_fse_Table o6 (by simp [setAll]) ⟨rfl, ?_⟩
  exact ((x1.seq x2).seq x3).new x6 (by omega)
end
end Go.Proofs.Ytcbkdccobhkbpaa
/- Contracts: a symbol's first state; the law's waking. -/
namespace Go.Proofs.Ytcbkdccobhkbpaa
open Go Go.En Go.Pu
set_option maxRecDepth 4000
set_option linter.unusedSimpArgs false
set_option linter.unusedVariables false

theorem Tbl.ext {w w' : World} {base b log : Nat} {L : List T3} {v : Value} {M : Nat → Prop} (h : Tbl w base b log L v) (hx : Ext w w' M) (hM : ¬ M b) : Tbl w' base b log L v := ⟨h.1, h.2.1, h.2.2.ext hx hM⟩

theorem one_c (s : Int) (w : World) : Does pg F_fse_One #[.int .u8 s] w (fun r w' => ∃ b, Tbl w' w.heap.size b 0 [(s, 0, 0)] r ∧ Ext w w' nob) := by
  refine fse_One_does ?_
  unfold fse_One fse_One_p1
  refine al_fse_Table fun w1 o1 x1 s1 => ?_
  simp (disch := omega) only [Stp, bd_fse_Entry_0, stepR_value]
  refine bs_sl_fse_Entry (cells := #[.int .u8 s, .int .i64 0, .int .i64 0]) (by decide) (by decide) (by kernel_rfl) fun w2 o2 x2 s2 => ?_
  simp (disch := omega) only [bd_fse_Table_1, stepR_value]
  have l1 := o1.lt
  refine sta_fse_Table (o1.ext x2 (fun h => h)) rfl (by simp [one]) (by simp) fun w3 o3 x3 s3 => ?_
  refine ldr_fse_Table o3 (by simp [setAll]) ?_
  simp only [setAll, List.set_cons_zero, List.set_cons_succ, List.drop_zero, List.take_succ_cons, List.take_zero]
  exact ⟨w1.heap.size, ⟨rfl, by omega, o2.ext x3 (by omega)⟩, (x1.seq x2).new x3 (Nat.le_refl _)⟩

/-- cells of one entry -/
theorem fe_take {k : IntKind} {L : List T3} {i : Nat} (h : i < L.length) : ((fe k L).drop (i * 3)).take 3 = [.int k L[i].1, .int .i64 L[i].2.1, .int .i64 L[i].2.2] := by
  obtain ⟨h0, h1, h2⟩ := fe_get k L i h
  apply List.ext_getElem?
  intro j
  match j with
  | 0 => rw [List.getElem?_take_of_lt (by omega), List.getElem?_drop]; exact h0
  | 1 => rw [List.getElem?_take_of_lt (by omega), List.getElem?_drop]; exact h1
  | 2 => rw [List.getElem?_take_of_lt (by omega), List.getElem?_drop]; exact h2
  | j + 3 => rw [List.getElem?_eq_none (by rw [List.length_take]; omega), List.getElem?_eq_none (by simp)]

/-- what First tells -/
def FirstOf (L : List T3) (s : Int) (r : Value) : Prop :=
  (∃ i, ∃ h : i < L.length, r = .tuple #[.int .i64 (i : Nat), .int .i64 0] ∧ L[i].1 = s ∧ ∀ j (hj : j < i), L[j].1 ≠ s) ∨
  (r = .tuple #[.int .i64 0, .int .i64 21] ∧ ∀ j (hj : j < L.length), L[j].1 ≠ s)

theorem first_c {w : World} {base b log : Nat} {L : List T3} {v : Value} (h : Tbl w base b log L v) (hl : L.length ≤ 1000000) (s : Int) :
    Does pg F_fse_First #[v, .int .u8 s] w (fun r w' => FirstOf L s r ∧ Ext w w' nob) := by
  refine fse_First_does ?_
  obtain ⟨rfl, hb, ob⟩ := h
  unfold fse_First fse_First_p9 fse_First_p8
  refine stp_box fun w1 o1 x1 s1 => ?_
  have c1 := o1.cell (off := 1)
  simp only [Value.cells, List.getElem?_cons_zero, List.getElem?_cons_succ] at c1
  unfold fse_First_p7 fse_First_p6 fse_First_p5 fse_First_p4 fse_First_p3
  simp (disch := omega) only [Stp, fa_fse_Table_Entries, Nat.zero_add, stepR_value, ld_sl_fse_Entry, c1, ldC_some, ln_sl_fse_Entry]
  refine LoopD.rule (fun m t w' => ∃ i : Nat, m = L.length - i ∧ t = .int .i64 i ∧ i ≤ L.length ∧ (∀ j (hj : j < i) (hj2 : j < L.length), L[j].1 ≠ s) ∧ Ext w w' nob) L.length ⟨0, rfl, rfl, by omega, fun j hj => by omega, x1⟩ ?_
  rintro m t w2 ⟨i, rfl, rfl, hi, hno, x2⟩
  unfold fse_First_p2
  by_cases hlt : i < L.length
  · have d1 : decide ((i : Int) < (L.length : Int)) = true := by simp; omega
    have l1 := lda_fse_Entry (off := i * 3) (ob.ext x2 (fun h => h)) (by rw [fe_length]; omega)
    rw [fe_take hlt] at l1
    simp (disch := omega) only [Stp, r_lss, d1, ia_sl_fse_Entry, Int.toNat_natCast, Nat.zero_add, r_add, w_i64, stepR_value, l1, Cnd_true]
    refine al_fse_Entry fun w3 o3 x3 s3 => ?_
    refine sta_fse_Entry o3 rfl (by simp [one]) (by simp) fun w4 o4 x4 s4 => ?_
    simp only [setAll, List.set_cons_zero, List.set_cons_succ] at o4
    have c0 := o4.cell (off := 0)
    simp only [List.getElem?_cons_zero] at c0
    have x5 : Ext w w4 nob := (x2.seq x3).new x4 x2.size
    by_cases he : L[i].1 = s
    · have d2 : (L[i].1 == s) = true := by simpa using he
      simp (disch := omega) only [fa_fse_Entry_Symbol, stepR_value, ld_uint8, c0, ldC_some, r_eql, d2, Cnd_true]
      exact ⟨.inl ⟨i, hlt, rfl, he, fun j hj => hno j hj (by omega)⟩, x5⟩
    · have d2 : (L[i].1 == s) = false := by simpa using he
      simp (disch := omega) only [fa_fse_Entry_Symbol, stepR_value, ld_uint8, c0, ldC_some, r_eql, d2, Cnd_false]
      refine ⟨L.length - (i + 1), by omega, i + 1, rfl, rfl, by omega, fun j hj hj2 => ?_, x5⟩
      by_cases hji : j = i
      · subst hji; exact he
      · exact hno j (by omega) hj2
  · have d1 : decide ((i : Int) < (L.length : Int)) = false := by simp; omega
    unfold fse_First_p1
    simp (disch := omega) only [Stp, r_lss, d1, r_add, w_i64, stepR_value, Cnd_false]
    exact ⟨.inr ⟨rfl, fun j hj => hno j (by omega) hj⟩, x2⟩

theorem buildL_fst (log : Nat) (ps : List Int) {i : Nat} (h : i < 2 ^ log) : ((buildL log ps)[i]'(by rw [buildL_length]; exact h)).1 = (spreadL 0 log ps).getD i 0 := by
  unfold buildL entAt entOf; simp

/-- a symbol with a part has a state -/
theorem buildL_has {log : Nat} {ps : List Int} (hm : May log ps) {s : Nat} (hs : s < ps.length) (hp : ps[s] ≠ 0) : ∃ i, ∃ h : i < (buildL log ps).length, ((buildL log ps)[i]'h).1 = (s : Int) := by
  have L := spread_lay hm 0
  have hc := L.cnt s hs
  have hl := hm.low _ (List.getElem_mem hs)
  have hpos : 0 < (spreadL 0 log ps).count (s : Int) := by rw [hc]; unfold partsI; split <;> omega
  obtain ⟨i, hi, e⟩ := List.getElem_of_mem (List.count_pos_iff.1 hpos)
  have hi2 : i < 2 ^ log := by rw [← L.len]; exact hi
  refine ⟨i, by rw [buildL_length]; exact hi2, ?_⟩
  rw [buildL_fst log ps hi2, List.getD_eq_getElem?_getD, List.getElem?_eq_getElem hi, e]; rfl

theorem may55 : May 5 [16, 16] := ⟨by omega, by omega, by simp, by simp, by simp, by simp, by decide⟩

theorem awake7_c (w : World) : Does pg F_law07_awake #[] w (fun r w' => r = .bool true ∧ Ext w w' nob) := by
  refine law07_awake_does ?_
  unfold law07_awake law07_awake_p1
  refine (one_c 7 w).mono ?_
  rintro r w1 ⟨b1, ⟨rfl, hb1, ob1⟩, x1⟩
  simp (disch := omega) only [Stp, bd_normal_Counts_, stepR_value]
  refine al_fse_Table fun w2 o2 x2 s2 => ?_
  refine sta_fse_Table o2 rfl (by simp [one]) (by simp) fun w3 o3 x3 s3 => ?_
  simp only [setAll, List.set_cons_zero, List.set_cons_succ] at o3
  refine bs_sl_int (cells := #[.int .i64 16, .int .i64 16]) (by decide) (by decide) (by kernel_rfl) fun w4 o4 x4 s4 => ?_
  simp (disch := omega) only [bd_normal_Counts_0_1, fa_fse_Table_Entries, Nat.zero_add, stepR_value, ld_sl_fse_Entry]
  have hs4 : Sl w4 (.slice (some ⟨w3.heap.size, 0, none⟩) 2 2) (([16, 16] : List Int).map (Value.int .i64)) := ⟨_, _, _, rfl, rfl, by simp, fun _ => ⟨_, _, rfl, fun i hi => by rw [o4.cell, Nat.zero_add]; rfl⟩⟩
  refine (build_c (log := 5) may55 hs4).mono ?_
  rintro r w5 ⟨b5, v5, rfl, ⟨rfl, hb5, ob5⟩, x5⟩
  simp (disch := omega) only [x20, x21, stepR_value]
  refine al_fse_Table fun w6 o6 x6 s6 => ?_
  refine sta_fse_Table o6 rfl (by simp [one]) (by simp) fun w7 o7 x7 s7 => ?_
  simp only [setAll, List.set_cons_zero, List.set_cons_succ] at o7
  simp (disch := omega) only [fa_fse_Table_Entries, Nat.zero_add, stepR_value, fa_fse_Table_Log]
  refine (build_bad (log := 0) (ps := []) rfl (Sl.nil _) (by simp)).mono ?_
  rintro r w8 ⟨rfl, x8⟩
  simp (disch := omega) only [x20, x21, stepR_value]
  refine al_fse_Table fun w9 o9 x9 s9 => ?_
  refine sta_fse_Table o9 rfl (by simp [one]) (by simp) fun wa oa xa sa => ?_
  have l1 := ob1.lt
  have l2 := o3.lt
  have l5 := ob5.lt
  have l7 := o7.lt
  have g1 := x2.size
  have g3 := x3.size
  have g4 := x4.size
  have g5 := x5.size
  have g6 := x6.size
  have g7 := x7.size
  have g8 := x8.size
  have g9 := x9.size
  have y39 : Ext w3 wa (fun y => y = w5.heap.size ∨ y = w8.heap.size) := ((((x4.seq x5).seq x6).mono fun _ _ h => h.elim : Ext w3 w6 (fun y => y = w5.heap.size ∨ y = w8.heap.size)).seq (x7.mono fun _ _ h => .inl h)).seq (((x8.seq x9).mono fun _ _ h => h.elim : Ext w7 w9 (fun y => y = w5.heap.size ∨ y = w8.heap.size)).seq (xa.mono fun _ _ h => .inr h))
  have y59 : Ext w5 wa (fun y => y = w5.heap.size ∨ y = w8.heap.size) := ((x6.mono fun _ _ h => h.elim : Ext w5 w6 (fun y => y = w5.heap.size ∨ y = w8.heap.size)).seq (x7.mono fun _ _ h => .inl h)).seq (((x8.seq x9).mono fun _ _ h => h.elim : Ext w7 w9 (fun y => y = w5.heap.size ∨ y = w8.heap.size)).seq (xa.mono fun _ _ h => .inr h))
  have oa1 := o3.ext y39 (by omega)
  have oaE := ((ob1.ext x2 (fun h => h)).ext x3 (by omega)).ext y39 (by omega)
  have oa7 := ((o7.ext x8 (fun h => h)).ext x9 (fun h => h)).ext xa (by omega)
  have oa5 := ob5.ext y59 (by omega)
  have xx : Ext w wa nob := ((((x1.seq x2).new x3 (by omega)).seq ((x4.seq x5).seq x6)).new x7 (by omega)).seq (x8.seq x9) |>.new xa (by omega)
  have hlen : (buildL 5 [16, 16]).length = 32 := by rw [buildL_length]
  have ldt := lda_fse_Table (off := 0) oa7 (by simp)
  simp only [List.drop_zero, List.take_succ_cons, List.take_zero] at ldt
  simp (disch := omega) only [ldt, stepR_value]
  refine (first_c (base := 0) (b := b5) (log := 5) (L := buildL 5 [16, 16]) ⟨rfl, by omega, oa5⟩ (by omega) 1).mono ?_
  rintro r wb ⟨hfirst, xb⟩
  rcases hfirst with ⟨i, hi, rfl, hi1, _⟩ | ⟨rfl, hno⟩
  · have ob1' := oa1.ext xb (fun h => h)
    have obE := oaE.ext xb (fun h => h)
    have ob7 := oa7.ext xb (fun h => h)
    have ob5' := oa5.ext xb (fun h => h)
    have c1 := ob1'.cell (off := 1)
    have c7 := ob7.cell (off := 1)
    have c70 := ob7.cell (off := 0)
    simp only [List.getElem?_cons_zero, List.getElem?_cons_succ] at c1 c7 c70
    have cE := obE.cell (off := 0)
    simp only [fe, List.getElem?_cons_zero] at cE
    have gi := (fe_get .u8 (buildL 5 [16, 16]) i hi).1
    have cI := ob5'.cell (off := i * 3)
    rw [gi, hi1] at cI
    have t0 : (0 : Int).toNat = 0 := rfl
    have e1 : (((([(7, 0, 0)] : List T3).length : Nat) : Int) == 1) = true := rfl
    have e1b : (((1 : Nat) : Int) == 1) = true := rfl
    have e2 : ((7 : Int) == 7) = true := rfl
    have e3 : ((0 : Int) == 0) = true := rfl
    have e4 : ((((buildL 5 [16, 16]).length : Nat) : Int) == 32) = true := by rw [hlen]; rfl
    have e5 : ((5 : Int) == 5) = true := rfl
    have e5' : (((5 : Nat) : Int) == 5) = true := rfl
    have e6 : ((1 : Int) == 1) = true := rfl
    have e7 : decide ((0 : Int) ≤ (i : Int)) = true := by simp
    have e8 : decide ((i : Int) < 32) = true := by simp; omega
    have hl1 : (([(7, 0, 0)] : List T3).length) = 1 := rfl
    simp (disch := omega) only [x20, x21, stepR_value, c1, hl1, ldC_some, ln_sl_fse_Entry, r_eql, e1b, isB_tt, r_pick, if_true, Gd_true, ld_sl_fse_Entry, ia_sl_fse_Entry, t0, Nat.zero_mul, Nat.zero_add, fa_fse_Entry_Symbol, ld_uint8, cE, e2, e3, c7, e4, ld_int, c70, e5', e6, r_geq, e7, r_lss, e8, Int.toNat_natCast, cI, true_and]
    exact xx.seq xb
  · obtain ⟨i, hi, e⟩ := buildL_has may55 (s := 1) (by simp) (by simp)
    exact absurd e (hno i hi)
end Go.Proofs.Ytcbkdccobhkbpaa
