/- Contract: the law FseBefore, whole. -/
import Derived.Test.YtcbkdccobhkbpaaFseH
namespace Go.Proofs.Ytcbkdccobhkbpaa
open Go Go.En Go.Pu
set_option maxRecDepth 4000
set_option linter.unusedSimpArgs false
set_option linter.unusedVariables false

theorem before_end {w0 w : World} {log0 log : Nat} {ps : List Int} {p8 b : Nat} {s sy : Nat} {L : List T3} (hm : May log ps) (hB : buildL log ps = L) (hl : L.length ≤ 1000000) (hs : s < L.length)
    (o8 : Own w p8 [.int .i64 log, .slice (some ⟨b, 0, none⟩) L.length L.length]) (ob : Own w b (fe .u8 L)) (hx : Ext w0 w nob) {vi vx vn vf vk vh : Value} {there : Nat} {first : Int}
    (hbo : BeforeOf L s sy (.tuple #[vi, vx, vn, vf])) (hfo : FirstOf L sy (.tuple #[vk, vh])) (hth : there = L.countP (inE sy s)) (hfi : FirstI L sy L.length first) :
    law07_FseBefore_p1 (fun r w' => r = .bool true ∧ Ext w0 w' nob) (.int .u8 sy) (.pointer (some ⟨p8, 0, none⟩)) (.int .i64 s) vi vx vn vf (.int .i64 1) vk vh (.int .i64 there) (.int .i64 first) w := by
  have hlen : L.length = 2 ^ log := by rw [← hB, buildL_length]
  have hlow : Low L := by rw [← hB]; exact buildL_low hm
  have c8 := o8.cell (off := 1)
  simp only [List.getElem?_cons_zero, List.getElem?_cons_succ] at c8
  have inE_fst : ∀ {e : T3}, inE sy s e = true → e.1 = (sy : Int) := fun h => by unfold inE at h; simp only [decide_eq_true_eq] at h; exact h.1
  have n1 : ((1 : Int) != 1) = false := rfl
  have n2 : ((0 : Int) != 0) = false := rfl
  have n3 : ((0 : Int) == 0) = true := rfl
  have n4 : ((21 : Int) == 0) = false := rfl
  have n5 : ((21 : Int) == 21) = true := rfl
  have n6 : (false == false) = true := rfl
  have n7 : (true == true) = true := rfl
  rcases no_or_one hm (s := s) (sy := sy) (by omega) with hno | ⟨i0, e0, h1, h2, h3⟩
  · rw [hB] at hno
    have hf : first = -1 := by
      rcases hfi with ⟨g, _⟩ | ⟨i, e, _, _, g3, g4, _⟩
      · exact g
      · exact absurd g4 (hno i e g3)
    have ht : there = 0 := by
      rw [hth]; exact countP_none fun i e he => by
        cases hq : inE sy s e with
        | false => rfl
        | true => exact absurd (inE_fst hq) (hno i e he)
    rcases hbo with ⟨i, e, g1, g2, _⟩ | ⟨_, g⟩
    · exact absurd (inE_fst g2) (hno i e g1)
    rcases hfo with ⟨i, hi, _, g2, _⟩ | ⟨g', _⟩
    · exact absurd g2 (hno i _ (List.getElem?_eq_getElem hi))
    obtain ⟨rfl, rfl, rfl, rfl⟩ : vi = .int .i64 0 ∧ vx = .int .u64 0 ∧ vn = .int .i64 0 ∧ vf = .int .i64 21 := by simpa using g
    obtain ⟨rfl, rfl⟩ : vk = .int .i64 0 ∧ vh = .int .i64 21 := by simpa using g'
    subst hf ht
    have d1 : decide ((0 : Int) ≤ -1) = false := rfl
    have d2 : decide ((-1 : Int) < 0) = true := rfl
    have d3 : ((((0 : Nat)) : Int) == 0) = true := rfl
    unfold law07_FseBefore_p1
    simp (disch := omega) only [Stp, Same, stepR_value, stepR_skip, r_add, r_sub, r_mul, r_quo, r_rem, r_and, r_or, r_xor, r_andNot, r_shl, r_shr, r_eql, r_neq, r_lss, r_leq, r_gtr, r_geq, r_neg, r_cpl, r_not, r_pick, r_min, r_max, r_nil, x20, x21, x30, x31, x32, x40, x41, x42, x43, ldC_some, Result.ok.injEq, Next.value.injEq, true_and, and_true, w_i64, w_u64, w_i32, w_u32, w_u16, w_u8, Int.toNat_natCast, isB_tt, isB_tf, isB_ft, isB_ff, Gd_true, Gd_false, Gs_true, Gs_false, Cnd_true, Cnd_false, if_true, if_false, Bool.false_eq_true, Nat.zero_add, Option.isNone_some, Option.isNone_none, Bool.not_true, Bool.not_false, List.getElem?_cons_succ, List.getElem?_cons_zero, fa_normal_Counts_Part, ld_sl_int, ln_sl_int, fa_normal_Counts_Log, ld_int, fa_fse_Table_Entries, ld_sl_fse_Entry, ln_sl_fse_Entry, ia_sl_fse_Entry, fa_fse_Entry_Symbol, ld_uint8, ia_ar256_int, ia_sl_int, cv_uint8_int, fa_fse_Entry_Bits, fa_fse_Table_Log, fa_fse_Entry_Base, cv_uint16_int, cv_int_uint, bneq_bool, cv_uint64_int, bd_normal_Counts_0_1, bd_normal_Counts_, bd_fse_Table_, bd_fse_Table_0_1, bd_lightermanref07_T_, fa_lightermanref06_C_Log, bd_lightermanref07_T_0, fa_lightermanref07_T_L, ld_sl_lightermanref07_E, bd_lightermanref07_E_0, fa_lightermanref06_C_Part, ia_sl_lightermanref07_E, fa_lightermanref07_E_Symbol, fa_lightermanref07_E_Bits, fa_lightermanref07_E_Base, bd_lightermanref06_C_0_1, fa_lightermanref07_T_Log, ln_sl_lightermanref07_E, cv_int_uint64, bd_fse_Entry_0, bd_fse_Table_1, cv_int_uint8, cv_uint_uint32, cv_uint32_uint8, ix_string, cv_uint64_uint8, n1, n2, n3, n4, n5, d1, d2, d3, n6]
    exact hx
  · rw [hB] at h1 h3
    have ht : there = 1 := by rw [hth]; exact countP_one h1 h2 h3
    have hsy := inE_fst h2
    have hi0 : i0 < L.length := by
      rcases Nat.lt_or_ge i0 L.length with h | h
      · exact h
      · rw [List.getElem?_eq_none h] at h1; cases h1
    rcases hfi with ⟨_, g⟩ | ⟨i1, e1, g1, g2, g3, g4, g5⟩
    · exact absurd hsy (g i0 e0 hi0 h1)
    rcases hbo with ⟨i, e, q1, q2, q⟩ | ⟨q, _⟩
    case inr => rw [q i0 e0 h1] at h2; cases h2
    rcases hfo with ⟨i2, hi2, r1, r2, r3⟩ | ⟨_, r⟩
    case inr =>
      have := r i0 hi0
      rw [List.getElem?_eq_getElem hi0] at h1
      rw [Option.some.inj h1] at this
      exact absurd hsy this
    have hii : i1 = i2 := by
      rcases Nat.lt_trichotomy i1 i2 with h | h | h
      · have hi1 : i1 < L.length := by omega
        have := r3 i1 h
        rw [List.getElem?_eq_getElem hi1] at g3
        rw [Option.some.inj g3] at this
        exact absurd g4 this
      · exact h
      · exact absurd r2 (g5 i2 _ h (List.getElem?_eq_getElem hi2))
    subst hii
    obtain ⟨rfl, rfl, rfl, rfl⟩ : vi = .int .i64 (i : Nat) ∧ vx = .int .u64 ((s : Int) - e.2.2) ∧ vn = .int .i64 e.2.1 ∧ vf = .int .i64 0 := by simpa using q
    obtain ⟨rfl, rfl⟩ : vk = .int .i64 (i1 : Nat) ∧ vh = .int .i64 0 := by simpa using r1
    subst ht g2
    have hil : i < L.length := by
      rcases Nat.lt_or_ge i L.length with h | h
      · exact h
      · rw [List.getElem?_eq_none h] at q1; cases q1
    have hem : e ∈ L := List.mem_of_getElem? q1
    obtain ⟨n, hn, hn2, hb0, hb1⟩ := hlow e hem
    have l1 := lda_fse_Entry (off := i * 3) ob (by rw [fe_length]; omega)
    rw [fe_take hil] at l1
    have hge : L[i] = e := by rw [List.getElem?_eq_getElem hil] at q1; exact Option.some.inj q1
    rw [hge] at l1
    have hin := q2
    unfold inE at hin
    rw [hn] at hin
    simp only [decide_eq_true_eq, Int.toNat_natCast] at hin
    obtain ⟨e1, e2, e3⟩ := e
    simp only at hn hb0 hb1 l1 hin
    subst hn
    obtain ⟨j1, j2, j3⟩ := hin
    have hpw : ((2 ^ n : Nat) : Int) = (2 : Int) ^ n := by simp
    rw [← hpw] at j3
    have hpb : 2 ^ n ≤ 2 ^ 20 := Nat.pow_le_pow_right (by omega) hn2
    have d1 : decide ((0 : Int) ≤ ((i1 : Nat) : Int)) = true := by simp
    have d2 : (((i1 : Nat) : Int) != ((i1 : Nat) : Int)) = false := by simp
    have d3 : decide (((i1 : Nat) : Int) < 0) = false := by simp
    have d4 : ((((1 : Nat)) : Int) != 1) = false := rfl
    have d5 : decide (((i : Nat) : Int) < 0) = false := by simp
    have d6 : decide ((L.length : Int) ≤ ((i : Nat) : Int)) = false := by simp; omega
    unfold law07_FseBefore_p1
    simp (disch := omega) only [Stp, Same, stepR_value, stepR_skip, r_add, r_sub, r_mul, r_quo, r_rem, r_and, r_or, r_xor, r_andNot, r_shl, r_shr, r_eql, r_neq, r_lss, r_leq, r_gtr, r_geq, r_neg, r_cpl, r_not, r_pick, r_min, r_max, r_nil, x20, x21, x30, x31, x32, x40, x41, x42, x43, ldC_some, Result.ok.injEq, Next.value.injEq, true_and, and_true, w_i64, w_u64, w_i32, w_u32, w_u16, w_u8, Int.toNat_natCast, isB_tt, isB_tf, isB_ft, isB_ff, Gd_true, Gd_false, Gs_true, Gs_false, Cnd_true, Cnd_false, if_true, if_false, Bool.false_eq_true, Nat.zero_add, Option.isNone_some, Option.isNone_none, Bool.not_true, Bool.not_false, List.getElem?_cons_succ, List.getElem?_cons_zero, fa_normal_Counts_Part, ld_sl_int, ln_sl_int, fa_normal_Counts_Log, ld_int, fa_fse_Table_Entries, ld_sl_fse_Entry, ln_sl_fse_Entry, ia_sl_fse_Entry, fa_fse_Entry_Symbol, ld_uint8, ia_ar256_int, ia_sl_int, cv_uint8_int, fa_fse_Entry_Bits, fa_fse_Table_Log, fa_fse_Entry_Base, cv_uint16_int, cv_int_uint, bneq_bool, cv_uint64_int, bd_normal_Counts_0_1, bd_normal_Counts_, bd_fse_Table_, bd_fse_Table_0_1, bd_lightermanref07_T_, fa_lightermanref06_C_Log, bd_lightermanref07_T_0, fa_lightermanref07_T_L, ld_sl_lightermanref07_E, bd_lightermanref07_E_0, fa_lightermanref06_C_Part, ia_sl_lightermanref07_E, fa_lightermanref07_E_Symbol, fa_lightermanref07_E_Bits, fa_lightermanref07_E_Base, bd_lightermanref06_C_0_1, fa_lightermanref07_T_Log, ln_sl_lightermanref07_E, cv_int_uint64, bd_fse_Entry_0, bd_fse_Table_1, cv_int_uint8, cv_uint_uint32, cv_uint32_uint8, ix_string, cv_uint64_uint8, n1, n2, n3, n4, n5, n6, n7, d1, d2, d3, d4, d5, d6, c8, l1]
    refine al_fse_Entry fun w3 o3 x3 s3 => ?_
    refine sta_fse_Entry o3 rfl (by simp [one]) (by simp) fun w4 o4 x4 s4 => ?_
    simp only [setAll, List.set_cons_zero, List.set_cons_succ] at o4
    have k0 := o4.cell (off := 0)
    have k1 := o4.cell (off := 1)
    have k2 := o4.cell (off := 2)
    simp only [List.getElem?_cons_zero, List.getElem?_cons_succ] at k0 k1 k2
    have m1 : (e1 == (sy : Int)) = true := by simpa using j1
    have m2 : (((n : Nat) : Int) == (n : Int)) = true := by simp
    have hw1 : IntKind.i64.wrap ((s : Int) - e3) = (s : Int) - e3 := w_i64 (by omega) (by omega)
    have m3' : (e3 + ((s : Int) - e3)) = (s : Int) := by omega
    have m3'' : (((s : Nat) : Int) == (s : Int)) = true := by simp
    have hsh := shl1u hn2
    have m4 : decide ((s : Int) - e3 < ((2 ^ n : Nat) : Int)) = true := by simp only [decide_eq_true_eq]; omega
    simp (disch := omega) only [Stp, Same, stepR_value, stepR_skip, r_add, r_sub, r_mul, r_quo, r_rem, r_and, r_or, r_xor, r_andNot, r_shl, r_shr, r_eql, r_neq, r_lss, r_leq, r_gtr, r_geq, r_neg, r_cpl, r_not, r_pick, r_min, r_max, r_nil, x20, x21, x30, x31, x32, x40, x41, x42, x43, ldC_some, Result.ok.injEq, Next.value.injEq, true_and, and_true, w_i64, w_u64, w_i32, w_u32, w_u16, w_u8, Int.toNat_natCast, isB_tt, isB_tf, isB_ft, isB_ff, Gd_true, Gd_false, Gs_true, Gs_false, Cnd_true, Cnd_false, if_true, if_false, Bool.false_eq_true, Nat.zero_add, Option.isNone_some, Option.isNone_none, Bool.not_true, Bool.not_false, List.getElem?_cons_succ, List.getElem?_cons_zero, fa_normal_Counts_Part, ld_sl_int, ln_sl_int, fa_normal_Counts_Log, ld_int, fa_fse_Table_Entries, ld_sl_fse_Entry, ln_sl_fse_Entry, ia_sl_fse_Entry, fa_fse_Entry_Symbol, ld_uint8, ia_ar256_int, ia_sl_int, cv_uint8_int, fa_fse_Entry_Bits, fa_fse_Table_Log, fa_fse_Entry_Base, cv_uint16_int, cv_int_uint, bneq_bool, cv_uint64_int, bd_normal_Counts_0_1, bd_normal_Counts_, bd_fse_Table_, bd_fse_Table_0_1, bd_lightermanref07_T_, fa_lightermanref06_C_Log, bd_lightermanref07_T_0, fa_lightermanref07_T_L, ld_sl_lightermanref07_E, bd_lightermanref07_E_0, fa_lightermanref06_C_Part, ia_sl_lightermanref07_E, fa_lightermanref07_E_Symbol, fa_lightermanref07_E_Bits, fa_lightermanref07_E_Base, bd_lightermanref06_C_0_1, fa_lightermanref07_T_Log, ln_sl_lightermanref07_E, cv_int_uint64, bd_fse_Entry_0, bd_fse_Table_1, cv_int_uint8, cv_uint_uint32, cv_uint32_uint8, ix_string, cv_uint64_uint8, k0, k1, k2, m1, m2, hw1, m3', m3'', hsh, m4]
    exact (hx.seq x3).new x4 hx.size

theorem fseBefore_c {log : Int} {sv : Value} {ps : List Int} {w : World} (hs : Sl w sv (ps.map (Value.int .i64))) (hl : ps.length ≤ 9223372036854775807) (st sy : Nat) (hst : st < 65536) :
    Does pg F_law07_FseBefore #[.agg #[.int .i64 log, sv], .int .u16 st, .int .u8 sy] w (fun r w' => r = .bool true ∧ Ext w w' nob) := by
  refine law07_FseBefore_does ?_
  unfold law07_FseBefore law07_FseBefore_p16 law07_FseBefore_p15
  obtain ⟨a, c, hv, hc⟩ := hs.lenI
  refine stp_box fun w1 o1 x1 s1 => ?_
  refine (awake7_c w1).mono ?_
  rintro r w2 ⟨rfl, x2⟩
  have o1 := o1.ext x2 (fun h => h)
  have x02 := x1.seq x2
  have hs2 := hs.ext x02 (inB_nob _)
  have c0 := o1.cell (off := 0)
  have c1 := o1.cell (off := 1)
  have l1 := lda_normal_Counts (off := 0) o1 (by simp [Value.cells])
  simp only [Value.cells, List.drop_zero, List.take_succ_cons, List.take_zero, List.getElem?_cons_zero, List.getElem?_cons_succ] at l1 c0 c1
  subst hv
  by_cases h1 : 300 < ps.length
  · have d1 : decide ((300 : Int) < (ps.length : Int)) = true := by simp; omega
    simp (disch := omega) only [Stp, Same, stepR_value, stepR_skip, r_add, r_sub, r_mul, r_quo, r_rem, r_and, r_or, r_xor, r_andNot, r_shl, r_shr, r_eql, r_neq, r_lss, r_leq, r_gtr, r_geq, r_neg, r_cpl, r_not, r_pick, r_min, r_max, r_nil, x20, x21, x30, x31, x32, x40, x41, x42, x43, ldC_some, Result.ok.injEq, Next.value.injEq, true_and, and_true, w_i64, w_u64, w_i32, w_u32, w_u16, w_u8, Int.toNat_natCast, isB_tt, isB_tf, isB_ft, isB_ff, Gd_true, Gd_false, Gs_true, Gs_false, Cnd_true, Cnd_false, if_true, if_false, Bool.false_eq_true, Nat.zero_add, Option.isNone_some, Option.isNone_none, Bool.not_true, Bool.not_false, List.getElem?_cons_succ, List.getElem?_cons_zero, fa_normal_Counts_Part, ld_sl_int, ln_sl_int, fa_normal_Counts_Log, ld_int, fa_fse_Table_Entries, ld_sl_fse_Entry, ln_sl_fse_Entry, ia_sl_fse_Entry, fa_fse_Entry_Symbol, ld_uint8, ia_ar256_int, ia_sl_int, cv_uint8_int, fa_fse_Entry_Bits, fa_fse_Table_Log, fa_fse_Entry_Base, cv_uint16_int, cv_int_uint, bneq_bool, cv_uint64_int, bd_normal_Counts_0_1, bd_normal_Counts_, bd_fse_Table_, bd_fse_Table_0_1, bd_lightermanref07_T_, fa_lightermanref06_C_Log, bd_lightermanref07_T_0, fa_lightermanref07_T_L, ld_sl_lightermanref07_E, bd_lightermanref07_E_0, fa_lightermanref06_C_Part, ia_sl_lightermanref07_E, fa_lightermanref07_E_Symbol, fa_lightermanref07_E_Bits, fa_lightermanref07_E_Base, bd_lightermanref06_C_0_1, fa_lightermanref07_T_Log, ln_sl_lightermanref07_E, cv_int_uint64, bd_fse_Entry_0, bd_fse_Table_1, cv_int_uint8, cv_uint_uint32, cv_uint32_uint8, ix_string, cv_uint64_uint8, c0, c1, d1]
    exact x02
  have d1 : decide ((300 : Int) < (ps.length : Int)) = false := by simp; omega
  by_cases h2 : 10 < log
  · have d2 : decide ((10 : Int) < log) = true := by simpa using h2
    simp (disch := omega) only [Stp, Same, stepR_value, stepR_skip, r_add, r_sub, r_mul, r_quo, r_rem, r_and, r_or, r_xor, r_andNot, r_shl, r_shr, r_eql, r_neq, r_lss, r_leq, r_gtr, r_geq, r_neg, r_cpl, r_not, r_pick, r_min, r_max, r_nil, x20, x21, x30, x31, x32, x40, x41, x42, x43, ldC_some, Result.ok.injEq, Next.value.injEq, true_and, and_true, w_i64, w_u64, w_i32, w_u32, w_u16, w_u8, Int.toNat_natCast, isB_tt, isB_tf, isB_ft, isB_ff, Gd_true, Gd_false, Gs_true, Gs_false, Cnd_true, Cnd_false, if_true, if_false, Bool.false_eq_true, Nat.zero_add, Option.isNone_some, Option.isNone_none, Bool.not_true, Bool.not_false, List.getElem?_cons_succ, List.getElem?_cons_zero, fa_normal_Counts_Part, ld_sl_int, ln_sl_int, fa_normal_Counts_Log, ld_int, fa_fse_Table_Entries, ld_sl_fse_Entry, ln_sl_fse_Entry, ia_sl_fse_Entry, fa_fse_Entry_Symbol, ld_uint8, ia_ar256_int, ia_sl_int, cv_uint8_int, fa_fse_Entry_Bits, fa_fse_Table_Log, fa_fse_Entry_Base, cv_uint16_int, cv_int_uint, bneq_bool, cv_uint64_int, bd_normal_Counts_0_1, bd_normal_Counts_, bd_fse_Table_, bd_fse_Table_0_1, bd_lightermanref07_T_, fa_lightermanref06_C_Log, bd_lightermanref07_T_0, fa_lightermanref07_T_L, ld_sl_lightermanref07_E, bd_lightermanref07_E_0, fa_lightermanref06_C_Part, ia_sl_lightermanref07_E, fa_lightermanref07_E_Symbol, fa_lightermanref07_E_Bits, fa_lightermanref07_E_Base, bd_lightermanref06_C_0_1, fa_lightermanref07_T_Log, ln_sl_lightermanref07_E, cv_int_uint64, bd_fse_Entry_0, bd_fse_Table_1, cv_int_uint8, cv_uint_uint32, cv_uint32_uint8, ix_string, cv_uint64_uint8, c0, c1, d1, d2]
    exact x02
  have d2 : decide ((10 : Int) < log) = false := by simpa using h2
  cases hmay : mayB log ps with
  | false =>
    simp (disch := omega) only [Stp, Same, stepR_value, stepR_skip, r_add, r_sub, r_mul, r_quo, r_rem, r_and, r_or, r_xor, r_andNot, r_shl, r_shr, r_eql, r_neq, r_lss, r_leq, r_gtr, r_geq, r_neg, r_cpl, r_not, r_pick, r_min, r_max, r_nil, x20, x21, x30, x31, x32, x40, x41, x42, x43, ldC_some, Result.ok.injEq, Next.value.injEq, true_and, and_true, w_i64, w_u64, w_i32, w_u32, w_u16, w_u8, Int.toNat_natCast, isB_tt, isB_tf, isB_ft, isB_ff, Gd_true, Gd_false, Gs_true, Gs_false, Cnd_true, Cnd_false, if_true, if_false, Bool.false_eq_true, Nat.zero_add, Option.isNone_some, Option.isNone_none, Bool.not_true, Bool.not_false, List.getElem?_cons_succ, List.getElem?_cons_zero, fa_normal_Counts_Part, ld_sl_int, ln_sl_int, fa_normal_Counts_Log, ld_int, fa_fse_Table_Entries, ld_sl_fse_Entry, ln_sl_fse_Entry, ia_sl_fse_Entry, fa_fse_Entry_Symbol, ld_uint8, ia_ar256_int, ia_sl_int, cv_uint8_int, fa_fse_Entry_Bits, fa_fse_Table_Log, fa_fse_Entry_Base, cv_uint16_int, cv_int_uint, bneq_bool, cv_uint64_int, bd_normal_Counts_0_1, bd_normal_Counts_, bd_fse_Table_, bd_fse_Table_0_1, bd_lightermanref07_T_, fa_lightermanref06_C_Log, bd_lightermanref07_T_0, fa_lightermanref07_T_L, ld_sl_lightermanref07_E, bd_lightermanref07_E_0, fa_lightermanref06_C_Part, ia_sl_lightermanref07_E, fa_lightermanref07_E_Symbol, fa_lightermanref07_E_Bits, fa_lightermanref07_E_Base, bd_lightermanref06_C_0_1, fa_lightermanref07_T_Log, ln_sl_lightermanref07_E, cv_int_uint64, bd_fse_Entry_0, bd_fse_Table_1, cv_int_uint8, cv_uint_uint32, cv_uint32_uint8, ix_string, cv_uint64_uint8, c0, c1, d1, d2, l1]
    refine (build_bad hmay hs2 hl).mono ?_
    rintro r w3 ⟨rfl, x3⟩
    have e1 : ((1 : Int) != 0) = true := rfl
    have e2 : (((0 : Nat) : Int) == 0) = true := rfl
    simp (disch := omega) only [Stp, Same, stepR_value, stepR_skip, r_add, r_sub, r_mul, r_quo, r_rem, r_and, r_or, r_xor, r_andNot, r_shl, r_shr, r_eql, r_neq, r_lss, r_leq, r_gtr, r_geq, r_neg, r_cpl, r_not, r_pick, r_min, r_max, r_nil, x20, x21, x30, x31, x32, x40, x41, x42, x43, ldC_some, Result.ok.injEq, Next.value.injEq, true_and, and_true, w_i64, w_u64, w_i32, w_u32, w_u16, w_u8, Int.toNat_natCast, isB_tt, isB_tf, isB_ft, isB_ff, Gd_true, Gd_false, Gs_true, Gs_false, Cnd_true, Cnd_false, if_true, if_false, Bool.false_eq_true, Nat.zero_add, Option.isNone_some, Option.isNone_none, Bool.not_true, Bool.not_false, List.getElem?_cons_succ, List.getElem?_cons_zero, fa_normal_Counts_Part, ld_sl_int, ln_sl_int, fa_normal_Counts_Log, ld_int, fa_fse_Table_Entries, ld_sl_fse_Entry, ln_sl_fse_Entry, ia_sl_fse_Entry, fa_fse_Entry_Symbol, ld_uint8, ia_ar256_int, ia_sl_int, cv_uint8_int, fa_fse_Entry_Bits, fa_fse_Table_Log, fa_fse_Entry_Base, cv_uint16_int, cv_int_uint, bneq_bool, cv_uint64_int, bd_normal_Counts_0_1, bd_normal_Counts_, bd_fse_Table_, bd_fse_Table_0_1, bd_lightermanref07_T_, fa_lightermanref06_C_Log, bd_lightermanref07_T_0, fa_lightermanref07_T_L, ld_sl_lightermanref07_E, bd_lightermanref07_E_0, fa_lightermanref06_C_Part, ia_sl_lightermanref07_E, fa_lightermanref07_E_Symbol, fa_lightermanref07_E_Bits, fa_lightermanref07_E_Base, bd_lightermanref06_C_0_1, fa_lightermanref07_T_Log, ln_sl_lightermanref07_E, cv_int_uint64, bd_fse_Entry_0, bd_fse_Table_1, cv_int_uint8, cv_uint_uint32, cv_uint32_uint8, ix_string, cv_uint64_uint8]
    refine al_fse_Table fun w4 o4 x4 s4 => ?_
    refine sta_fse_Table o4 rfl (by simp [one]) (by simp) fun w5 o5 x5 s5 => ?_
    simp only [setAll, List.set_cons_zero, List.set_cons_succ] at o5
    have c5 := o5.cell (off := 1)
    simp only [List.getElem?_cons_zero, List.getElem?_cons_succ] at c5
    simp (disch := omega) only [Stp, Same, stepR_value, stepR_skip, r_add, r_sub, r_mul, r_quo, r_rem, r_and, r_or, r_xor, r_andNot, r_shl, r_shr, r_eql, r_neq, r_lss, r_leq, r_gtr, r_geq, r_neg, r_cpl, r_not, r_pick, r_min, r_max, r_nil, x20, x21, x30, x31, x32, x40, x41, x42, x43, ldC_some, Result.ok.injEq, Next.value.injEq, true_and, and_true, w_i64, w_u64, w_i32, w_u32, w_u16, w_u8, Int.toNat_natCast, isB_tt, isB_tf, isB_ft, isB_ff, Gd_true, Gd_false, Gs_true, Gs_false, Cnd_true, Cnd_false, if_true, if_false, Bool.false_eq_true, Nat.zero_add, Option.isNone_some, Option.isNone_none, Bool.not_true, Bool.not_false, List.getElem?_cons_succ, List.getElem?_cons_zero, fa_normal_Counts_Part, ld_sl_int, ln_sl_int, fa_normal_Counts_Log, ld_int, fa_fse_Table_Entries, ld_sl_fse_Entry, ln_sl_fse_Entry, ia_sl_fse_Entry, fa_fse_Entry_Symbol, ld_uint8, ia_ar256_int, ia_sl_int, cv_uint8_int, fa_fse_Entry_Bits, fa_fse_Table_Log, fa_fse_Entry_Base, cv_uint16_int, cv_int_uint, bneq_bool, cv_uint64_int, bd_normal_Counts_0_1, bd_normal_Counts_, bd_fse_Table_, bd_fse_Table_0_1, bd_lightermanref07_T_, fa_lightermanref06_C_Log, bd_lightermanref07_T_0, fa_lightermanref07_T_L, ld_sl_lightermanref07_E, bd_lightermanref07_E_0, fa_lightermanref06_C_Part, ia_sl_lightermanref07_E, fa_lightermanref07_E_Symbol, fa_lightermanref07_E_Bits, fa_lightermanref07_E_Base, bd_lightermanref06_C_0_1, fa_lightermanref07_T_Log, ln_sl_lightermanref07_E, cv_int_uint64, bd_fse_Entry_0, bd_fse_Table_1, cv_int_uint8, cv_uint_uint32, cv_uint32_uint8, ix_string, cv_uint64_uint8, e1, c5, e2]
    have := x02.size
    have := x3.size
    exact ((x02.seq x3).seq x4).new x5 (by omega)
  | true =>
    obtain ⟨l, rfl, hm⟩ := may_of hmay
    have hlow := buildL_low hm
    have hlen := buildL_length l ps
    have hN := Nat.two_pow_pos l
    have hN2 : 2 ^ l ≤ 2 ^ 10 := Nat.pow_le_pow_right (by omega) (by omega)
    simp (disch := omega) only [Stp, Same, stepR_value, stepR_skip, r_add, r_sub, r_mul, r_quo, r_rem, r_and, r_or, r_xor, r_andNot, r_shl, r_shr, r_eql, r_neq, r_lss, r_leq, r_gtr, r_geq, r_neg, r_cpl, r_not, r_pick, r_min, r_max, r_nil, x20, x21, x30, x31, x32, x40, x41, x42, x43, ldC_some, Result.ok.injEq, Next.value.injEq, true_and, and_true, w_i64, w_u64, w_i32, w_u32, w_u16, w_u8, Int.toNat_natCast, isB_tt, isB_tf, isB_ft, isB_ff, Gd_true, Gd_false, Gs_true, Gs_false, Cnd_true, Cnd_false, if_true, if_false, Bool.false_eq_true, Nat.zero_add, Option.isNone_some, Option.isNone_none, Bool.not_true, Bool.not_false, List.getElem?_cons_succ, List.getElem?_cons_zero, fa_normal_Counts_Part, ld_sl_int, ln_sl_int, fa_normal_Counts_Log, ld_int, fa_fse_Table_Entries, ld_sl_fse_Entry, ln_sl_fse_Entry, ia_sl_fse_Entry, fa_fse_Entry_Symbol, ld_uint8, ia_ar256_int, ia_sl_int, cv_uint8_int, fa_fse_Entry_Bits, fa_fse_Table_Log, fa_fse_Entry_Base, cv_uint16_int, cv_int_uint, bneq_bool, cv_uint64_int, bd_normal_Counts_0_1, bd_normal_Counts_, bd_fse_Table_, bd_fse_Table_0_1, bd_lightermanref07_T_, fa_lightermanref06_C_Log, bd_lightermanref07_T_0, fa_lightermanref07_T_L, ld_sl_lightermanref07_E, bd_lightermanref07_E_0, fa_lightermanref06_C_Part, ia_sl_lightermanref07_E, fa_lightermanref07_E_Symbol, fa_lightermanref07_E_Bits, fa_lightermanref07_E_Base, bd_lightermanref06_C_0_1, fa_lightermanref07_T_Log, ln_sl_lightermanref07_E, cv_int_uint64, bd_fse_Entry_0, bd_fse_Table_1, cv_int_uint8, cv_uint_uint32, cv_uint32_uint8, ix_string, cv_uint64_uint8, c0, c1, d1, d2, l1]
    refine (build_c hm hs2).mono ?_
    rintro r w3 ⟨b, v, rfl, ⟨rfl, hb, ob⟩, x3⟩
    generalize hB : buildL l ps = L at *
    have e1 : ((0 : Int) != 0) = false := rfl
    simp (disch := omega) only [Stp, Same, stepR_value, stepR_skip, r_add, r_sub, r_mul, r_quo, r_rem, r_and, r_or, r_xor, r_andNot, r_shl, r_shr, r_eql, r_neq, r_lss, r_leq, r_gtr, r_geq, r_neg, r_cpl, r_not, r_pick, r_min, r_max, r_nil, x20, x21, x30, x31, x32, x40, x41, x42, x43, ldC_some, Result.ok.injEq, Next.value.injEq, true_and, and_true, w_i64, w_u64, w_i32, w_u32, w_u16, w_u8, Int.toNat_natCast, isB_tt, isB_tf, isB_ft, isB_ff, Gd_true, Gd_false, Gs_true, Gs_false, Cnd_true, Cnd_false, if_true, if_false, Bool.false_eq_true, Nat.zero_add, Option.isNone_some, Option.isNone_none, Bool.not_true, Bool.not_false, List.getElem?_cons_succ, List.getElem?_cons_zero, fa_normal_Counts_Part, ld_sl_int, ln_sl_int, fa_normal_Counts_Log, ld_int, fa_fse_Table_Entries, ld_sl_fse_Entry, ln_sl_fse_Entry, ia_sl_fse_Entry, fa_fse_Entry_Symbol, ld_uint8, ia_ar256_int, ia_sl_int, cv_uint8_int, fa_fse_Entry_Bits, fa_fse_Table_Log, fa_fse_Entry_Base, cv_uint16_int, cv_int_uint, bneq_bool, cv_uint64_int, bd_normal_Counts_0_1, bd_normal_Counts_, bd_fse_Table_, bd_fse_Table_0_1, bd_lightermanref07_T_, fa_lightermanref06_C_Log, bd_lightermanref07_T_0, fa_lightermanref07_T_L, ld_sl_lightermanref07_E, bd_lightermanref07_E_0, fa_lightermanref06_C_Part, ia_sl_lightermanref07_E, fa_lightermanref07_E_Symbol, fa_lightermanref07_E_Bits, fa_lightermanref07_E_Base, bd_lightermanref06_C_0_1, fa_lightermanref07_T_Log, ln_sl_lightermanref07_E, cv_int_uint64, bd_fse_Entry_0, bd_fse_Table_1, cv_int_uint8, cv_uint_uint32, cv_uint32_uint8, ix_string, cv_uint64_uint8]
    refine al_fse_Table fun w4 o4 x4 s4 => ?_
    refine sta_fse_Table o4 rfl (by simp [one]) (by simp) fun w5 o5 x5 s5 => ?_
    simp only [setAll, List.set_cons_zero, List.set_cons_succ] at o5
    have lb := ob.lt
    have g3 := x3.size
    have g2 := x02.size
    have ob5 := (ob.ext x4 (fun h => h)).ext x5 (by omega)
    have x05 : Ext w w5 nob := ((x02.seq x3).seq x4).new x5 (by omega)
    have c5 := o5.cell (off := 1)
    simp only [List.getElem?_cons_zero, List.getElem?_cons_succ] at c5
    have lt := fun w' (o : Own w' w3.heap.size [.int .i64 l, .slice (some ⟨b, 0, none⟩) L.length L.length]) => lda_fse_Table (off := 0) o (by simp)
    simp only [List.drop_zero, List.take_succ_cons, List.take_zero] at lt
    obtain ⟨s, hsd⟩ : ∃ s, s = st % L.length := ⟨_, rfl⟩
    have hsl : s < L.length := by rw [hsd]; exact Nat.mod_lt _ (by omega)
    have e2 : (st : Int).tmod (L.length : Int) = (s : Int) := by rw [Int.tmod_eq_emod_of_nonneg (by omega), hsd]; simp
    simp (disch := omega) only [Stp, Same, stepR_value, stepR_skip, r_add, r_sub, r_mul, r_quo, r_rem, r_and, r_or, r_xor, r_andNot, r_shl, r_shr, r_eql, r_neq, r_lss, r_leq, r_gtr, r_geq, r_neg, r_cpl, r_not, r_pick, r_min, r_max, r_nil, x20, x21, x30, x31, x32, x40, x41, x42, x43, ldC_some, Result.ok.injEq, Next.value.injEq, true_and, and_true, w_i64, w_u64, w_i32, w_u32, w_u16, w_u8, Int.toNat_natCast, isB_tt, isB_tf, isB_ft, isB_ff, Gd_true, Gd_false, Gs_true, Gs_false, Cnd_true, Cnd_false, if_true, if_false, Bool.false_eq_true, Nat.zero_add, Option.isNone_some, Option.isNone_none, Bool.not_true, Bool.not_false, List.getElem?_cons_succ, List.getElem?_cons_zero, fa_normal_Counts_Part, ld_sl_int, ln_sl_int, fa_normal_Counts_Log, ld_int, fa_fse_Table_Entries, ld_sl_fse_Entry, ln_sl_fse_Entry, ia_sl_fse_Entry, fa_fse_Entry_Symbol, ld_uint8, ia_ar256_int, ia_sl_int, cv_uint8_int, fa_fse_Entry_Bits, fa_fse_Table_Log, fa_fse_Entry_Base, cv_uint16_int, cv_int_uint, bneq_bool, cv_uint64_int, bd_normal_Counts_0_1, bd_normal_Counts_, bd_fse_Table_, bd_fse_Table_0_1, bd_lightermanref07_T_, fa_lightermanref06_C_Log, bd_lightermanref07_T_0, fa_lightermanref07_T_L, ld_sl_lightermanref07_E, bd_lightermanref07_E_0, fa_lightermanref06_C_Part, ia_sl_lightermanref07_E, fa_lightermanref07_E_Symbol, fa_lightermanref07_E_Bits, fa_lightermanref07_E_Base, bd_lightermanref06_C_0_1, fa_lightermanref07_T_Log, ln_sl_lightermanref07_E, cv_int_uint64, bd_fse_Entry_0, bd_fse_Table_1, cv_int_uint8, cv_uint_uint32, cv_uint32_uint8, ix_string, cv_uint64_uint8, e1, c5, lt w5 o5, e2]
    refine (before_c (base := 0) ⟨rfl, Nat.zero_le _, ob5⟩ hlow (by omega) s hsl sy).mono ?_
    rintro r w6 ⟨hbo, x6⟩
    have hbo' := hbo
    obtain ⟨vi, vx, vn, vf, rfl⟩ : ∃ vi vx vn vf, r = .tuple #[vi, vx, vn, vf] := by
      rcases hbo with ⟨i, e, _, _, rfl⟩ | ⟨_, rfl⟩ <;> exact ⟨_, _, _, _, rfl⟩
    have o6 := o5.ext x6 (fun h => h)
    have c6 := o6.cell (off := 1)
    simp only [List.getElem?_cons_zero, List.getElem?_cons_succ] at c6
    simp (disch := omega) only [Stp, Same, stepR_value, stepR_skip, r_add, r_sub, r_mul, r_quo, r_rem, r_and, r_or, r_xor, r_andNot, r_shl, r_shr, r_eql, r_neq, r_lss, r_leq, r_gtr, r_geq, r_neg, r_cpl, r_not, r_pick, r_min, r_max, r_nil, x20, x21, x30, x31, x32, x40, x41, x42, x43, ldC_some, Result.ok.injEq, Next.value.injEq, true_and, and_true, w_i64, w_u64, w_i32, w_u32, w_u16, w_u8, Int.toNat_natCast, isB_tt, isB_tf, isB_ft, isB_ff, Gd_true, Gd_false, Gs_true, Gs_false, Cnd_true, Cnd_false, if_true, if_false, Bool.false_eq_true, Nat.zero_add, Option.isNone_some, Option.isNone_none, Bool.not_true, Bool.not_false, List.getElem?_cons_succ, List.getElem?_cons_zero, fa_normal_Counts_Part, ld_sl_int, ln_sl_int, fa_normal_Counts_Log, ld_int, fa_fse_Table_Entries, ld_sl_fse_Entry, ln_sl_fse_Entry, ia_sl_fse_Entry, fa_fse_Entry_Symbol, ld_uint8, ia_ar256_int, ia_sl_int, cv_uint8_int, fa_fse_Entry_Bits, fa_fse_Table_Log, fa_fse_Entry_Base, cv_uint16_int, cv_int_uint, bneq_bool, cv_uint64_int, bd_normal_Counts_0_1, bd_normal_Counts_, bd_fse_Table_, bd_fse_Table_0_1, bd_lightermanref07_T_, fa_lightermanref06_C_Log, bd_lightermanref07_T_0, fa_lightermanref07_T_L, ld_sl_lightermanref07_E, bd_lightermanref07_E_0, fa_lightermanref06_C_Part, ia_sl_lightermanref07_E, fa_lightermanref07_E_Symbol, fa_lightermanref07_E_Bits, fa_lightermanref07_E_Base, bd_lightermanref06_C_0_1, fa_lightermanref07_T_Log, ln_sl_lightermanref07_E, cv_int_uint64, bd_fse_Entry_0, bd_fse_Table_1, cv_int_uint8, cv_uint_uint32, cv_uint32_uint8, ix_string, cv_uint64_uint8, c6, lt w6 o6]
    refine (before_out (base := 0) (L := L) ⟨rfl, Nat.zero_le _, ob5.ext x6 (fun h => h)⟩ (by omega) sy).mono ?_
    rintro r w7 ⟨rfl, x7⟩
    have o7 := o6.ext x7 (fun h => h)
    simp (disch := omega) only [Stp, Same, stepR_value, stepR_skip, r_add, r_sub, r_mul, r_quo, r_rem, r_and, r_or, r_xor, r_andNot, r_shl, r_shr, r_eql, r_neq, r_lss, r_leq, r_gtr, r_geq, r_neg, r_cpl, r_not, r_pick, r_min, r_max, r_nil, x20, x21, x30, x31, x32, x40, x41, x42, x43, ldC_some, Result.ok.injEq, Next.value.injEq, true_and, and_true, w_i64, w_u64, w_i32, w_u32, w_u16, w_u8, Int.toNat_natCast, isB_tt, isB_tf, isB_ft, isB_ff, Gd_true, Gd_false, Gs_true, Gs_false, Cnd_true, Cnd_false, if_true, if_false, Bool.false_eq_true, Nat.zero_add, Option.isNone_some, Option.isNone_none, Bool.not_true, Bool.not_false, List.getElem?_cons_succ, List.getElem?_cons_zero, fa_normal_Counts_Part, ld_sl_int, ln_sl_int, fa_normal_Counts_Log, ld_int, fa_fse_Table_Entries, ld_sl_fse_Entry, ln_sl_fse_Entry, ia_sl_fse_Entry, fa_fse_Entry_Symbol, ld_uint8, ia_ar256_int, ia_sl_int, cv_uint8_int, fa_fse_Entry_Bits, fa_fse_Table_Log, fa_fse_Entry_Base, cv_uint16_int, cv_int_uint, bneq_bool, cv_uint64_int, bd_normal_Counts_0_1, bd_normal_Counts_, bd_fse_Table_, bd_fse_Table_0_1, bd_lightermanref07_T_, fa_lightermanref06_C_Log, bd_lightermanref07_T_0, fa_lightermanref07_T_L, ld_sl_lightermanref07_E, bd_lightermanref07_E_0, fa_lightermanref06_C_Part, ia_sl_lightermanref07_E, fa_lightermanref07_E_Symbol, fa_lightermanref07_E_Bits, fa_lightermanref07_E_Base, bd_lightermanref06_C_0_1, fa_lightermanref07_T_Log, ln_sl_lightermanref07_E, cv_int_uint64, bd_fse_Entry_0, bd_fse_Table_1, cv_int_uint8, cv_uint_uint32, cv_uint32_uint8, ix_string, cv_uint64_uint8, lt w7 o7]
    refine (first_c (base := 0) (L := L) ⟨rfl, Nat.zero_le _, (ob5.ext x6 (fun h => h)).ext x7 (fun h => h)⟩ (by omega) sy).mono ?_
    rintro r w8 ⟨hfo, x8⟩
    have hfo' := hfo
    obtain ⟨vk, vh, rfl⟩ : ∃ vk vh, r = .tuple #[vk, vh] := by
      rcases hfo with ⟨i, _, rfl, _⟩ | ⟨rfl, _⟩ <;> exact ⟨_, _, rfl⟩
    have o8 := o7.ext x8 (fun h => h)
    have ob8 := ((ob5.ext x6 (fun h => h)).ext x7 (fun h => h)).ext x8 (fun h => h)
    have x08 := ((x05.seq x6).seq x7).seq x8
    simp (disch := omega) only [Stp, Same, stepR_value, stepR_skip, r_add, r_sub, r_mul, r_quo, r_rem, r_and, r_or, r_xor, r_andNot, r_shl, r_shr, r_eql, r_neq, r_lss, r_leq, r_gtr, r_geq, r_neg, r_cpl, r_not, r_pick, r_min, r_max, r_nil, x20, x21, x30, x31, x32, x40, x41, x42, x43, ldC_some, Result.ok.injEq, Next.value.injEq, true_and, and_true, w_i64, w_u64, w_i32, w_u32, w_u16, w_u8, Int.toNat_natCast, isB_tt, isB_tf, isB_ft, isB_ff, Gd_true, Gd_false, Gs_true, Gs_false, Cnd_true, Cnd_false, if_true, if_false, Bool.false_eq_true, Nat.zero_add, Option.isNone_some, Option.isNone_none, Bool.not_true, Bool.not_false, List.getElem?_cons_succ, List.getElem?_cons_zero, fa_normal_Counts_Part, ld_sl_int, ln_sl_int, fa_normal_Counts_Log, ld_int, fa_fse_Table_Entries, ld_sl_fse_Entry, ln_sl_fse_Entry, ia_sl_fse_Entry, fa_fse_Entry_Symbol, ld_uint8, ia_ar256_int, ia_sl_int, cv_uint8_int, fa_fse_Entry_Bits, fa_fse_Table_Log, fa_fse_Entry_Base, cv_uint16_int, cv_int_uint, bneq_bool, cv_uint64_int, bd_normal_Counts_0_1, bd_normal_Counts_, bd_fse_Table_, bd_fse_Table_0_1, bd_lightermanref07_T_, fa_lightermanref06_C_Log, bd_lightermanref07_T_0, fa_lightermanref07_T_L, ld_sl_lightermanref07_E, bd_lightermanref07_E_0, fa_lightermanref06_C_Part, ia_sl_lightermanref07_E, fa_lightermanref07_E_Symbol, fa_lightermanref07_E_Bits, fa_lightermanref07_E_Base, bd_lightermanref06_C_0_1, fa_lightermanref07_T_Log, ln_sl_lightermanref07_E, cv_int_uint64, bd_fse_Entry_0, bd_fse_Table_1, cv_int_uint8, cv_uint_uint32, cv_uint32_uint8, ix_string, cv_uint64_uint8]
    refine before_loop hlow (by omega) hsl o8 ob8 x08 fun there first w9 hth hfi x9 => ?_
    exact before_end (log0 := l) hm hB (by omega) hsl (o8.ext x9 (fun h => h)) (ob8.ext x9 (fun h => h)) (x08.seq x9) hbo' hfo' hth hfi
end Go.Proofs.Ytcbkdccobhkbpaa
