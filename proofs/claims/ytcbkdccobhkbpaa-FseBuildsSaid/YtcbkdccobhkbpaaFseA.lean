/- Contracts: how many bits a number has; symbols laid over states. -/
import Derived.Test.YtcbkdccobhkbpaaNrmB
import Derived.Test.YtcbkdccobhkbpaaPuFsb
namespace Go.Proofs.Ytcbkdccobhkbpaa
open Go Go.En Go.Pu
set_option maxRecDepth 4000
set_option linter.unusedSimpArgs false
set_option linter.unusedVariables false

def len8 : ByteArray := ⟨#[0, 1, 2, 2, 3, 3, 3, 3, 4, 4, 4, 4, 4, 4, 4, 4, 5, 5, 5, 5, 5, 5, 5, 5, 5, 5, 5, 5, 5, 5, 5, 5, 6, 6, 6, 6, 6, 6, 6, 6, 6, 6, 6, 6, 6, 6, 6, 6, 6, 6, 6, 6, 6, 6, 6, 6, 6, 6, 6, 6, 6, 6, 6, 6, 7, 7, 7, 7, 7, 7, 7, 7, 7, 7, 7, 7, 7, 7, 7, 7, 7, 7, 7, 7, 7, 7, 7, 7, 7, 7, 7, 7, 7, 7, 7, 7, 7, 7, 7, 7, 7, 7, 7, 7, 7, 7, 7, 7, 7, 7, 7, 7, 7, 7, 7, 7, 7, 7, 7, 7, 7, 7, 7, 7, 7, 7, 7, 7, 8, 8, 8, 8, 8, 8, 8, 8, 8, 8, 8, 8, 8, 8, 8, 8, 8, 8, 8, 8, 8, 8, 8, 8, 8, 8, 8, 8, 8, 8, 8, 8, 8, 8, 8, 8, 8, 8, 8, 8, 8, 8, 8, 8, 8, 8, 8, 8, 8, 8, 8, 8, 8, 8, 8, 8, 8, 8, 8, 8, 8, 8, 8, 8, 8, 8, 8, 8, 8, 8, 8, 8, 8, 8, 8, 8, 8, 8, 8, 8, 8, 8, 8, 8, 8, 8, 8, 8, 8, 8, 8, 8, 8, 8, 8, 8, 8, 8, 8, 8, 8, 8, 8, 8, 8, 8, 8, 8, 8, 8, 8, 8, 8, 8, 8, 8, 8, 8, 8, 8, 8, 8, 8, 8, 8, 8, 8, 8]⟩
theorem len8_size : len8.size = 256 := by decide
set_option maxRecDepth 100000 in
theorem len8_get (x : Nat) (h : x < 256) : (len8[x]'(by rw [len8_size]; exact h)).toNat = bl x := by
  have : ∀ k : Fin 256, (len8.data[k.val]!).toNat = bl k.val := by decide +kernel
  have h2 := this ⟨x, h⟩
  simp only at h2
  rw [← h2]
  have hs : x < len8.data.size := by have := len8_size; exact (show len8.data.size = 256 from this) ▸ h
  rw [getElem!_pos len8.data x hs]
  rfl

theorem bl_shift {x j : Nat} (h : 2 ^ j ≤ x) : bl x = bl (x / 2 ^ j) + j := by
  have hp := Nat.two_pow_pos j
  have h0 : x / 2 ^ j ≠ 0 := by
    have := Nat.div_pos h hp
    omega
  have a := bl_le h0
  have b := bl_lt (x / 2 ^ j)
  have c := bl_pos h0
  obtain ⟨m, hm⟩ : ∃ m, bl (x / 2 ^ j) = m + 1 := ⟨bl (x / 2 ^ j) - 1, by omega⟩
  rw [hm, Nat.add_sub_cancel] at a
  rw [hm] at b ⊢
  have h1 : 2 ^ (m + j) ≤ x := by
    rw [Nat.pow_add]
    exact Nat.le_trans (Nat.mul_le_mul_right _ a) (Nat.div_mul_le_self _ _)
  have h2 : x < 2 ^ (m + j + 1) := by
    rw [show m + j + 1 = (m + 1) + j from by omega, Nat.pow_add]
    exact (Nat.div_lt_iff_lt_mul hp).1 b
  rw [bl_eq h1 h2]; omega

/-- the last step of a number's length -/
theorem len_last {x n : Nat} (hx : x < 256) (hn : n ≤ 1000) (R : Value → World → Prop) (w : World) (h : R (.int .i64 ((n + bl x : Nat) : Int)) w) :
    math_bits_Len64_p1 R (.int .u64 x) (.int .i64 n) w := by
  have hg := len8_get x hx
  have hs := len8_size
  have hb : bl x ≤ 8 := bl_le_of (n := 8) (by omega)
  unfold math_bits_Len64_p1
  change Stp pg _ w fun t21 w => Stp pg (sIdx 9 (.string len8) t21) w _
  simp (disch := omega) only [Stp, Same, stepR_value, stepR_skip, r_add, r_sub, r_mul, r_quo, r_rem, r_and, r_or, r_xor, r_andNot, r_shl, r_shr, r_eql, r_neq, r_lss, r_leq, r_gtr, r_geq, r_neg, r_cpl, r_not, r_pick, r_min, r_max, r_nil, x20, x21, x30, x31, x32, x40, x41, x42, x43, ldC_some, Result.ok.injEq, Next.value.injEq, true_and, and_true, w_i64, w_u64, w_i32, w_u32, w_u16, w_u8, Int.toNat_natCast, isB_tt, isB_tf, isB_ft, isB_ff, Gd_true, Gd_false, Gs_true, Gs_false, Cnd_true, Cnd_false, if_true, if_false, Bool.false_eq_true, Nat.zero_add, Option.isNone_some, Option.isNone_none, Bool.not_true, Bool.not_false, List.getElem?_cons_succ, List.getElem?_cons_zero, fa_normal_Counts_Part, ld_sl_int, ln_sl_int, fa_normal_Counts_Log, ld_int, fa_fse_Table_Entries, ld_sl_fse_Entry, ln_sl_fse_Entry, ia_sl_fse_Entry, fa_fse_Entry_Symbol, ld_uint8, ia_ar256_int, ia_sl_int, cv_uint8_int, fa_fse_Entry_Bits, fa_fse_Table_Log, fa_fse_Entry_Base, cv_uint16_int, cv_int_uint, bneq_bool, cv_uint64_int, bd_normal_Counts_0_1, bd_normal_Counts_, bd_fse_Table_, bd_fse_Table_0_1, bd_lightermanref07_T_, fa_lightermanref06_C_Log, bd_lightermanref07_T_0, fa_lightermanref07_T_L, ld_sl_lightermanref07_E, bd_lightermanref07_E_0, fa_lightermanref06_C_Part, ia_sl_lightermanref07_E, fa_lightermanref07_E_Symbol, fa_lightermanref07_E_Bits, fa_lightermanref07_E_Base, bd_lightermanref06_C_0_1, fa_lightermanref07_T_Log, ln_sl_lightermanref07_E, cv_int_uint64, bd_fse_Entry_0, bd_fse_Table_1, cv_int_uint8, cv_uint_uint32, cv_uint32_uint8, ix_string, cv_uint64_uint8, hg]
  rw [Int.natCast_add] at h
  exact h

theorem fdiv_nat (a b : Nat) : ((a : Int)).fdiv (b : Int) = ((a / b : Nat) : Int) := by rw [Int.fdiv_eq_ediv_of_nonneg _ (by omega)]; rfl
theorem shr_u64 (x j : Nat) (hj : j ≤ 64) : ((x : Int)).fdiv (2 ^ (min (j : Nat) IntKind.u64.bits)) = ((x / 2 ^ j : Nat) : Int) := by
  have e : min j IntKind.u64.bits = j := by simp only [IntKind.bits]; omega
  rw [e, ← fdiv_nat]; simp

theorem len64_c (x : Nat) (hx : x < 18446744073709551616) (w : World) : Does pg F_math_bits_Len64 #[.int .u64 x] w (fun r w' => r = .int .i64 (bl x : Nat) ∧ w' = w) := by
  refine math_bits_Len64_does ?_
  unfold math_bits_Len64 math_bits_Len64_p7 math_bits_Len64_p6
  have step8 : ∀ (y n : Nat), y < 65536 → n ≤ 64 → n + bl y = bl x → math_bits_Len64_p3 (fun r w' => r = .int .i64 (bl x : Nat) ∧ w' = w) (.int .u64 y) (.int .i64 n) w := by
    intro y n hy hn e
    unfold math_bits_Len64_p3 math_bits_Len64_p2
    by_cases h : 256 ≤ y
    · have d : decide ((256 : Int) ≤ (y : Int)) = true := by simp; omega
      have sh := shr_u64 y 8 (by omega)
      have hq : y / 2 ^ 8 < 256 := by omega
      have := bl_shift (x := y) (j := 8) (by omega)
      have e2 : (n : Int) + 8 = ((n + 8 : Nat) : Int) := by omega
      simp (disch := omega) only [Stp, Same, stepR_value, stepR_skip, r_add, r_sub, r_mul, r_quo, r_rem, r_and, r_or, r_xor, r_andNot, r_shl, r_shr, r_eql, r_neq, r_lss, r_leq, r_gtr, r_geq, r_neg, r_cpl, r_not, r_pick, r_min, r_max, r_nil, x20, x21, x30, x31, x32, x40, x41, x42, x43, ldC_some, Result.ok.injEq, Next.value.injEq, true_and, and_true, w_i64, w_u64, w_i32, w_u32, w_u16, w_u8, Int.toNat_natCast, isB_tt, isB_tf, isB_ft, isB_ff, Gd_true, Gd_false, Gs_true, Gs_false, Cnd_true, Cnd_false, if_true, if_false, Bool.false_eq_true, Nat.zero_add, Option.isNone_some, Option.isNone_none, Bool.not_true, Bool.not_false, List.getElem?_cons_succ, List.getElem?_cons_zero, fa_normal_Counts_Part, ld_sl_int, ln_sl_int, fa_normal_Counts_Log, ld_int, fa_fse_Table_Entries, ld_sl_fse_Entry, ln_sl_fse_Entry, ia_sl_fse_Entry, fa_fse_Entry_Symbol, ld_uint8, ia_ar256_int, ia_sl_int, cv_uint8_int, fa_fse_Entry_Bits, fa_fse_Table_Log, fa_fse_Entry_Base, cv_uint16_int, cv_int_uint, bneq_bool, cv_uint64_int, bd_normal_Counts_0_1, bd_normal_Counts_, bd_fse_Table_, bd_fse_Table_0_1, bd_lightermanref07_T_, fa_lightermanref06_C_Log, bd_lightermanref07_T_0, fa_lightermanref07_T_L, ld_sl_lightermanref07_E, bd_lightermanref07_E_0, fa_lightermanref06_C_Part, ia_sl_lightermanref07_E, fa_lightermanref07_E_Symbol, fa_lightermanref07_E_Bits, fa_lightermanref07_E_Base, bd_lightermanref06_C_0_1, fa_lightermanref07_T_Log, ln_sl_lightermanref07_E, cv_int_uint64, bd_fse_Entry_0, bd_fse_Table_1, cv_int_uint8, cv_uint_uint32, cv_uint32_uint8, ix_string, cv_uint64_uint8, d, e2]
      rw [show (8 : Int).toNat = 8 from rfl, sh]
      exact len_last hq (by omega) _ _ ⟨by rw [← e, this]; congr 2; omega, rfl⟩
    · have d : decide ((256 : Int) ≤ (y : Int)) = false := by simp; omega
      simp (disch := omega) only [Stp, Same, stepR_value, stepR_skip, r_add, r_sub, r_mul, r_quo, r_rem, r_and, r_or, r_xor, r_andNot, r_shl, r_shr, r_eql, r_neq, r_lss, r_leq, r_gtr, r_geq, r_neg, r_cpl, r_not, r_pick, r_min, r_max, r_nil, x20, x21, x30, x31, x32, x40, x41, x42, x43, ldC_some, Result.ok.injEq, Next.value.injEq, true_and, and_true, w_i64, w_u64, w_i32, w_u32, w_u16, w_u8, Int.toNat_natCast, isB_tt, isB_tf, isB_ft, isB_ff, Gd_true, Gd_false, Gs_true, Gs_false, Cnd_true, Cnd_false, if_true, if_false, Bool.false_eq_true, Nat.zero_add, Option.isNone_some, Option.isNone_none, Bool.not_true, Bool.not_false, List.getElem?_cons_succ, List.getElem?_cons_zero, fa_normal_Counts_Part, ld_sl_int, ln_sl_int, fa_normal_Counts_Log, ld_int, fa_fse_Table_Entries, ld_sl_fse_Entry, ln_sl_fse_Entry, ia_sl_fse_Entry, fa_fse_Entry_Symbol, ld_uint8, ia_ar256_int, ia_sl_int, cv_uint8_int, fa_fse_Entry_Bits, fa_fse_Table_Log, fa_fse_Entry_Base, cv_uint16_int, cv_int_uint, bneq_bool, cv_uint64_int, bd_normal_Counts_0_1, bd_normal_Counts_, bd_fse_Table_, bd_fse_Table_0_1, bd_lightermanref07_T_, fa_lightermanref06_C_Log, bd_lightermanref07_T_0, fa_lightermanref07_T_L, ld_sl_lightermanref07_E, bd_lightermanref07_E_0, fa_lightermanref06_C_Part, ia_sl_lightermanref07_E, fa_lightermanref07_E_Symbol, fa_lightermanref07_E_Bits, fa_lightermanref07_E_Base, bd_lightermanref06_C_0_1, fa_lightermanref07_T_Log, ln_sl_lightermanref07_E, cv_int_uint64, bd_fse_Entry_0, bd_fse_Table_1, cv_int_uint8, cv_uint_uint32, cv_uint32_uint8, ix_string, cv_uint64_uint8, d]
      exact len_last (by omega) (by omega) _ _ ⟨by rw [e], rfl⟩
  have step16 : ∀ (y n : Nat), y < 4294967296 → n ≤ 32 → n + bl y = bl x → math_bits_Len64_p5 (fun r w' => r = .int .i64 (bl x : Nat) ∧ w' = w) (.int .u64 y) (.int .i64 n) w := by
    intro y n hy hn e
    unfold math_bits_Len64_p5 math_bits_Len64_p4
    by_cases h : 65536 ≤ y
    · have d : decide ((65536 : Int) ≤ (y : Int)) = true := by simp; omega
      have sh := shr_u64 y 16 (by omega)
      have hq : y / 2 ^ 16 < 65536 := by omega
      have := bl_shift (x := y) (j := 16) (by omega)
      have e2 : (n : Int) + 16 = ((n + 16 : Nat) : Int) := by omega
      simp (disch := omega) only [Stp, Same, stepR_value, stepR_skip, r_add, r_sub, r_mul, r_quo, r_rem, r_and, r_or, r_xor, r_andNot, r_shl, r_shr, r_eql, r_neq, r_lss, r_leq, r_gtr, r_geq, r_neg, r_cpl, r_not, r_pick, r_min, r_max, r_nil, x20, x21, x30, x31, x32, x40, x41, x42, x43, ldC_some, Result.ok.injEq, Next.value.injEq, true_and, and_true, w_i64, w_u64, w_i32, w_u32, w_u16, w_u8, Int.toNat_natCast, isB_tt, isB_tf, isB_ft, isB_ff, Gd_true, Gd_false, Gs_true, Gs_false, Cnd_true, Cnd_false, if_true, if_false, Bool.false_eq_true, Nat.zero_add, Option.isNone_some, Option.isNone_none, Bool.not_true, Bool.not_false, List.getElem?_cons_succ, List.getElem?_cons_zero, fa_normal_Counts_Part, ld_sl_int, ln_sl_int, fa_normal_Counts_Log, ld_int, fa_fse_Table_Entries, ld_sl_fse_Entry, ln_sl_fse_Entry, ia_sl_fse_Entry, fa_fse_Entry_Symbol, ld_uint8, ia_ar256_int, ia_sl_int, cv_uint8_int, fa_fse_Entry_Bits, fa_fse_Table_Log, fa_fse_Entry_Base, cv_uint16_int, cv_int_uint, bneq_bool, cv_uint64_int, bd_normal_Counts_0_1, bd_normal_Counts_, bd_fse_Table_, bd_fse_Table_0_1, bd_lightermanref07_T_, fa_lightermanref06_C_Log, bd_lightermanref07_T_0, fa_lightermanref07_T_L, ld_sl_lightermanref07_E, bd_lightermanref07_E_0, fa_lightermanref06_C_Part, ia_sl_lightermanref07_E, fa_lightermanref07_E_Symbol, fa_lightermanref07_E_Bits, fa_lightermanref07_E_Base, bd_lightermanref06_C_0_1, fa_lightermanref07_T_Log, ln_sl_lightermanref07_E, cv_int_uint64, bd_fse_Entry_0, bd_fse_Table_1, cv_int_uint8, cv_uint_uint32, cv_uint32_uint8, ix_string, cv_uint64_uint8, d, e2]
      rw [show (16 : Int).toNat = 16 from rfl, sh]
      exact step8 _ _ hq (by omega) (by rw [← e, this]; omega)
    · have d : decide ((65536 : Int) ≤ (y : Int)) = false := by simp; omega
      simp (disch := omega) only [Stp, Same, stepR_value, stepR_skip, r_add, r_sub, r_mul, r_quo, r_rem, r_and, r_or, r_xor, r_andNot, r_shl, r_shr, r_eql, r_neq, r_lss, r_leq, r_gtr, r_geq, r_neg, r_cpl, r_not, r_pick, r_min, r_max, r_nil, x20, x21, x30, x31, x32, x40, x41, x42, x43, ldC_some, Result.ok.injEq, Next.value.injEq, true_and, and_true, w_i64, w_u64, w_i32, w_u32, w_u16, w_u8, Int.toNat_natCast, isB_tt, isB_tf, isB_ft, isB_ff, Gd_true, Gd_false, Gs_true, Gs_false, Cnd_true, Cnd_false, if_true, if_false, Bool.false_eq_true, Nat.zero_add, Option.isNone_some, Option.isNone_none, Bool.not_true, Bool.not_false, List.getElem?_cons_succ, List.getElem?_cons_zero, fa_normal_Counts_Part, ld_sl_int, ln_sl_int, fa_normal_Counts_Log, ld_int, fa_fse_Table_Entries, ld_sl_fse_Entry, ln_sl_fse_Entry, ia_sl_fse_Entry, fa_fse_Entry_Symbol, ld_uint8, ia_ar256_int, ia_sl_int, cv_uint8_int, fa_fse_Entry_Bits, fa_fse_Table_Log, fa_fse_Entry_Base, cv_uint16_int, cv_int_uint, bneq_bool, cv_uint64_int, bd_normal_Counts_0_1, bd_normal_Counts_, bd_fse_Table_, bd_fse_Table_0_1, bd_lightermanref07_T_, fa_lightermanref06_C_Log, bd_lightermanref07_T_0, fa_lightermanref07_T_L, ld_sl_lightermanref07_E, bd_lightermanref07_E_0, fa_lightermanref06_C_Part, ia_sl_lightermanref07_E, fa_lightermanref07_E_Symbol, fa_lightermanref07_E_Bits, fa_lightermanref07_E_Base, bd_lightermanref06_C_0_1, fa_lightermanref07_T_Log, ln_sl_lightermanref07_E, cv_int_uint64, bd_fse_Entry_0, bd_fse_Table_1, cv_int_uint8, cv_uint_uint32, cv_uint32_uint8, ix_string, cv_uint64_uint8, d]
      exact step8 _ _ (by omega) (by omega) e
  by_cases h : 4294967296 ≤ x
  · have d : decide ((4294967296 : Int) ≤ (x : Int)) = true := by simp; omega
    have sh := shr_u64 x 32 (by omega)
    have hq : x / 2 ^ 32 < 4294967296 := by omega
    have := bl_shift (x := x) (j := 32) (by omega)
    simp (disch := omega) only [Stp, Same, stepR_value, stepR_skip, r_add, r_sub, r_mul, r_quo, r_rem, r_and, r_or, r_xor, r_andNot, r_shl, r_shr, r_eql, r_neq, r_lss, r_leq, r_gtr, r_geq, r_neg, r_cpl, r_not, r_pick, r_min, r_max, r_nil, x20, x21, x30, x31, x32, x40, x41, x42, x43, ldC_some, Result.ok.injEq, Next.value.injEq, true_and, and_true, w_i64, w_u64, w_i32, w_u32, w_u16, w_u8, Int.toNat_natCast, isB_tt, isB_tf, isB_ft, isB_ff, Gd_true, Gd_false, Gs_true, Gs_false, Cnd_true, Cnd_false, if_true, if_false, Bool.false_eq_true, Nat.zero_add, Option.isNone_some, Option.isNone_none, Bool.not_true, Bool.not_false, List.getElem?_cons_succ, List.getElem?_cons_zero, fa_normal_Counts_Part, ld_sl_int, ln_sl_int, fa_normal_Counts_Log, ld_int, fa_fse_Table_Entries, ld_sl_fse_Entry, ln_sl_fse_Entry, ia_sl_fse_Entry, fa_fse_Entry_Symbol, ld_uint8, ia_ar256_int, ia_sl_int, cv_uint8_int, fa_fse_Entry_Bits, fa_fse_Table_Log, fa_fse_Entry_Base, cv_uint16_int, cv_int_uint, bneq_bool, cv_uint64_int, bd_normal_Counts_0_1, bd_normal_Counts_, bd_fse_Table_, bd_fse_Table_0_1, bd_lightermanref07_T_, fa_lightermanref06_C_Log, bd_lightermanref07_T_0, fa_lightermanref07_T_L, ld_sl_lightermanref07_E, bd_lightermanref07_E_0, fa_lightermanref06_C_Part, ia_sl_lightermanref07_E, fa_lightermanref07_E_Symbol, fa_lightermanref07_E_Bits, fa_lightermanref07_E_Base, bd_lightermanref06_C_0_1, fa_lightermanref07_T_Log, ln_sl_lightermanref07_E, cv_int_uint64, bd_fse_Entry_0, bd_fse_Table_1, cv_int_uint8, cv_uint_uint32, cv_uint32_uint8, ix_string, cv_uint64_uint8, d]
    rw [show (32 : Int).toNat = 32 from rfl, sh]
    exact step16 _ 32 hq (by omega) (by rw [this]; omega)
  · have d : decide ((4294967296 : Int) ≤ (x : Int)) = false := by simp; omega
    simp (disch := omega) only [Stp, Same, stepR_value, stepR_skip, r_add, r_sub, r_mul, r_quo, r_rem, r_and, r_or, r_xor, r_andNot, r_shl, r_shr, r_eql, r_neq, r_lss, r_leq, r_gtr, r_geq, r_neg, r_cpl, r_not, r_pick, r_min, r_max, r_nil, x20, x21, x30, x31, x32, x40, x41, x42, x43, ldC_some, Result.ok.injEq, Next.value.injEq, true_and, and_true, w_i64, w_u64, w_i32, w_u32, w_u16, w_u8, Int.toNat_natCast, isB_tt, isB_tf, isB_ft, isB_ff, Gd_true, Gd_false, Gs_true, Gs_false, Cnd_true, Cnd_false, if_true, if_false, Bool.false_eq_true, Nat.zero_add, Option.isNone_some, Option.isNone_none, Bool.not_true, Bool.not_false, List.getElem?_cons_succ, List.getElem?_cons_zero, fa_normal_Counts_Part, ld_sl_int, ln_sl_int, fa_normal_Counts_Log, ld_int, fa_fse_Table_Entries, ld_sl_fse_Entry, ln_sl_fse_Entry, ia_sl_fse_Entry, fa_fse_Entry_Symbol, ld_uint8, ia_ar256_int, ia_sl_int, cv_uint8_int, fa_fse_Entry_Bits, fa_fse_Table_Log, fa_fse_Entry_Base, cv_uint16_int, cv_int_uint, bneq_bool, cv_uint64_int, bd_normal_Counts_0_1, bd_normal_Counts_, bd_fse_Table_, bd_fse_Table_0_1, bd_lightermanref07_T_, fa_lightermanref06_C_Log, bd_lightermanref07_T_0, fa_lightermanref07_T_L, ld_sl_lightermanref07_E, bd_lightermanref07_E_0, fa_lightermanref06_C_Part, ia_sl_lightermanref07_E, fa_lightermanref07_E_Symbol, fa_lightermanref07_E_Bits, fa_lightermanref07_E_Base, bd_lightermanref06_C_0_1, fa_lightermanref07_T_Log, ln_sl_lightermanref07_E, cv_int_uint64, bd_fse_Entry_0, bd_fse_Table_1, cv_int_uint8, cv_uint_uint32, cv_uint32_uint8, ix_string, cv_uint64_uint8, d]
    exact step16 _ 0 (by omega) (by omega) (by omega)

theorem len_c (x : Nat) (hx : x < 18446744073709551616) (w : World) : Does pg F_math_bits_Len #[.int .u64 x] w (fun r w' => r = .int .i64 (bl x : Nat) ∧ w' = w) := by
  refine math_bits_Len_does ?_
  simp (disch := omega) only [math_bits_Len_p1, math_bits_Len, Stp, Same, stepR_value, stepR_skip, r_add, r_sub, r_mul, r_quo, r_rem, r_and, r_or, r_xor, r_andNot, r_shl, r_shr, r_eql, r_neq, r_lss, r_leq, r_gtr, r_geq, r_neg, r_cpl, r_not, r_pick, r_min, r_max, r_nil, x20, x21, x30, x31, x32, x40, x41, x42, x43, ldC_some, Result.ok.injEq, Next.value.injEq, true_and, and_true, w_i64, w_u64, w_i32, w_u32, w_u16, w_u8, Int.toNat_natCast, isB_tt, isB_tf, isB_ft, isB_ff, Gd_true, Gd_false, Gs_true, Gs_false, Cnd_true, Cnd_false, if_true, if_false, Bool.false_eq_true, Nat.zero_add, Option.isNone_some, Option.isNone_none, Bool.not_true, Bool.not_false, List.getElem?_cons_succ, List.getElem?_cons_zero, fa_normal_Counts_Part, ld_sl_int, ln_sl_int, fa_normal_Counts_Log, ld_int, fa_fse_Table_Entries, ld_sl_fse_Entry, ln_sl_fse_Entry, ia_sl_fse_Entry, fa_fse_Entry_Symbol, ld_uint8, ia_ar256_int, ia_sl_int, cv_uint8_int, fa_fse_Entry_Bits, fa_fse_Table_Log, fa_fse_Entry_Base, cv_uint16_int, cv_int_uint, bneq_bool, cv_uint64_int, bd_normal_Counts_0_1, bd_normal_Counts_, bd_fse_Table_, bd_fse_Table_0_1, bd_lightermanref07_T_, fa_lightermanref06_C_Log, bd_lightermanref07_T_0, fa_lightermanref07_T_L, ld_sl_lightermanref07_E, bd_lightermanref07_E_0, fa_lightermanref06_C_Part, ia_sl_lightermanref07_E, fa_lightermanref07_E_Symbol, fa_lightermanref07_E_Bits, fa_lightermanref07_E_Base, bd_lightermanref06_C_0_1, fa_lightermanref07_T_Log, ln_sl_lightermanref07_E, cv_int_uint64, bd_fse_Entry_0, bd_fse_Table_1, cv_int_uint8, cv_uint_uint32, cv_uint32_uint8, ix_string, cv_uint64_uint8]
  exact len64_c x hx w
end Go.Proofs.Ytcbkdccobhkbpaa
