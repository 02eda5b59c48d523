/- Contracts: the reference's reading of numbers. -/
import Derived.Test.YtblljiohpcbieaaXxhA
namespace Go.Proofs.Ytblljiohpcbieaa
open Go Go.En
set_option maxRecDepth 4000
set_option linter.unusedSimpArgs false

theorem take_c (s : ByteArray) (n : Nat) (hn : n ≤ s.size) (w : World) :
    Does pg F_ref01_Take #[.agg #[.string s, .int .i64 0], .int .i64 (n : Int)] w
      (fun v w' => v = .tuple #[.agg #[.string (s.extract n s.size), .int .i64 0], .string (s.extract 0 n)] ∧ Ext w w' nob) := by
  refine ref01_Take_does ?_
  simp (disch := omega) only [ref01_Take, ref01_Take_p1, Stp, Same, stepR_value, stepR_skip, r_add, r_sub, r_mul, r_quo, r_rem, r_and, r_or, r_xor, r_andNot, r_shl, r_shr, r_eql, r_neq, r_lss, r_leq, r_gtr, r_geq, r_neg, r_cpl, r_not, r_pick, r_min, r_max, r_nil, x20, x21, x30, x31, x32, x40, x41, x42, x43, ldC_some, Result.ok.injEq, Next.value.injEq, true_and, and_true, w_i64, w_u64, w_i32, w_u32, w_u16, w_u8, Int.toNat_natCast, isB_tt, isB_tf, isB_ft, isB_ff, Gd_true, Gd_false, Cnd_true, Cnd_false, if_true, if_false, Bool.false_eq_true, Nat.zero_add, Option.isNone_some, Option.isNone_none, Bool.not_true, Bool.not_false, List.getElem?_cons_succ, List.getElem?_cons_zero, ln_sl_sl_uint8, ia_sl_sl_uint8, ld_sl_uint8, ln_sl_uint8, cv_uint16_int, cv_int_uint8, ia_sl_uint8, ln_sl_uint16, ia_sl_uint16, ld_uint16, sl_sl_uint8_lohi, sl_sl_uint8_hi, sl_sl_uint8_lo, cv_uint8_int, bd_ar4_uint64_0_1_2_3, bd_xxh_Hash_0, peql_p_xxh_Hash, fa_xxh_Hash_all, ld_uint64, cv_int_uint64, fa_xxh_Hash_kept, fa_xxh_Hash_n, ld_int, sl_ar32_uint8_lo, fa_xxh_Hash_v, ia_ar4_uint64, sl_ar32_uint8_lohi, sl_ar32_uint8_hi, ld_uint8, cv_uint8_uint64, ln_string, ix_string, cv_int_uint, bd_ar4_int_0_1_2_3, ix_ar4_int, ix_ar4_uint64, sl_string_lo, bd_lightermanref01_R_0, fa_lightermanref01_R_E, ld_api_Errno, fa_lightermanref01_R_B, ld_string, sl_string_hi]
  refine stp_box fun w1 o1 x1 s1 => ?_
  refine al_lightermanref01_R fun w2 o2 x2 s2 => ?_
  have o1 := o1.ext x2 (fun h => h)
  have d1 : ((0 : Int) != 0) = false := rfl
  have d2 : decide ((n : Int) < 0) = false := by simp
  have d3 : decide ((s.size : Int) < (n : Int)) = false := by simp; omega
  simp (disch := omega) only [Stp, Same, stepR_value, stepR_skip, r_add, r_sub, r_mul, r_quo, r_rem, r_and, r_or, r_xor, r_andNot, r_shl, r_shr, r_eql, r_neq, r_lss, r_leq, r_gtr, r_geq, r_neg, r_cpl, r_not, r_pick, r_min, r_max, r_nil, x20, x21, x30, x31, x32, x40, x41, x42, x43, ldC_some, Result.ok.injEq, Next.value.injEq, true_and, and_true, w_i64, w_u64, w_i32, w_u32, w_u16, w_u8, Int.toNat_natCast, isB_tt, isB_tf, isB_ft, isB_ff, Gd_true, Gd_false, Cnd_true, Cnd_false, if_true, if_false, Bool.false_eq_true, Nat.zero_add, Option.isNone_some, Option.isNone_none, Bool.not_true, Bool.not_false, List.getElem?_cons_succ, List.getElem?_cons_zero, ln_sl_sl_uint8, ia_sl_sl_uint8, ld_sl_uint8, ln_sl_uint8, cv_uint16_int, cv_int_uint8, ia_sl_uint8, ln_sl_uint16, ia_sl_uint16, ld_uint16, sl_sl_uint8_lohi, sl_sl_uint8_hi, sl_sl_uint8_lo, cv_uint8_int, bd_ar4_uint64_0_1_2_3, bd_xxh_Hash_0, peql_p_xxh_Hash, fa_xxh_Hash_all, ld_uint64, cv_int_uint64, fa_xxh_Hash_kept, fa_xxh_Hash_n, ld_int, sl_ar32_uint8_lo, fa_xxh_Hash_v, ia_ar4_uint64, sl_ar32_uint8_lohi, sl_ar32_uint8_hi, ld_uint8, cv_uint8_uint64, ln_string, ix_string, cv_int_uint, bd_ar4_int_0_1_2_3, ix_ar4_int, ix_ar4_uint64, sl_string_lo, bd_lightermanref01_R_0, fa_lightermanref01_R_E, ld_api_Errno, fa_lightermanref01_R_B, ld_string, sl_string_hi, o1.cell, Value.cells, d1, d2, d3]
  refine st_string o1 rfl (by simp [Value.cells]) fun w3 o1 x3 s3 => ?_
  have o2 := o2.ext x3 (by simp [s1])
  simp (disch := omega) only [Stp, Same, stepR_value, stepR_skip, r_add, r_sub, r_mul, r_quo, r_rem, r_and, r_or, r_xor, r_andNot, r_shl, r_shr, r_eql, r_neq, r_lss, r_leq, r_gtr, r_geq, r_neg, r_cpl, r_not, r_pick, r_min, r_max, r_nil, x20, x21, x30, x31, x32, x40, x41, x42, x43, ldC_some, Result.ok.injEq, Next.value.injEq, true_and, and_true, w_i64, w_u64, w_i32, w_u32, w_u16, w_u8, Int.toNat_natCast, isB_tt, isB_tf, isB_ft, isB_ff, Gd_true, Gd_false, Cnd_true, Cnd_false, if_true, if_false, Bool.false_eq_true, Nat.zero_add, Option.isNone_some, Option.isNone_none, Bool.not_true, Bool.not_false, List.getElem?_cons_succ, List.getElem?_cons_zero, ln_sl_sl_uint8, ia_sl_sl_uint8, ld_sl_uint8, ln_sl_uint8, cv_uint16_int, cv_int_uint8, ia_sl_uint8, ln_sl_uint16, ia_sl_uint16, ld_uint16, sl_sl_uint8_lohi, sl_sl_uint8_hi, sl_sl_uint8_lo, cv_uint8_int, bd_ar4_uint64_0_1_2_3, bd_xxh_Hash_0, peql_p_xxh_Hash, fa_xxh_Hash_all, ld_uint64, cv_int_uint64, fa_xxh_Hash_kept, fa_xxh_Hash_n, ld_int, sl_ar32_uint8_lo, fa_xxh_Hash_v, ia_ar4_uint64, sl_ar32_uint8_lohi, sl_ar32_uint8_hi, ld_uint8, cv_uint8_uint64, ln_string, ix_string, cv_int_uint, bd_ar4_int_0_1_2_3, ix_ar4_int, ix_ar4_uint64, sl_string_lo, bd_lightermanref01_R_0, fa_lightermanref01_R_E, ld_api_Errno, fa_lightermanref01_R_B, ld_string, sl_string_hi, lda_lightermanref01_R o1 (off := 0) (by simp [Value.cells])]
  refine sta_lightermanref01_R o2 rfl (by simp [one, Value.cells]) (by decide) fun w4 o2 x4 s4 => ?_
  refine ldr_lightermanref01_R o2 (by simp [setAll, Value.cells]) ⟨rfl, ?_⟩
  exact ((x1.seq x2).new x3 (by omega)).new x4 (by omega)

theorem num_step (l : List UInt8) (k : Nat) (hk : k < 8) (hl : k < l.length) :
    IntKind.u64.wrap (numLE (l.take k) + IntKind.u64.wrap ((l[k].toNat : Int) * IntKind.u64.wrap (256 ^ k))) = numLE (l.take (k + 1)) ∧ IntKind.u64.wrap (IntKind.u64.wrap (256 ^ k) * 256) = IntKind.u64.wrap (256 ^ (k + 1)) := by
  have hlen : (l.take k).length = k := by simp; omega
  have h0 := numLE_nonneg (l.take k)
  have h1 := numLE_lt (l.take k)
  rw [hlen] at h1
  have hc : l[k].toNat < 256 := UInt8.toNat_lt _
  have hp : ∀ k : Fin 8, (0 : Int) < 256 ^ k.val ∧ (256 : Int) ^ k.val * 256 ≤ 18446744073709551616 := by decide
  obtain ⟨p0, p1⟩ := hp ⟨k, hk⟩
  simp only at p0 p1
  have e : IntKind.u64.wrap (256 ^ k) = 256 ^ k := w_u64 (by omega) (by omega)
  rw [take_succ_get hl, numLE_snoc, hlen, e]
  have m0 : 0 ≤ (l[k].toNat : Int) * 256 ^ k := Int.mul_nonneg (by omega) (by omega)
  have m1 : ((l[k].toNat : Int) + 1) * 256 ^ k ≤ 256 * 256 ^ k := Int.mul_le_mul_of_nonneg_right (by omega) (by omega)
  rw [Int.add_mul, Int.one_mul, Int.mul_comm 256] at m1
  refine ⟨?_, by rw [Int.pow_succ]⟩
  have e2 : IntKind.u64.wrap ((l[k].toNat : Int) * 256 ^ k) = (l[k].toNat : Int) * 256 ^ k := w_u64 m0 (by omega)
  rw [e2]
  exact w_u64 (by omega) (by omega)

/-- A number of n bytes from place i on, 1 <= n <= 8, all there. -/
theorem numb_c (s : ByteArray) (n : Nat) (h1 : 1 ≤ n) (h8 : n ≤ 8) (hn : n ≤ s.size) (w : World) :
    Does pg F_ref01_Number #[.agg #[.string s, .int .i64 0], .int .i64 (n : Int)] w
      (fun v w' => v = .tuple #[.agg #[.string (s.extract n s.size), .int .i64 0], .int .u64 (numLE ((lst s).take n))] ∧ Ext w w' nob) := by
  refine ref01_Number_does ?_
  simp (disch := omega) only [ref01_Number, ref01_Number_p1, ref01_Number_p3, ref01_Number_p4, ref01_Number_p5, ref01_Number_p6, ref01_Number_p7, ref01_Number_p8, ref01_Number_p9, ref01_Number_p10, ref01_Number_p11, Stp, Same, stepR_value, stepR_skip, r_add, r_sub, r_mul, r_quo, r_rem, r_and, r_or, r_xor, r_andNot, r_shl, r_shr, r_eql, r_neq, r_lss, r_leq, r_gtr, r_geq, r_neg, r_cpl, r_not, r_pick, r_min, r_max, r_nil, x20, x21, x30, x31, x32, x40, x41, x42, x43, ldC_some, Result.ok.injEq, Next.value.injEq, true_and, and_true, w_i64, w_u64, w_i32, w_u32, w_u16, w_u8, Int.toNat_natCast, isB_tt, isB_tf, isB_ft, isB_ff, Gd_true, Gd_false, Cnd_true, Cnd_false, if_true, if_false, Bool.false_eq_true, Nat.zero_add, Option.isNone_some, Option.isNone_none, Bool.not_true, Bool.not_false, List.getElem?_cons_succ, List.getElem?_cons_zero, ln_sl_sl_uint8, ia_sl_sl_uint8, ld_sl_uint8, ln_sl_uint8, cv_uint16_int, cv_int_uint8, ia_sl_uint8, ln_sl_uint16, ia_sl_uint16, ld_uint16, sl_sl_uint8_lohi, sl_sl_uint8_hi, sl_sl_uint8_lo, cv_uint8_int, bd_ar4_uint64_0_1_2_3, bd_xxh_Hash_0, peql_p_xxh_Hash, fa_xxh_Hash_all, ld_uint64, cv_int_uint64, fa_xxh_Hash_kept, fa_xxh_Hash_n, ld_int, sl_ar32_uint8_lo, fa_xxh_Hash_v, ia_ar4_uint64, sl_ar32_uint8_lohi, sl_ar32_uint8_hi, ld_uint8, cv_uint8_uint64, ln_string, ix_string, cv_int_uint, bd_ar4_int_0_1_2_3, ix_ar4_int, ix_ar4_uint64, sl_string_lo, bd_lightermanref01_R_0, fa_lightermanref01_R_E, ld_api_Errno, fa_lightermanref01_R_B, ld_string, sl_string_hi]
  refine stp_box fun w1 o1 x1 s1 => ?_
  refine al_lightermanref01_R fun w2 o2 x2 s2 => ?_
  have o1 := o1.ext x2 (fun h => h)
  have d1 : ((0 : Int) == 0) = true := rfl
  have d2 : decide ((n : Int) < 1) = false := by simp; omega
  have d3 : decide ((8 : Int) < (n : Int)) = false := by simp; omega
  simp (disch := omega) only [Stp, Same, stepR_value, stepR_skip, r_add, r_sub, r_mul, r_quo, r_rem, r_and, r_or, r_xor, r_andNot, r_shl, r_shr, r_eql, r_neq, r_lss, r_leq, r_gtr, r_geq, r_neg, r_cpl, r_not, r_pick, r_min, r_max, r_nil, x20, x21, x30, x31, x32, x40, x41, x42, x43, ldC_some, Result.ok.injEq, Next.value.injEq, true_and, and_true, w_i64, w_u64, w_i32, w_u32, w_u16, w_u8, Int.toNat_natCast, isB_tt, isB_tf, isB_ft, isB_ff, Gd_true, Gd_false, Cnd_true, Cnd_false, if_true, if_false, Bool.false_eq_true, Nat.zero_add, Option.isNone_some, Option.isNone_none, Bool.not_true, Bool.not_false, List.getElem?_cons_succ, List.getElem?_cons_zero, ln_sl_sl_uint8, ia_sl_sl_uint8, ld_sl_uint8, ln_sl_uint8, cv_uint16_int, cv_int_uint8, ia_sl_uint8, ln_sl_uint16, ia_sl_uint16, ld_uint16, sl_sl_uint8_lohi, sl_sl_uint8_hi, sl_sl_uint8_lo, cv_uint8_int, bd_ar4_uint64_0_1_2_3, bd_xxh_Hash_0, peql_p_xxh_Hash, fa_xxh_Hash_all, ld_uint64, cv_int_uint64, fa_xxh_Hash_kept, fa_xxh_Hash_n, ld_int, sl_ar32_uint8_lo, fa_xxh_Hash_v, ia_ar4_uint64, sl_ar32_uint8_lohi, sl_ar32_uint8_hi, ld_uint8, cv_uint8_uint64, ln_string, ix_string, cv_int_uint, bd_ar4_int_0_1_2_3, ix_ar4_int, ix_ar4_uint64, sl_string_lo, bd_lightermanref01_R_0, fa_lightermanref01_R_E, ld_api_Errno, fa_lightermanref01_R_B, ld_string, sl_string_hi, o1.cell, Value.cells, d1, d2, d3]
  have e1 : pg = pg := rfl
  simp (disch := omega) only [lda_lightermanref01_R o1 (off := 0) (by simp [Value.cells]), stepR_value]
  refine (take_c s n hn w2).mono ?_
  rintro v w3 ⟨rfl, x3⟩
  have o1 := o1.ext x3 (fun h => h)
  have o2 := o2.ext x3 (fun h => h)
  have z3 := x3.size
  simp (disch := omega) only [Stp, Same, stepR_value, stepR_skip, r_add, r_sub, r_mul, r_quo, r_rem, r_and, r_or, r_xor, r_andNot, r_shl, r_shr, r_eql, r_neq, r_lss, r_leq, r_gtr, r_geq, r_neg, r_cpl, r_not, r_pick, r_min, r_max, r_nil, x20, x21, x30, x31, x32, x40, x41, x42, x43, ldC_some, Result.ok.injEq, Next.value.injEq, true_and, and_true, w_i64, w_u64, w_i32, w_u32, w_u16, w_u8, Int.toNat_natCast, isB_tt, isB_tf, isB_ft, isB_ff, Gd_true, Gd_false, Cnd_true, Cnd_false, if_true, if_false, Bool.false_eq_true, Nat.zero_add, Option.isNone_some, Option.isNone_none, Bool.not_true, Bool.not_false, List.getElem?_cons_succ, List.getElem?_cons_zero, ln_sl_sl_uint8, ia_sl_sl_uint8, ld_sl_uint8, ln_sl_uint8, cv_uint16_int, cv_int_uint8, ia_sl_uint8, ln_sl_uint16, ia_sl_uint16, ld_uint16, sl_sl_uint8_lohi, sl_sl_uint8_hi, sl_sl_uint8_lo, cv_uint8_int, bd_ar4_uint64_0_1_2_3, bd_xxh_Hash_0, peql_p_xxh_Hash, fa_xxh_Hash_all, ld_uint64, cv_int_uint64, fa_xxh_Hash_kept, fa_xxh_Hash_n, ld_int, sl_ar32_uint8_lo, fa_xxh_Hash_v, ia_ar4_uint64, sl_ar32_uint8_lohi, sl_ar32_uint8_hi, ld_uint8, cv_uint8_uint64, ln_string, ix_string, cv_int_uint, bd_ar4_int_0_1_2_3, ix_ar4_int, ix_ar4_uint64, sl_string_lo, bd_lightermanref01_R_0, fa_lightermanref01_R_E, ld_api_Errno, fa_lightermanref01_R_B, ld_string, sl_string_hi]
  refine sta_lightermanref01_R o1 rfl (by simp [one, Value.cells]) (by simp [Value.cells]) fun w4 o1 x4 s4 => ?_
  have o2 := o2.ext x4 (by omega)
  have x := ((x1.seq x2).seq x3).new x4 (by omega)
  have hsz : (s.extract 0 n).size = n := by rw [size_extract' _ _ _ hn, Nat.sub_zero]
  obtain ⟨l, hl0⟩ : ∃ l, l = (lst s).take n := ⟨_, rfl⟩
  have hl : l.length = n := by rw [hl0, List.length_take, lst_length]; omega
  have hp : lst (s.extract 0 n) = l := by rw [lst_extract, List.drop_zero, Nat.sub_zero, hl0]
  have hget : ∀ k (h : k < (s.extract 0 n).size) (h1 : k < l.length), (s.extract 0 n)[k]'h = l[k]'h1 := fun k h h' => by
    rw [lst_get]; simp only [hp]
  rw [← hl0]
  clear hl0
  generalize s.extract 0 n = sx at hsz hp hget ⊢
  refine LoopD.rule (fun m t w' => ∃ k : Nat, m = n - k ∧ k ≤ n ∧ t = (.int .u64 (numLE (l.take k)), .int .u64 (IntKind.u64.wrap (256 ^ k)), .int .i64 (k : Int)) ∧ w' = w4) n ⟨0, rfl, Nat.zero_le _, rfl, rfl⟩ ?_
  rintro m t w' ⟨k, rfl, hk, rfl, rfl⟩
  by_cases hlt : k < n
  · have hd : decide ((k : Int) < (sx.size : Int)) = true := by rw [hsz]; simpa using hlt
    have hk' : k < sx.size := by omega
    have hb : (l[k]'(by omega)).toNat < 256 := UInt8.toNat_lt _
    simp (disch := omega) only [ref01_Number_p2, Stp, Same, stepR_value, stepR_skip, r_add, r_sub, r_mul, r_quo, r_rem, r_and, r_or, r_xor, r_andNot, r_shl, r_shr, r_eql, r_neq, r_lss, r_leq, r_gtr, r_geq, r_neg, r_cpl, r_not, r_pick, r_min, r_max, r_nil, x20, x21, x30, x31, x32, x40, x41, x42, x43, ldC_some, Result.ok.injEq, Next.value.injEq, true_and, and_true, w_i64, w_u64, w_i32, w_u32, w_u16, w_u8, Int.toNat_natCast, isB_tt, isB_tf, isB_ft, isB_ff, Gd_true, Gd_false, Cnd_true, Cnd_false, if_true, if_false, Bool.false_eq_true, Nat.zero_add, Option.isNone_some, Option.isNone_none, Bool.not_true, Bool.not_false, List.getElem?_cons_succ, List.getElem?_cons_zero, ln_sl_sl_uint8, ia_sl_sl_uint8, ld_sl_uint8, ln_sl_uint8, cv_uint16_int, cv_int_uint8, ia_sl_uint8, ln_sl_uint16, ia_sl_uint16, ld_uint16, sl_sl_uint8_lohi, sl_sl_uint8_hi, sl_sl_uint8_lo, cv_uint8_int, bd_ar4_uint64_0_1_2_3, bd_xxh_Hash_0, peql_p_xxh_Hash, fa_xxh_Hash_all, ld_uint64, cv_int_uint64, fa_xxh_Hash_kept, fa_xxh_Hash_n, ld_int, sl_ar32_uint8_lo, fa_xxh_Hash_v, ia_ar4_uint64, sl_ar32_uint8_lohi, sl_ar32_uint8_hi, ld_uint8, cv_uint8_uint64, ln_string, ix_string, cv_int_uint, bd_ar4_int_0_1_2_3, ix_ar4_int, ix_ar4_uint64, sl_string_lo, bd_lightermanref01_R_0, fa_lightermanref01_R_E, ld_api_Errno, fa_lightermanref01_R_B, ld_string, sl_string_hi, hd, hget k hk' (by omega)]
    refine ⟨n - (k + 1), by omega, k + 1, rfl, by omega, ?_⟩
    obtain ⟨e1, e2⟩ := num_step l k (by omega) (by omega)
    rw [e1, e2]; rfl
  · have hd : decide ((k : Int) < (sx.size : Int)) = false := by rw [hsz]; simpa using hlt
    simp (disch := omega) only [ref01_Number_p2, Stp, Same, stepR_value, stepR_skip, r_add, r_sub, r_mul, r_quo, r_rem, r_and, r_or, r_xor, r_andNot, r_shl, r_shr, r_eql, r_neq, r_lss, r_leq, r_gtr, r_geq, r_neg, r_cpl, r_not, r_pick, r_min, r_max, r_nil, x20, x21, x30, x31, x32, x40, x41, x42, x43, ldC_some, Result.ok.injEq, Next.value.injEq, true_and, and_true, w_i64, w_u64, w_i32, w_u32, w_u16, w_u8, Int.toNat_natCast, isB_tt, isB_tf, isB_ft, isB_ff, Gd_true, Gd_false, Cnd_true, Cnd_false, if_true, if_false, Bool.false_eq_true, Nat.zero_add, Option.isNone_some, Option.isNone_none, Bool.not_true, Bool.not_false, List.getElem?_cons_succ, List.getElem?_cons_zero, ln_sl_sl_uint8, ia_sl_sl_uint8, ld_sl_uint8, ln_sl_uint8, cv_uint16_int, cv_int_uint8, ia_sl_uint8, ln_sl_uint16, ia_sl_uint16, ld_uint16, sl_sl_uint8_lohi, sl_sl_uint8_hi, sl_sl_uint8_lo, cv_uint8_int, bd_ar4_uint64_0_1_2_3, bd_xxh_Hash_0, peql_p_xxh_Hash, fa_xxh_Hash_all, ld_uint64, cv_int_uint64, fa_xxh_Hash_kept, fa_xxh_Hash_n, ld_int, sl_ar32_uint8_lo, fa_xxh_Hash_v, ia_ar4_uint64, sl_ar32_uint8_lohi, sl_ar32_uint8_hi, ld_uint8, cv_uint8_uint64, ln_string, ix_string, cv_int_uint, bd_ar4_int_0_1_2_3, ix_ar4_int, ix_ar4_uint64, sl_string_lo, bd_lightermanref01_R_0, fa_lightermanref01_R_E, ld_api_Errno, fa_lightermanref01_R_B, ld_string, sl_string_hi, hd, lda_lightermanref01_R o1 (off := 0) (by simp [Value.cells, setAll])]
    refine sta_lightermanref01_R o2 rfl (by simp [one, Value.cells, setAll]) (by decide) fun w5 o2 x5 s5 => ?_
    refine ldr_lightermanref01_R o2 (by simp [setAll, Value.cells]) ⟨?_, x.new x5 (by omega)⟩
    have e : l.take k = l := List.take_of_length_le (by omega)
    rw [e]
    rfl

theorem at_c (s : ByteArray) (i n : Nat) (h1 : 1 ≤ n) (h8 : n ≤ 8) (hn : i + n ≤ s.size) (w : World) :
    Does pg F_ref03_at #[.string s, .int .i64 (i : Int), .int .i64 (n : Int)] w (fun v w' => v = .int .u64 (numLE (((lst s).drop i).take n)) ∧ Ext w w' nob) := by
  refine ref03_at_does ?_
  simp (disch := omega) only [ref03_at, ref03_at_p1, Stp, Same, stepR_value, stepR_skip, r_add, r_sub, r_mul, r_quo, r_rem, r_and, r_or, r_xor, r_andNot, r_shl, r_shr, r_eql, r_neq, r_lss, r_leq, r_gtr, r_geq, r_neg, r_cpl, r_not, r_pick, r_min, r_max, r_nil, x20, x21, x30, x31, x32, x40, x41, x42, x43, ldC_some, Result.ok.injEq, Next.value.injEq, true_and, and_true, w_i64, w_u64, w_i32, w_u32, w_u16, w_u8, Int.toNat_natCast, isB_tt, isB_tf, isB_ft, isB_ff, Gd_true, Gd_false, Cnd_true, Cnd_false, if_true, if_false, Bool.false_eq_true, Nat.zero_add, Option.isNone_some, Option.isNone_none, Bool.not_true, Bool.not_false, List.getElem?_cons_succ, List.getElem?_cons_zero, ln_sl_sl_uint8, ia_sl_sl_uint8, ld_sl_uint8, ln_sl_uint8, cv_uint16_int, cv_int_uint8, ia_sl_uint8, ln_sl_uint16, ia_sl_uint16, ld_uint16, sl_sl_uint8_lohi, sl_sl_uint8_hi, sl_sl_uint8_lo, cv_uint8_int, bd_ar4_uint64_0_1_2_3, bd_xxh_Hash_0, peql_p_xxh_Hash, fa_xxh_Hash_all, ld_uint64, cv_int_uint64, fa_xxh_Hash_kept, fa_xxh_Hash_n, ld_int, sl_ar32_uint8_lo, fa_xxh_Hash_v, ia_ar4_uint64, sl_ar32_uint8_lohi, sl_ar32_uint8_hi, ld_uint8, cv_uint8_uint64, ln_string, ix_string, cv_int_uint, bd_ar4_int_0_1_2_3, ix_ar4_int, ix_ar4_uint64, sl_string_lo, bd_lightermanref01_R_0, fa_lightermanref01_R_E, ld_api_Errno, fa_lightermanref01_R_B, ld_string, sl_string_hi]
  have hsz : (s.extract i s.size).size = s.size - i := size_extract' _ _ _ (Nat.le_refl _)
  refine (numb_c _ n h1 h8 (by omega) w).mono ?_
  rintro v w1 ⟨rfl, x1⟩
  simp (disch := omega) only [Stp, Same, stepR_value, stepR_skip, r_add, r_sub, r_mul, r_quo, r_rem, r_and, r_or, r_xor, r_andNot, r_shl, r_shr, r_eql, r_neq, r_lss, r_leq, r_gtr, r_geq, r_neg, r_cpl, r_not, r_pick, r_min, r_max, r_nil, x20, x21, x30, x31, x32, x40, x41, x42, x43, ldC_some, Result.ok.injEq, Next.value.injEq, true_and, and_true, w_i64, w_u64, w_i32, w_u32, w_u16, w_u8, Int.toNat_natCast, isB_tt, isB_tf, isB_ft, isB_ff, Gd_true, Gd_false, Cnd_true, Cnd_false, if_true, if_false, Bool.false_eq_true, Nat.zero_add, Option.isNone_some, Option.isNone_none, Bool.not_true, Bool.not_false, List.getElem?_cons_succ, List.getElem?_cons_zero, ln_sl_sl_uint8, ia_sl_sl_uint8, ld_sl_uint8, ln_sl_uint8, cv_uint16_int, cv_int_uint8, ia_sl_uint8, ln_sl_uint16, ia_sl_uint16, ld_uint16, sl_sl_uint8_lohi, sl_sl_uint8_hi, sl_sl_uint8_lo, cv_uint8_int, bd_ar4_uint64_0_1_2_3, bd_xxh_Hash_0, peql_p_xxh_Hash, fa_xxh_Hash_all, ld_uint64, cv_int_uint64, fa_xxh_Hash_kept, fa_xxh_Hash_n, ld_int, sl_ar32_uint8_lo, fa_xxh_Hash_v, ia_ar4_uint64, sl_ar32_uint8_lohi, sl_ar32_uint8_hi, ld_uint8, cv_uint8_uint64, ln_string, ix_string, cv_int_uint, bd_ar4_int_0_1_2_3, ix_ar4_int, ix_ar4_uint64, sl_string_lo, bd_lightermanref01_R_0, fa_lightermanref01_R_E, ld_api_Errno, fa_lightermanref01_R_B, ld_string, sl_string_hi]
  refine al_lightermanref01_R fun w2 o2 x2 s2 => ?_
  refine sta_lightermanref01_R o2 rfl (by simp [one]) (by decide) fun w3 o3 x3 s3 => ?_
  refine ⟨?_, (x1.seq x2).new x3 x1.size⟩
  rw [lst_extract]
  congr 2
  rw [List.take_take]
  congr 1
  omega

end Go.Proofs.Ytblljiohpcbieaa
