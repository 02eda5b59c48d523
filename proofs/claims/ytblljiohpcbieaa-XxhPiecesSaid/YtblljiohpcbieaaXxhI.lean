/- The laws: XxhSums. -/
import Derived.Test.YtblljiohpcbieaaXxhH
namespace Go.Proofs.Ytblljiohpcbieaa
open Go Go.En
set_option maxRecDepth 4000
set_option linter.unusedSimpArgs false

/-- v is a slice of slices of bytes -/
def Rws (w : World) (v : Value) (ls : List (List UInt8)) : Prop := ∃ vs : List Value, Sl w v vs ∧ vs.length = ls.length ∧ ∀ i (h : i < ls.length) (h' : i < vs.length), Bs w vs[i] ls[i]

theorem not_inB_new {w : World} {v : Value} {l : List Value} (h : Sl w v l) {b : Nat} (hb : w.heap.size ≤ b) : ¬ inB v (fun x => x = b) := by
  intro hi
  refine h.old ?_
  unfold inB at *
  split at hi
  · omega
  · exact hi
theorem not_inB_nob (v : Value) : ¬ inB v nob := by unfold inB nob; split <;> simp

theorem take_flat (ls : List (List UInt8)) (i : Nat) (h : i < ls.length) : (ls.take (i + 1)).flatten = (ls.take i).flatten ++ ls[i] := by
  rw [take_succ_get h, List.flatten_append]; simp

theorem sums_c (v : Value) (ls : List (List UInt8)) (hls : ls.length ≤ 9223372036854775807) (hl : ∀ l ∈ ls, l.length ≤ 9223372036854775807) (w : World) (hv : Rws w v ls) :
    Does pg F_law03_XxhSums #[v] w (fun r w' => r = .bool true ∧ Ext w w' nob) := by
  refine law03_XxhSums_does ?_
  obtain ⟨vs, hsl, hvl, hrow⟩ := hv
  simp (disch := omega) only [law03_XxhSums, law03_XxhSums_p1, law03_XxhSums_p3, law03_XxhSums_p4, law03_XxhSums_p5, law03_XxhSums_p6, law03_XxhSums_p7, law03_XxhSums_p8, law03_XxhSums_p9, Stp, Same, stepR_value, stepR_skip, r_add, r_sub, r_mul, r_quo, r_rem, r_and, r_or, r_xor, r_andNot, r_shl, r_shr, r_eql, r_neq, r_lss, r_leq, r_gtr, r_geq, r_neg, r_cpl, r_not, r_pick, r_min, r_max, r_nil, x20, x21, x30, x31, x32, x40, x41, x42, x43, ldC_some, Result.ok.injEq, Next.value.injEq, true_and, and_true, w_i64, w_u64, w_i32, w_u32, w_u16, w_u8, Int.toNat_natCast, isB_tt, isB_tf, isB_ft, isB_ff, Gd_true, Gd_false, Cnd_true, Cnd_false, if_true, if_false, Bool.false_eq_true, Nat.zero_add, Option.isNone_some, Option.isNone_none, Bool.not_true, Bool.not_false, List.getElem?_cons_succ, List.getElem?_cons_zero, ln_sl_sl_uint8, ia_sl_sl_uint8, ld_sl_uint8, ln_sl_uint8, cv_uint16_int, cv_int_uint8, ia_sl_uint8, ln_sl_uint16, ia_sl_uint16, ld_uint16, sl_sl_uint8_lohi, sl_sl_uint8_hi, sl_sl_uint8_lo, cv_uint8_int, bd_ar4_uint64_0_1_2_3, bd_xxh_Hash_0, peql_p_xxh_Hash, fa_xxh_Hash_all, ld_uint64, cv_int_uint64, fa_xxh_Hash_kept, fa_xxh_Hash_n, ld_int, sl_ar32_uint8_lo, fa_xxh_Hash_v, ia_ar4_uint64, sl_ar32_uint8_lohi, sl_ar32_uint8_hi, ld_uint8, cv_uint8_uint64, ln_string, ix_string, cv_int_uint, bd_ar4_int_0_1_2_3, ix_ar4_int, ix_ar4_uint64, sl_string_lo, bd_lightermanref01_R_0, fa_lightermanref01_R_E, ld_api_Errno, fa_lightermanref01_R_B, ld_string, sl_string_hi]
  refine (awake_c w).mono ?_
  rintro r w0 ⟨rfl, x0⟩
  have hsl' := hsl
  obtain ⟨a, n, cp, rfl, hn, hcp, hcell⟩ := hsl'
  by_cases h20 : 20 < n
  · have hd : decide ((n : Int) > 20) = true := by simp; omega
    simp (disch := omega) only [Stp, Same, stepR_value, stepR_skip, r_add, r_sub, r_mul, r_quo, r_rem, r_and, r_or, r_xor, r_andNot, r_shl, r_shr, r_eql, r_neq, r_lss, r_leq, r_gtr, r_geq, r_neg, r_cpl, r_not, r_pick, r_min, r_max, r_nil, x20, x21, x30, x31, x32, x40, x41, x42, x43, ldC_some, Result.ok.injEq, Next.value.injEq, true_and, and_true, w_i64, w_u64, w_i32, w_u32, w_u16, w_u8, Int.toNat_natCast, isB_tt, isB_tf, isB_ft, isB_ff, Gd_true, Gd_false, Cnd_true, Cnd_false, if_true, if_false, Bool.false_eq_true, Nat.zero_add, Option.isNone_some, Option.isNone_none, Bool.not_true, Bool.not_false, List.getElem?_cons_succ, List.getElem?_cons_zero, ln_sl_sl_uint8, ia_sl_sl_uint8, ld_sl_uint8, ln_sl_uint8, cv_uint16_int, cv_int_uint8, ia_sl_uint8, ln_sl_uint16, ia_sl_uint16, ld_uint16, sl_sl_uint8_lohi, sl_sl_uint8_hi, sl_sl_uint8_lo, cv_uint8_int, bd_ar4_uint64_0_1_2_3, bd_xxh_Hash_0, peql_p_xxh_Hash, fa_xxh_Hash_all, ld_uint64, cv_int_uint64, fa_xxh_Hash_kept, fa_xxh_Hash_n, ld_int, sl_ar32_uint8_lo, fa_xxh_Hash_v, ia_ar4_uint64, sl_ar32_uint8_lohi, sl_ar32_uint8_hi, ld_uint8, cv_uint8_uint64, ln_string, ix_string, cv_int_uint, bd_ar4_int_0_1_2_3, ix_ar4_int, ix_ar4_uint64, sl_string_lo, bd_lightermanref01_R_0, fa_lightermanref01_R_E, ld_api_Errno, fa_lightermanref01_R_B, ld_string, sl_string_hi, hd]
    exact x0
  have hd : decide ((n : Int) > 20) = false := by simp; omega
  simp (disch := omega) only [Stp, Same, stepR_value, stepR_skip, r_add, r_sub, r_mul, r_quo, r_rem, r_and, r_or, r_xor, r_andNot, r_shl, r_shr, r_eql, r_neq, r_lss, r_leq, r_gtr, r_geq, r_neg, r_cpl, r_not, r_pick, r_min, r_max, r_nil, x20, x21, x30, x31, x32, x40, x41, x42, x43, ldC_some, Result.ok.injEq, Next.value.injEq, true_and, and_true, w_i64, w_u64, w_i32, w_u32, w_u16, w_u8, Int.toNat_natCast, isB_tt, isB_tf, isB_ft, isB_ff, Gd_true, Gd_false, Cnd_true, Cnd_false, if_true, if_false, Bool.false_eq_true, Nat.zero_add, Option.isNone_some, Option.isNone_none, Bool.not_true, Bool.not_false, List.getElem?_cons_succ, List.getElem?_cons_zero, ln_sl_sl_uint8, ia_sl_sl_uint8, ld_sl_uint8, ln_sl_uint8, cv_uint16_int, cv_int_uint8, ia_sl_uint8, ln_sl_uint16, ia_sl_uint16, ld_uint16, sl_sl_uint8_lohi, sl_sl_uint8_hi, sl_sl_uint8_lo, cv_uint8_int, bd_ar4_uint64_0_1_2_3, bd_xxh_Hash_0, peql_p_xxh_Hash, fa_xxh_Hash_all, ld_uint64, cv_int_uint64, fa_xxh_Hash_kept, fa_xxh_Hash_n, ld_int, sl_ar32_uint8_lo, fa_xxh_Hash_v, ia_ar4_uint64, sl_ar32_uint8_lohi, sl_ar32_uint8_hi, ld_uint8, cv_uint8_uint64, ln_string, ix_string, cv_int_uint, bd_ar4_int_0_1_2_3, ix_ar4_int, ix_ar4_uint64, sl_string_lo, bd_lightermanref01_R_0, fa_lightermanref01_R_E, ld_api_Errno, fa_lightermanref01_R_B, ld_string, sl_string_hi, hd]
  refine (new_c w0).mono ?_
  rintro r w1 ⟨rfl, h1, x1⟩
  have hwb : w.heap.size ≤ w0.heap.size := x0.size
  generalize w0.heap.size = b at *
  -- what was there stays
  have keep : ∀ w', Ext w w' nob → Sl w' (.slice a n cp) vs ∧ ∀ i (h : i < ls.length) (h' : i < vs.length), Bs w' vs[i] ls[i] := fun w' x =>
    ⟨hsl.ext x (not_inB_nob _), fun i h h' => (hrow i h h').ext x (not_inB_nob _)⟩
  refine LoopD.rule (fun k t w' => ∃ (i : Nat) (s : ByteArray), i ≤ n ∧ k = n - i ∧ t = (.string s, .int .i64 (i : Int)) ∧ lst s = (ls.take i).flatten ∧ s.size ≤ 500 * i ∧ HashAt w' b (lst s) ∧ Ext w w' nob) n
    ⟨0, ⟨#[]⟩, by omega, rfl, rfl, rfl, by decide, h1, x0.seq x1⟩ ?_
  rintro k t w2 ⟨i, s, hi, rfl, rfl, hs, hsz, h2, x2⟩
  by_cases hlt : i < n
  · have hd : decide ((i : Int) < (n : Int)) = true := by simpa using hlt
    obtain ⟨sl2, row2⟩ := keep w2 x2
    obtain ⟨a', n', cp', e, hn', hcp', hcell'⟩ := sl2
    cases e
    obtain ⟨b', o', rfl, hc2⟩ := hcell' (by omega)
    have hc := hc2 i (by omega)
    rw [List.getElem?_eq_getElem (by omega)] at hc
    obtain ⟨u, hu⟩ : ∃ u, u = vs[i]'(by omega) := ⟨_, rfl⟩
    obtain ⟨l, hl0⟩ : ∃ l, l = ls[i]'(by omega) := ⟨_, rfl⟩
    have hll := hl l (by rw [hl0]; exact List.getElem_mem _)
    have hbs := row2 i (by omega) (by omega)
    rw [← hu, ← hl0] at hbs
    rw [← hu] at hc
    have hbs' := hbs
    obtain ⟨a3, n3, c3, rfl, hn3, hc3, -⟩ := hbs'
    rw [List.length_map] at hn3
    by_cases h500 : 500 < n3
    · have hd2 : decide ((n3 : Int) > 500) = true := by simp; omega
      simp (disch := omega) only [law03_XxhSums_p2, Stp, Same, stepR_value, stepR_skip, r_add, r_sub, r_mul, r_quo, r_rem, r_and, r_or, r_xor, r_andNot, r_shl, r_shr, r_eql, r_neq, r_lss, r_leq, r_gtr, r_geq, r_neg, r_cpl, r_not, r_pick, r_min, r_max, r_nil, x20, x21, x30, x31, x32, x40, x41, x42, x43, ldC_some, Result.ok.injEq, Next.value.injEq, true_and, and_true, w_i64, w_u64, w_i32, w_u32, w_u16, w_u8, Int.toNat_natCast, isB_tt, isB_tf, isB_ft, isB_ff, Gd_true, Gd_false, Cnd_true, Cnd_false, if_true, if_false, Bool.false_eq_true, Nat.zero_add, Option.isNone_some, Option.isNone_none, Bool.not_true, Bool.not_false, List.getElem?_cons_succ, List.getElem?_cons_zero, ln_sl_sl_uint8, ia_sl_sl_uint8, ld_sl_uint8, ln_sl_uint8, cv_uint16_int, cv_int_uint8, ia_sl_uint8, ln_sl_uint16, ia_sl_uint16, ld_uint16, sl_sl_uint8_lohi, sl_sl_uint8_hi, sl_sl_uint8_lo, cv_uint8_int, bd_ar4_uint64_0_1_2_3, bd_xxh_Hash_0, peql_p_xxh_Hash, fa_xxh_Hash_all, ld_uint64, cv_int_uint64, fa_xxh_Hash_kept, fa_xxh_Hash_n, ld_int, sl_ar32_uint8_lo, fa_xxh_Hash_v, ia_ar4_uint64, sl_ar32_uint8_lohi, sl_ar32_uint8_hi, ld_uint8, cv_uint8_uint64, ln_string, ix_string, cv_int_uint, bd_ar4_int_0_1_2_3, ix_ar4_int, ix_ar4_uint64, sl_string_lo, bd_lightermanref01_R_0, fa_lightermanref01_R_E, ld_api_Errno, fa_lightermanref01_R_B, ld_string, sl_string_hi, hd, hc, hd2]
      exact x2
    have hd2 : decide ((n3 : Int) > 500) = false := by simp; omega
    simp (disch := omega) only [law03_XxhSums_p2, Stp, Same, stepR_value, stepR_skip, r_add, r_sub, r_mul, r_quo, r_rem, r_and, r_or, r_xor, r_andNot, r_shl, r_shr, r_eql, r_neq, r_lss, r_leq, r_gtr, r_geq, r_neg, r_cpl, r_not, r_pick, r_min, r_max, r_nil, x20, x21, x30, x31, x32, x40, x41, x42, x43, ldC_some, Result.ok.injEq, Next.value.injEq, true_and, and_true, w_i64, w_u64, w_i32, w_u32, w_u16, w_u8, Int.toNat_natCast, isB_tt, isB_tf, isB_ft, isB_ff, Gd_true, Gd_false, Cnd_true, Cnd_false, if_true, if_false, Bool.false_eq_true, Nat.zero_add, Option.isNone_some, Option.isNone_none, Bool.not_true, Bool.not_false, List.getElem?_cons_succ, List.getElem?_cons_zero, ln_sl_sl_uint8, ia_sl_sl_uint8, ld_sl_uint8, ln_sl_uint8, cv_uint16_int, cv_int_uint8, ia_sl_uint8, ln_sl_uint16, ia_sl_uint16, ld_uint16, sl_sl_uint8_lohi, sl_sl_uint8_hi, sl_sl_uint8_lo, cv_uint8_int, bd_ar4_uint64_0_1_2_3, bd_xxh_Hash_0, peql_p_xxh_Hash, fa_xxh_Hash_all, ld_uint64, cv_int_uint64, fa_xxh_Hash_kept, fa_xxh_Hash_n, ld_int, sl_ar32_uint8_lo, fa_xxh_Hash_v, ia_ar4_uint64, sl_ar32_uint8_lohi, sl_ar32_uint8_hi, ld_uint8, cv_uint8_uint64, ln_string, ix_string, cv_int_uint, bd_ar4_int_0_1_2_3, ix_ar4_int, ix_ar4_uint64, sl_string_lo, bd_lightermanref01_R_0, fa_lightermanref01_R_E, ld_api_Errno, fa_lightermanref01_R_B, ld_string, sl_string_hi, hd, hc, hd2]
    have hss : (lst s).length = s.size := lst_length s
    have hnin : ¬ inB (.slice a3 n3 c3) (fun x => x = b) := by
      have := hrow i (by omega) (by omega)
      rw [← hu] at this
      exact not_inB_new this hwb
    refine (write_c b (lst s) l (by omega) _ w2 h2 hbs hnin).mono ?_
    rintro r w3 ⟨rfl, h3, x3⟩
    have x3' : Ext w w3 nob := x2.new x3 hwb
    obtain ⟨sl3, row3⟩ := keep w3 x3'
    obtain ⟨a'', n'', cp'', e, -, -, hcell3⟩ := sl3
    cases e
    obtain ⟨b'', o'', e, hc3'⟩ := hcell3 (by omega)
    cases e
    have hcc := hc3' i (by omega)
    rw [List.getElem?_eq_getElem (by omega), ← hu] at hcc
    have hbs3 := row3 i (by omega) (by omega)
    rw [← hu, ← hl0] at hbs3
    obtain ⟨y, hy⟩ : ∃ y : ByteArray, y = ⟨l.toArray⟩ := ⟨_, rfl⟩
    have hly : lst y = l := by rw [hy]; rfl
    have hys : y.size = l.length := by rw [← lst_length, hly]
    have hcv := cv_sl_uint8_string hbs3
    rw [← hy] at hcv
    have hsc : ∀ (t : TypeId) (ox oy : Operand) (w : World), (sBin .add t ox oy (.string s) (.string y)).run pg w = .ok (.value (.string (s ++ y))) w := fun t ox oy w => r_scat s y (by omega)
    simp (disch := omega) only [Stp, Same, stepR_value, stepR_skip, r_add, r_sub, r_mul, r_quo, r_rem, r_and, r_or, r_xor, r_andNot, r_shl, r_shr, r_eql, r_neq, r_lss, r_leq, r_gtr, r_geq, r_neg, r_cpl, r_not, r_pick, r_min, r_max, r_nil, x20, x21, x30, x31, x32, x40, x41, x42, x43, ldC_some, Result.ok.injEq, Next.value.injEq, true_and, and_true, w_i64, w_u64, w_i32, w_u32, w_u16, w_u8, Int.toNat_natCast, isB_tt, isB_tf, isB_ft, isB_ff, Gd_true, Gd_false, Cnd_true, Cnd_false, if_true, if_false, Bool.false_eq_true, Nat.zero_add, Option.isNone_some, Option.isNone_none, Bool.not_true, Bool.not_false, List.getElem?_cons_succ, List.getElem?_cons_zero, ln_sl_sl_uint8, ia_sl_sl_uint8, ld_sl_uint8, ln_sl_uint8, cv_uint16_int, cv_int_uint8, ia_sl_uint8, ln_sl_uint16, ia_sl_uint16, ld_uint16, sl_sl_uint8_lohi, sl_sl_uint8_hi, sl_sl_uint8_lo, cv_uint8_int, bd_ar4_uint64_0_1_2_3, bd_xxh_Hash_0, peql_p_xxh_Hash, fa_xxh_Hash_all, ld_uint64, cv_int_uint64, fa_xxh_Hash_kept, fa_xxh_Hash_n, ld_int, sl_ar32_uint8_lo, fa_xxh_Hash_v, ia_ar4_uint64, sl_ar32_uint8_lohi, sl_ar32_uint8_hi, ld_uint8, cv_uint8_uint64, ln_string, ix_string, cv_int_uint, bd_ar4_int_0_1_2_3, ix_ar4_int, ix_ar4_uint64, sl_string_lo, bd_lightermanref01_R_0, fa_lightermanref01_R_E, ld_api_Errno, fa_lightermanref01_R_B, ld_string, sl_string_hi, hcc, hcv, hsc]
    have hcat : lst (s ++ y) = lst s ++ l := by rw [lst_append, hly]
    have hcsz : (s ++ y).size = s.size + l.length := by rw [← lst_length, hcat, List.length_append, hss]
    refine (sum_c b _ (by rw [List.length_append]; omega) w3 h3).mono ?_
    rintro r w4 ⟨rfl, x4⟩
    refine (ref_c (s ++ y) (by omega) w4).mono ?_
    rintro r w5 ⟨rfl, x5⟩
    rw [hcat]
    have d : (XXH (lst s ++ l) != XXH (lst s ++ l)) = false := by simp
    simp (disch := omega) only [Stp, Same, stepR_value, stepR_skip, r_add, r_sub, r_mul, r_quo, r_rem, r_and, r_or, r_xor, r_andNot, r_shl, r_shr, r_eql, r_neq, r_lss, r_leq, r_gtr, r_geq, r_neg, r_cpl, r_not, r_pick, r_min, r_max, r_nil, x20, x21, x30, x31, x32, x40, x41, x42, x43, ldC_some, Result.ok.injEq, Next.value.injEq, true_and, and_true, w_i64, w_u64, w_i32, w_u32, w_u16, w_u8, Int.toNat_natCast, isB_tt, isB_tf, isB_ft, isB_ff, Gd_true, Gd_false, Cnd_true, Cnd_false, if_true, if_false, Bool.false_eq_true, Nat.zero_add, Option.isNone_some, Option.isNone_none, Bool.not_true, Bool.not_false, List.getElem?_cons_succ, List.getElem?_cons_zero, ln_sl_sl_uint8, ia_sl_sl_uint8, ld_sl_uint8, ln_sl_uint8, cv_uint16_int, cv_int_uint8, ia_sl_uint8, ln_sl_uint16, ia_sl_uint16, ld_uint16, sl_sl_uint8_lohi, sl_sl_uint8_hi, sl_sl_uint8_lo, cv_uint8_int, bd_ar4_uint64_0_1_2_3, bd_xxh_Hash_0, peql_p_xxh_Hash, fa_xxh_Hash_all, ld_uint64, cv_int_uint64, fa_xxh_Hash_kept, fa_xxh_Hash_n, ld_int, sl_ar32_uint8_lo, fa_xxh_Hash_v, ia_ar4_uint64, sl_ar32_uint8_lohi, sl_ar32_uint8_hi, ld_uint8, cv_uint8_uint64, ln_string, ix_string, cv_int_uint, bd_ar4_int_0_1_2_3, ix_ar4_int, ix_ar4_uint64, sl_string_lo, bd_lightermanref01_R_0, fa_lightermanref01_R_E, ld_api_Errno, fa_lightermanref01_R_B, ld_string, sl_string_hi, d]
    refine ⟨n - (i + 1), by omega, i + 1, s ++ y, by omega, rfl, rfl, ?_, by omega, ?_, (x3'.seq x4).seq x5⟩
    · rw [hcat, take_flat ls i (by omega), hs, hl0]
    · rw [hcat]; exact (h3.ext x4 (fun h => h)).ext x5 (fun h => h)
  · have hd : decide ((i : Int) < (n : Int)) = false := by simpa using hlt
    have hss : (lst s).length = s.size := lst_length s
    simp (disch := omega) only [law03_XxhSums_p2, Stp, Same, stepR_value, stepR_skip, r_add, r_sub, r_mul, r_quo, r_rem, r_and, r_or, r_xor, r_andNot, r_shl, r_shr, r_eql, r_neq, r_lss, r_leq, r_gtr, r_geq, r_neg, r_cpl, r_not, r_pick, r_min, r_max, r_nil, x20, x21, x30, x31, x32, x40, x41, x42, x43, ldC_some, Result.ok.injEq, Next.value.injEq, true_and, and_true, w_i64, w_u64, w_i32, w_u32, w_u16, w_u8, Int.toNat_natCast, isB_tt, isB_tf, isB_ft, isB_ff, Gd_true, Gd_false, Cnd_true, Cnd_false, if_true, if_false, Bool.false_eq_true, Nat.zero_add, Option.isNone_some, Option.isNone_none, Bool.not_true, Bool.not_false, List.getElem?_cons_succ, List.getElem?_cons_zero, ln_sl_sl_uint8, ia_sl_sl_uint8, ld_sl_uint8, ln_sl_uint8, cv_uint16_int, cv_int_uint8, ia_sl_uint8, ln_sl_uint16, ia_sl_uint16, ld_uint16, sl_sl_uint8_lohi, sl_sl_uint8_hi, sl_sl_uint8_lo, cv_uint8_int, bd_ar4_uint64_0_1_2_3, bd_xxh_Hash_0, peql_p_xxh_Hash, fa_xxh_Hash_all, ld_uint64, cv_int_uint64, fa_xxh_Hash_kept, fa_xxh_Hash_n, ld_int, sl_ar32_uint8_lo, fa_xxh_Hash_v, ia_ar4_uint64, sl_ar32_uint8_lohi, sl_ar32_uint8_hi, ld_uint8, cv_uint8_uint64, ln_string, ix_string, cv_int_uint, bd_ar4_int_0_1_2_3, ix_ar4_int, ix_ar4_uint64, sl_string_lo, bd_lightermanref01_R_0, fa_lightermanref01_R_E, ld_api_Errno, fa_lightermanref01_R_B, ld_string, sl_string_hi, hd]
    refine (sum_c b _ (by omega) w2 h2).mono ?_
    rintro r w3 ⟨rfl, x3⟩
    refine (ref_c s (by omega) w3).mono ?_
    rintro r w4 ⟨rfl, x4⟩
    have d : (XXH (lst s) == XXH (lst s)) = true := by simp
    simp (disch := omega) only [Stp, Same, stepR_value, stepR_skip, r_add, r_sub, r_mul, r_quo, r_rem, r_and, r_or, r_xor, r_andNot, r_shl, r_shr, r_eql, r_neq, r_lss, r_leq, r_gtr, r_geq, r_neg, r_cpl, r_not, r_pick, r_min, r_max, r_nil, x20, x21, x30, x31, x32, x40, x41, x42, x43, ldC_some, Result.ok.injEq, Next.value.injEq, true_and, and_true, w_i64, w_u64, w_i32, w_u32, w_u16, w_u8, Int.toNat_natCast, isB_tt, isB_tf, isB_ft, isB_ff, Gd_true, Gd_false, Cnd_true, Cnd_false, if_true, if_false, Bool.false_eq_true, Nat.zero_add, Option.isNone_some, Option.isNone_none, Bool.not_true, Bool.not_false, List.getElem?_cons_succ, List.getElem?_cons_zero, ln_sl_sl_uint8, ia_sl_sl_uint8, ld_sl_uint8, ln_sl_uint8, cv_uint16_int, cv_int_uint8, ia_sl_uint8, ln_sl_uint16, ia_sl_uint16, ld_uint16, sl_sl_uint8_lohi, sl_sl_uint8_hi, sl_sl_uint8_lo, cv_uint8_int, bd_ar4_uint64_0_1_2_3, bd_xxh_Hash_0, peql_p_xxh_Hash, fa_xxh_Hash_all, ld_uint64, cv_int_uint64, fa_xxh_Hash_kept, fa_xxh_Hash_n, ld_int, sl_ar32_uint8_lo, fa_xxh_Hash_v, ia_ar4_uint64, sl_ar32_uint8_lohi, sl_ar32_uint8_hi, ld_uint8, cv_uint8_uint64, ln_string, ix_string, cv_int_uint, bd_ar4_int_0_1_2_3, ix_ar4_int, ix_ar4_uint64, sl_string_lo, bd_lightermanref01_R_0, fa_lightermanref01_R_E, ld_api_Errno, fa_lightermanref01_R_B, ld_string, sl_string_hi, d]
    refine cv_string_sl_uint8 fun w5 c5 s5 x5 z5 _ => ?_
    have hb5 : Bs w5 (.slice (some ⟨w4.heap.size, 0, none⟩) s.size c5) (lst s) := s5
    refine (of_c (lst s) (by omega) _ w5 hb5).mono ?_
    rintro r w6 ⟨rfl, x6⟩
    refine (ref_c s (by omega) w6).mono ?_
    rintro r w7 ⟨rfl, x7⟩
    simp (disch := omega) only [Stp, Same, stepR_value, stepR_skip, r_add, r_sub, r_mul, r_quo, r_rem, r_and, r_or, r_xor, r_andNot, r_shl, r_shr, r_eql, r_neq, r_lss, r_leq, r_gtr, r_geq, r_neg, r_cpl, r_not, r_pick, r_min, r_max, r_nil, x20, x21, x30, x31, x32, x40, x41, x42, x43, ldC_some, Result.ok.injEq, Next.value.injEq, true_and, and_true, w_i64, w_u64, w_i32, w_u32, w_u16, w_u8, Int.toNat_natCast, isB_tt, isB_tf, isB_ft, isB_ff, Gd_true, Gd_false, Cnd_true, Cnd_false, if_true, if_false, Bool.false_eq_true, Nat.zero_add, Option.isNone_some, Option.isNone_none, Bool.not_true, Bool.not_false, List.getElem?_cons_succ, List.getElem?_cons_zero, ln_sl_sl_uint8, ia_sl_sl_uint8, ld_sl_uint8, ln_sl_uint8, cv_uint16_int, cv_int_uint8, ia_sl_uint8, ln_sl_uint16, ia_sl_uint16, ld_uint16, sl_sl_uint8_lohi, sl_sl_uint8_hi, sl_sl_uint8_lo, cv_uint8_int, bd_ar4_uint64_0_1_2_3, bd_xxh_Hash_0, peql_p_xxh_Hash, fa_xxh_Hash_all, ld_uint64, cv_int_uint64, fa_xxh_Hash_kept, fa_xxh_Hash_n, ld_int, sl_ar32_uint8_lo, fa_xxh_Hash_v, ia_ar4_uint64, sl_ar32_uint8_lohi, sl_ar32_uint8_hi, ld_uint8, cv_uint8_uint64, ln_string, ix_string, cv_int_uint, bd_ar4_int_0_1_2_3, ix_ar4_int, ix_ar4_uint64, sl_string_lo, bd_lightermanref01_R_0, fa_lightermanref01_R_E, ld_api_Errno, fa_lightermanref01_R_B, ld_string, sl_string_hi, d]
    exact ((((x2.seq x3).seq x4).seq x5).seq x6).seq x7

end Go.Proofs.Ytblljiohpcbieaa
