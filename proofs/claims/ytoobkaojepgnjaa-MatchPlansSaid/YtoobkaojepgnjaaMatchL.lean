/- Contracts: the laws of match. -/
import Derived.Test.YtoobkaojepgnjaaMatchP
namespace Go.Proofs.Ytoobkaojepgnjaa
open Go Go.En
set_option maxRecDepth 4000
set_option linter.unusedSimpArgs false

theorem osl_len {w : World} {b sz n : Nat} {v : Value} {l : List Value} (h : OSl w b sz v n l) : ∃ a c, v = .slice a n c := by
  rcases h.2 with ⟨rfl, rfl⟩ | ⟨x, c, r, rfl, _⟩
  · exact ⟨_, _, rfl⟩
  · exact ⟨_, _, rfl⟩
theorem bs_nil (w : World) : Bs w (.slice none 0 0) [] := ⟨none, 0, 0, rfl, rfl, Nat.le_refl _, fun h => absurd h (by simp)⟩
theorem own_whole {w : World} {b c : Nat} {l : List UInt8} (h : Own w b (l.map b2v)) (hc : l.length ≤ c) : Bs w (.slice (some ⟨b, 0, none⟩) l.length c) l :=
  h.bs hc fun i hi => by rw [Nat.zero_add]; simp [hi]

def abc : List UInt8 := [97, 98, 99, 100, 101, 102, 103, 104, 97, 98, 99, 100, 101, 102, 103, 104]

theorem awake_c (w : World) : Does pg F_law17_awake #[] w (fun r w' => r = .bool true ∧ Ext w w' nob) := by
  refine law17_awake_does ?_
  unfold law17_awake law17_awake_p1
  refine mk_sl_uint8 (by omega) (by omega) fun w1 o1 x1 s1 => ?_
  have b1 : Bs w1 (.slice (some ⟨w.heap.size, 0, none⟩) 9 9) (List.replicate 9 0) := own_whole (l := List.replicate 9 0) o1 (by simp)
  refine (find_c (to := 9) (lvl := 0) (a0 := 0) (by omega) (by omega) (by simp) (by simp) b1).mono ?_
  rintro r w2 ⟨⟨v2, L2, c2, rfl, o2, p2, h2, l2, -⟩, x2⟩
  obtain rfl := l2 rfl
  obtain rfl : 0 = c2 := p2
  obtain ⟨a2, cc2, rfl⟩ := osl_len o2
  simp (disch := omega) only [Stp, Same, stepR_value, stepR_skip, r_add, r_sub, r_mul, r_quo, r_rem, r_and, r_or, r_xor, r_andNot, r_shl, r_shr, r_eql, r_neq, r_lss, r_leq, r_gtr, r_geq, r_neg, r_cpl, r_not, r_pick, r_min, r_max, r_nil, x20, x21, x30, x31, x32, x40, x41, x42, x43, ldC_some, Result.ok.injEq, Next.value.injEq, true_and, and_true, w_i64, w_u64, w_i32, w_u32, w_u16, w_u8, Int.toNat_natCast, isB_tt, isB_tf, isB_ft, isB_ff, Gd_true, Gd_false, Cnd_true, Cnd_false, if_true, if_false, Bool.false_eq_true, Nat.zero_add, Option.isNone_some, Option.isNone_none, Bool.not_true, Bool.not_false, List.getElem?_cons_succ, List.getElem?_cons_zero, ln_sl_uint8, ln_sl_api_Sequence, cv_uint16_int, ia_sl_uint8, cv_uint8_int, ln_string, sl_sl_uint8_hi, bd_match_finder_0_1_2_3_4, cv_int_uint32, bd_api_Sequence_0_1_2, ia_sl_api_Sequence, fa_api_Sequence_Literals, ld_uint32, cv_uint32_int, fa_api_Sequence_Match, fa_api_Sequence_Offset, ix_string, fa_match_finder_last, ld_map_ar4_uint8_int, fa_match_finder_ahead, ld_sl_int, ia_sl_int, fa_match_finder_tries, ld_int, fa_match_finder_b, ld_sl_uint8, bd_ar4_uint8_, sl_sl_uint8_lohi, sa_ar4_uint8, fa_match_finder_to, ld_uint8]
  refine bs_sl_uint8 (cells := (abc.map b2v).toArray) (by decide) (by decide) (by kernel_rfl) fun w3 o3 x3 s3 => ?_
  refine csl_sl_uint8 o3 fun w4 o4 x4 s4 => ?_
  have b4 : Bs w4 (.slice (some ⟨w2.heap.size, 0, none⟩) 16 16) abc := own_whole (l := abc) o4 (by decide)
  refine (find_c (to := 16) (lvl := 5) (a0 := 0) (by omega) (by omega) (by decide) (by decide) b4).mono ?_
  rintro r w5 ⟨⟨v5, L5, c5, rfl, o5, p5, h5, -, -⟩, x5⟩
  simp (disch := omega) only [Stp, Same, stepR_value, stepR_skip, r_add, r_sub, r_mul, r_quo, r_rem, r_and, r_or, r_xor, r_andNot, r_shl, r_shr, r_eql, r_neq, r_lss, r_leq, r_gtr, r_geq, r_neg, r_cpl, r_not, r_pick, r_min, r_max, r_nil, x20, x21, x30, x31, x32, x40, x41, x42, x43, ldC_some, Result.ok.injEq, Next.value.injEq, true_and, and_true, w_i64, w_u64, w_i32, w_u32, w_u16, w_u8, Int.toNat_natCast, isB_tt, isB_tf, isB_ft, isB_ff, Gd_true, Gd_false, Cnd_true, Cnd_false, if_true, if_false, Bool.false_eq_true, Nat.zero_add, Option.isNone_some, Option.isNone_none, Bool.not_true, Bool.not_false, List.getElem?_cons_succ, List.getElem?_cons_zero, ln_sl_uint8, ln_sl_api_Sequence, cv_uint16_int, ia_sl_uint8, cv_uint8_int, ln_string, sl_sl_uint8_hi, bd_match_finder_0_1_2_3_4, cv_int_uint32, bd_api_Sequence_0_1_2, ia_sl_api_Sequence, fa_api_Sequence_Literals, ld_uint32, cv_uint32_int, fa_api_Sequence_Match, fa_api_Sequence_Offset, ix_string, fa_match_finder_last, ld_map_ar4_uint8_int, fa_match_finder_ahead, ld_sl_int, ia_sl_int, fa_match_finder_tries, ld_int, fa_match_finder_b, ld_sl_uint8, bd_ar4_uint8_, sl_sl_uint8_lohi, sa_ar4_uint8, fa_match_finder_to, ld_uint8]
  refine (find_bad (B := []) (a0 := 0) (to := 1) (lvl := 0) (.inr (.inr (.inl (by simp)))) (bs_nil _)).mono ?_
  rintro r w6 ⟨rfl, x6⟩
  have x06 : Ext w w6 nob := (((x1.seq x2).seq (x3.new x4 (Nat.le_refl _))).seq x5).seq x6
  have e1 : (((List.length ([] : List Sq) : Nat) : Int) == 0) = true := rfl
  have e2 : ((((9 - 0 : Nat) : Nat) : Int) == 9) = true := rfl
  have e3 : ((0 : Int) == 0) = true := rfl
  have e4 : ((1 : Int) == 1) = true := rfl
  simp (disch := omega) only [Stp, Same, stepR_value, stepR_skip, r_add, r_sub, r_mul, r_quo, r_rem, r_and, r_or, r_xor, r_andNot, r_shl, r_shr, r_eql, r_neq, r_lss, r_leq, r_gtr, r_geq, r_neg, r_cpl, r_not, r_pick, r_min, r_max, r_nil, x20, x21, x30, x31, x32, x40, x41, x42, x43, ldC_some, Result.ok.injEq, Next.value.injEq, true_and, and_true, w_i64, w_u64, w_i32, w_u32, w_u16, w_u8, Int.toNat_natCast, isB_tt, isB_tf, isB_ft, isB_ff, Gd_true, Gd_false, Cnd_true, Cnd_false, if_true, if_false, Bool.false_eq_true, Nat.zero_add, Option.isNone_some, Option.isNone_none, Bool.not_true, Bool.not_false, List.getElem?_cons_succ, List.getElem?_cons_zero, ln_sl_uint8, ln_sl_api_Sequence, cv_uint16_int, ia_sl_uint8, cv_uint8_int, ln_string, sl_sl_uint8_hi, bd_match_finder_0_1_2_3_4, cv_int_uint32, bd_api_Sequence_0_1_2, ia_sl_api_Sequence, fa_api_Sequence_Literals, ld_uint32, cv_uint32_int, fa_api_Sequence_Match, fa_api_Sequence_Offset, ix_string, fa_match_finder_last, ld_map_ar4_uint8_int, fa_match_finder_ahead, ld_sl_int, ia_sl_int, fa_match_finder_tries, ld_int, fa_match_finder_b, ld_sl_uint8, bd_ar4_uint8_, sl_sl_uint8_lohi, sa_ar4_uint8, fa_match_finder_to, ld_uint8, e1, e2, e3, e4]
  refine (plan_c (s := ⟨abc.toArray⟩) (B := abc) (to := 16) (a0 := 0) rfl (by decide) (by omega) (by decide) ((o5.ext x6 (fun _ _ h => h)).cl) p5).mono ?_
  rintro r w7 ⟨rfl, x7⟩
  simp (disch := omega) only [Stp, Same, stepR_value, stepR_skip, r_add, r_sub, r_mul, r_quo, r_rem, r_and, r_or, r_xor, r_andNot, r_shl, r_shr, r_eql, r_neq, r_lss, r_leq, r_gtr, r_geq, r_neg, r_cpl, r_not, r_pick, r_min, r_max, r_nil, x20, x21, x30, x31, x32, x40, x41, x42, x43, ldC_some, Result.ok.injEq, Next.value.injEq, true_and, and_true, w_i64, w_u64, w_i32, w_u32, w_u16, w_u8, Int.toNat_natCast, isB_tt, isB_tf, isB_ft, isB_ff, Gd_true, Gd_false, Cnd_true, Cnd_false, if_true, if_false, Bool.false_eq_true, Nat.zero_add, Option.isNone_some, Option.isNone_none, Bool.not_true, Bool.not_false, List.getElem?_cons_succ, List.getElem?_cons_zero, ln_sl_uint8, ln_sl_api_Sequence, cv_uint16_int, ia_sl_uint8, cv_uint8_int, ln_string, sl_sl_uint8_hi, bd_match_finder_0_1_2_3_4, cv_int_uint32, bd_api_Sequence_0_1_2, ia_sl_api_Sequence, fa_api_Sequence_Literals, ld_uint32, cv_uint32_int, fa_api_Sequence_Match, fa_api_Sequence_Offset, ix_string, fa_match_finder_last, ld_map_ar4_uint8_int, fa_match_finder_ahead, ld_sl_int, ia_sl_int, fa_match_finder_tries, ld_int, fa_match_finder_b, ld_sl_uint8, bd_ar4_uint8_, sl_sl_uint8_lohi, sa_ar4_uint8, fa_match_finder_to, ld_uint8, e4]
  exact x06.seq x7

theorem eq_self_list (l : List UInt8) : (l == l) = true := by simp

theorem matchPlans_c {w : World} {bv : Value} {B : List UInt8} (hbv : Bs w bv B) (hB : B.length ≤ 9223372036854775807) (a0 to lvl : Int) :
    Does pg F_law17_MatchPlans #[bv, .int .i64 a0, .int .i64 to, .int .i64 lvl] w (fun r w' => r = .bool true ∧ Ext w w' nob) := by
  refine law17_MatchPlans_does ?_
  unfold law17_MatchPlans law17_MatchPlans_p1
  refine (awake_c w).mono ?_
  rintro r w1 ⟨rfl, x1⟩
  obtain ⟨a, c, hv, hc⟩ := hbv.len
  simp only [List.length_map] at hv hc
  have b1 := hbv.ext x1 (inB_nob _)
  have ln := fun w => ln_sl_uint8 (ty := 3) a B.length c w
  rw [← hv] at ln
  by_cases hbig : 2000 < B.length
  · have d : decide ((2000 : Int) < (B.length : Int)) = true := by simp; omega
    simp (disch := omega) only [Stp, Same, stepR_value, stepR_skip, r_add, r_sub, r_mul, r_quo, r_rem, r_and, r_or, r_xor, r_andNot, r_shl, r_shr, r_eql, r_neq, r_lss, r_leq, r_gtr, r_geq, r_neg, r_cpl, r_not, r_pick, r_min, r_max, r_nil, x20, x21, x30, x31, x32, x40, x41, x42, x43, ldC_some, Result.ok.injEq, Next.value.injEq, true_and, and_true, w_i64, w_u64, w_i32, w_u32, w_u16, w_u8, Int.toNat_natCast, isB_tt, isB_tf, isB_ft, isB_ff, Gd_true, Gd_false, Cnd_true, Cnd_false, if_true, if_false, Bool.false_eq_true, Nat.zero_add, Option.isNone_some, Option.isNone_none, Bool.not_true, Bool.not_false, List.getElem?_cons_succ, List.getElem?_cons_zero, ln_sl_uint8, ln_sl_api_Sequence, cv_uint16_int, ia_sl_uint8, cv_uint8_int, ln_string, sl_sl_uint8_hi, bd_match_finder_0_1_2_3_4, cv_int_uint32, bd_api_Sequence_0_1_2, ia_sl_api_Sequence, fa_api_Sequence_Literals, ld_uint32, cv_uint32_int, fa_api_Sequence_Match, fa_api_Sequence_Offset, ix_string, fa_match_finder_last, ld_map_ar4_uint8_int, fa_match_finder_ahead, ld_sl_int, ia_sl_int, fa_match_finder_tries, ld_int, fa_match_finder_b, ld_sl_uint8, bd_ar4_uint8_, sl_sl_uint8_lohi, sa_ar4_uint8, fa_match_finder_to, ld_uint8, ln, d]
    exact x1
  have d : decide ((2000 : Int) < (B.length : Int)) = false := by simp; omega
  have cv := cv_sl_uint8_string b1
  simp (disch := omega) only [Stp, Same, stepR_value, stepR_skip, r_add, r_sub, r_mul, r_quo, r_rem, r_and, r_or, r_xor, r_andNot, r_shl, r_shr, r_eql, r_neq, r_lss, r_leq, r_gtr, r_geq, r_neg, r_cpl, r_not, r_pick, r_min, r_max, r_nil, x20, x21, x30, x31, x32, x40, x41, x42, x43, ldC_some, Result.ok.injEq, Next.value.injEq, true_and, and_true, w_i64, w_u64, w_i32, w_u32, w_u16, w_u8, Int.toNat_natCast, isB_tt, isB_tf, isB_ft, isB_ff, Gd_true, Gd_false, Cnd_true, Cnd_false, if_true, if_false, Bool.false_eq_true, Nat.zero_add, Option.isNone_some, Option.isNone_none, Bool.not_true, Bool.not_false, List.getElem?_cons_succ, List.getElem?_cons_zero, ln_sl_uint8, ln_sl_api_Sequence, cv_uint16_int, ia_sl_uint8, cv_uint8_int, ln_string, sl_sl_uint8_hi, bd_match_finder_0_1_2_3_4, cv_int_uint32, bd_api_Sequence_0_1_2, ia_sl_api_Sequence, fa_api_Sequence_Literals, ld_uint32, cv_uint32_int, fa_api_Sequence_Match, fa_api_Sequence_Offset, ix_string, fa_match_finder_last, ld_map_ar4_uint8_int, fa_match_finder_ahead, ld_sl_int, ia_sl_int, fa_match_finder_tries, ld_int, fa_match_finder_b, ld_sl_uint8, bd_ar4_uint8_, sl_sl_uint8_lohi, sa_ar4_uint8, fa_match_finder_to, ld_uint8, ln, d, cv]
  by_cases hbad : a0 < 0 ∨ to < a0 ∨ (B.length : Int) < to ∨ lvl < 0 ∨ 9 < lvl
  · refine (find_bad hbad b1).mono ?_
    rintro r w2 ⟨rfl, x2⟩
    have e1 : ((1 : Int) == 1) = true := rfl
    have e3 : ((0 : Int) == 0) = true := rfl
    have e2 : (((0 : Nat) : Int) == 0) = true := rfl
    by_cases h1 : a0 < 0
    · have d1 : decide (a0 < 0) = true := by simpa using h1
      simp (disch := omega) only [Stp, Same, stepR_value, stepR_skip, r_add, r_sub, r_mul, r_quo, r_rem, r_and, r_or, r_xor, r_andNot, r_shl, r_shr, r_eql, r_neq, r_lss, r_leq, r_gtr, r_geq, r_neg, r_cpl, r_not, r_pick, r_min, r_max, r_nil, x20, x21, x30, x31, x32, x40, x41, x42, x43, ldC_some, Result.ok.injEq, Next.value.injEq, true_and, and_true, w_i64, w_u64, w_i32, w_u32, w_u16, w_u8, Int.toNat_natCast, isB_tt, isB_tf, isB_ft, isB_ff, Gd_true, Gd_false, Cnd_true, Cnd_false, if_true, if_false, Bool.false_eq_true, Nat.zero_add, Option.isNone_some, Option.isNone_none, Bool.not_true, Bool.not_false, List.getElem?_cons_succ, List.getElem?_cons_zero, ln_sl_uint8, ln_sl_api_Sequence, cv_uint16_int, ia_sl_uint8, cv_uint8_int, ln_string, sl_sl_uint8_hi, bd_match_finder_0_1_2_3_4, cv_int_uint32, bd_api_Sequence_0_1_2, ia_sl_api_Sequence, fa_api_Sequence_Literals, ld_uint32, cv_uint32_int, fa_api_Sequence_Match, fa_api_Sequence_Offset, ix_string, fa_match_finder_last, ld_map_ar4_uint8_int, fa_match_finder_ahead, ld_sl_int, ia_sl_int, fa_match_finder_tries, ld_int, fa_match_finder_b, ld_sl_uint8, bd_ar4_uint8_, sl_sl_uint8_lohi, sa_ar4_uint8, fa_match_finder_to, ld_uint8, d1, e1, e2, e3, ln]
      exact x1.seq x2
    have d1 : decide (a0 < 0) = false := by simpa using h1
    by_cases h2 : to < a0
    · have d2 : decide (to < a0) = true := by simpa using h2
      simp (disch := omega) only [Stp, Same, stepR_value, stepR_skip, r_add, r_sub, r_mul, r_quo, r_rem, r_and, r_or, r_xor, r_andNot, r_shl, r_shr, r_eql, r_neq, r_lss, r_leq, r_gtr, r_geq, r_neg, r_cpl, r_not, r_pick, r_min, r_max, r_nil, x20, x21, x30, x31, x32, x40, x41, x42, x43, ldC_some, Result.ok.injEq, Next.value.injEq, true_and, and_true, w_i64, w_u64, w_i32, w_u32, w_u16, w_u8, Int.toNat_natCast, isB_tt, isB_tf, isB_ft, isB_ff, Gd_true, Gd_false, Cnd_true, Cnd_false, if_true, if_false, Bool.false_eq_true, Nat.zero_add, Option.isNone_some, Option.isNone_none, Bool.not_true, Bool.not_false, List.getElem?_cons_succ, List.getElem?_cons_zero, ln_sl_uint8, ln_sl_api_Sequence, cv_uint16_int, ia_sl_uint8, cv_uint8_int, ln_string, sl_sl_uint8_hi, bd_match_finder_0_1_2_3_4, cv_int_uint32, bd_api_Sequence_0_1_2, ia_sl_api_Sequence, fa_api_Sequence_Literals, ld_uint32, cv_uint32_int, fa_api_Sequence_Match, fa_api_Sequence_Offset, ix_string, fa_match_finder_last, ld_map_ar4_uint8_int, fa_match_finder_ahead, ld_sl_int, ia_sl_int, fa_match_finder_tries, ld_int, fa_match_finder_b, ld_sl_uint8, bd_ar4_uint8_, sl_sl_uint8_lohi, sa_ar4_uint8, fa_match_finder_to, ld_uint8, d1, d2, e1, e2, e3, ln]
      exact x1.seq x2
    have d2 : decide (to < a0) = false := by simpa using h2
    by_cases h3 : (B.length : Int) < to
    · have d3 : decide ((B.length : Int) < to) = true := by simpa using h3
      simp (disch := omega) only [Stp, Same, stepR_value, stepR_skip, r_add, r_sub, r_mul, r_quo, r_rem, r_and, r_or, r_xor, r_andNot, r_shl, r_shr, r_eql, r_neq, r_lss, r_leq, r_gtr, r_geq, r_neg, r_cpl, r_not, r_pick, r_min, r_max, r_nil, x20, x21, x30, x31, x32, x40, x41, x42, x43, ldC_some, Result.ok.injEq, Next.value.injEq, true_and, and_true, w_i64, w_u64, w_i32, w_u32, w_u16, w_u8, Int.toNat_natCast, isB_tt, isB_tf, isB_ft, isB_ff, Gd_true, Gd_false, Cnd_true, Cnd_false, if_true, if_false, Bool.false_eq_true, Nat.zero_add, Option.isNone_some, Option.isNone_none, Bool.not_true, Bool.not_false, List.getElem?_cons_succ, List.getElem?_cons_zero, ln_sl_uint8, ln_sl_api_Sequence, cv_uint16_int, ia_sl_uint8, cv_uint8_int, ln_string, sl_sl_uint8_hi, bd_match_finder_0_1_2_3_4, cv_int_uint32, bd_api_Sequence_0_1_2, ia_sl_api_Sequence, fa_api_Sequence_Literals, ld_uint32, cv_uint32_int, fa_api_Sequence_Match, fa_api_Sequence_Offset, ix_string, fa_match_finder_last, ld_map_ar4_uint8_int, fa_match_finder_ahead, ld_sl_int, ia_sl_int, fa_match_finder_tries, ld_int, fa_match_finder_b, ld_sl_uint8, bd_ar4_uint8_, sl_sl_uint8_lohi, sa_ar4_uint8, fa_match_finder_to, ld_uint8, d1, d2, d3, e1, e2, e3, ln]
      exact x1.seq x2
    have d3 : decide ((B.length : Int) < to) = false := by simpa using h3
    by_cases h4 : lvl < 0
    · have d4 : decide (lvl < 0) = true := by simpa using h4
      simp (disch := omega) only [Stp, Same, stepR_value, stepR_skip, r_add, r_sub, r_mul, r_quo, r_rem, r_and, r_or, r_xor, r_andNot, r_shl, r_shr, r_eql, r_neq, r_lss, r_leq, r_gtr, r_geq, r_neg, r_cpl, r_not, r_pick, r_min, r_max, r_nil, x20, x21, x30, x31, x32, x40, x41, x42, x43, ldC_some, Result.ok.injEq, Next.value.injEq, true_and, and_true, w_i64, w_u64, w_i32, w_u32, w_u16, w_u8, Int.toNat_natCast, isB_tt, isB_tf, isB_ft, isB_ff, Gd_true, Gd_false, Cnd_true, Cnd_false, if_true, if_false, Bool.false_eq_true, Nat.zero_add, Option.isNone_some, Option.isNone_none, Bool.not_true, Bool.not_false, List.getElem?_cons_succ, List.getElem?_cons_zero, ln_sl_uint8, ln_sl_api_Sequence, cv_uint16_int, ia_sl_uint8, cv_uint8_int, ln_string, sl_sl_uint8_hi, bd_match_finder_0_1_2_3_4, cv_int_uint32, bd_api_Sequence_0_1_2, ia_sl_api_Sequence, fa_api_Sequence_Literals, ld_uint32, cv_uint32_int, fa_api_Sequence_Match, fa_api_Sequence_Offset, ix_string, fa_match_finder_last, ld_map_ar4_uint8_int, fa_match_finder_ahead, ld_sl_int, ia_sl_int, fa_match_finder_tries, ld_int, fa_match_finder_b, ld_sl_uint8, bd_ar4_uint8_, sl_sl_uint8_lohi, sa_ar4_uint8, fa_match_finder_to, ld_uint8, d1, d2, d3, d4, e1, e2, e3, ln]
      exact x1.seq x2
    have d4 : decide (lvl < 0) = false := by simpa using h4
    have d5 : decide (9 < lvl) = true := by simp; omega
    simp (disch := omega) only [Stp, Same, stepR_value, stepR_skip, r_add, r_sub, r_mul, r_quo, r_rem, r_and, r_or, r_xor, r_andNot, r_shl, r_shr, r_eql, r_neq, r_lss, r_leq, r_gtr, r_geq, r_neg, r_cpl, r_not, r_pick, r_min, r_max, r_nil, x20, x21, x30, x31, x32, x40, x41, x42, x43, ldC_some, Result.ok.injEq, Next.value.injEq, true_and, and_true, w_i64, w_u64, w_i32, w_u32, w_u16, w_u8, Int.toNat_natCast, isB_tt, isB_tf, isB_ft, isB_ff, Gd_true, Gd_false, Cnd_true, Cnd_false, if_true, if_false, Bool.false_eq_true, Nat.zero_add, Option.isNone_some, Option.isNone_none, Bool.not_true, Bool.not_false, List.getElem?_cons_succ, List.getElem?_cons_zero, ln_sl_uint8, ln_sl_api_Sequence, cv_uint16_int, ia_sl_uint8, cv_uint8_int, ln_string, sl_sl_uint8_hi, bd_match_finder_0_1_2_3_4, cv_int_uint32, bd_api_Sequence_0_1_2, ia_sl_api_Sequence, fa_api_Sequence_Literals, ld_uint32, cv_uint32_int, fa_api_Sequence_Match, fa_api_Sequence_Offset, ix_string, fa_match_finder_last, ld_map_ar4_uint8_int, fa_match_finder_ahead, ld_sl_int, ia_sl_int, fa_match_finder_tries, ld_int, fa_match_finder_b, ld_sl_uint8, bd_ar4_uint8_, sl_sl_uint8_lohi, sa_ar4_uint8, fa_match_finder_to, ld_uint8, d1, d2, d3, d4, d5, e1, e2, e3, ln]
    exact x1.seq x2
  · obtain ⟨a0, rfl⟩ : ∃ n : Nat, a0 = n := ⟨a0.toNat, by omega⟩
    obtain ⟨to, rfl⟩ : ∃ n : Nat, to = n := ⟨to.toNat, by omega⟩
    obtain ⟨lvl, rfl⟩ : ∃ n : Nat, lvl = n := ⟨lvl.toNat, by omega⟩
    refine (find_c (to := to) (lvl := lvl) (a0 := a0) (by omega) (by omega) (by omega) (by omega) b1).mono ?_
    rintro r w2 ⟨⟨v2, L2, c2, rfl, o2, p2, h2, l2, -⟩, x2⟩
    have b2 := b1.ext x2 (inB_nob _)
    have cv := cv_sl_uint8_string b2
    have d1 : decide ((a0 : Int) < 0) = false := by simp
    have d2 : decide ((to : Int) < (a0 : Int)) = false := by simp; omega
    have d3 : decide ((B.length : Int) < (to : Int)) = false := by simp; omega
    have d4 : decide ((lvl : Int) < 0) = false := by simp
    have d5 : decide ((9 : Int) < (lvl : Int)) = false := by simp; omega
    have e3 : ((0 : Int) == 0) = true := rfl
    simp (disch := omega) only [Stp, Same, stepR_value, stepR_skip, r_add, r_sub, r_mul, r_quo, r_rem, r_and, r_or, r_xor, r_andNot, r_shl, r_shr, r_eql, r_neq, r_lss, r_leq, r_gtr, r_geq, r_neg, r_cpl, r_not, r_pick, r_min, r_max, r_nil, x20, x21, x30, x31, x32, x40, x41, x42, x43, ldC_some, Result.ok.injEq, Next.value.injEq, true_and, and_true, w_i64, w_u64, w_i32, w_u32, w_u16, w_u8, Int.toNat_natCast, isB_tt, isB_tf, isB_ft, isB_ff, Gd_true, Gd_false, Cnd_true, Cnd_false, if_true, if_false, Bool.false_eq_true, Nat.zero_add, Option.isNone_some, Option.isNone_none, Bool.not_true, Bool.not_false, List.getElem?_cons_succ, List.getElem?_cons_zero, ln_sl_uint8, ln_sl_api_Sequence, cv_uint16_int, ia_sl_uint8, cv_uint8_int, ln_string, sl_sl_uint8_hi, bd_match_finder_0_1_2_3_4, cv_int_uint32, bd_api_Sequence_0_1_2, ia_sl_api_Sequence, fa_api_Sequence_Literals, ld_uint32, cv_uint32_int, fa_api_Sequence_Match, fa_api_Sequence_Offset, ix_string, fa_match_finder_last, ld_map_ar4_uint8_int, fa_match_finder_ahead, ld_sl_int, ia_sl_int, fa_match_finder_tries, ld_int, fa_match_finder_b, ld_sl_uint8, bd_ar4_uint8_, sl_sl_uint8_lohi, sa_ar4_uint8, fa_match_finder_to, ld_uint8, ln, cv, d1, d2, d3, d4, d5, e3, r_seql, eq_self_list]
    refine (plan_c (s := ⟨B.toArray⟩) (B := B) (to := to) (a0 := a0) rfl (by omega) (by omega) (by omega) o2.cl p2).mono ?_
    rintro r w3 ⟨rfl, x3⟩
    by_cases hl : lvl = 0
    · subst hl
      obtain rfl := l2 rfl
      obtain ⟨a2, cc2, rfl⟩ := osl_len o2
      have d6 : decide ((0 : Int) < ((0 : Nat) : Int)) = false := rfl
      have e1 : (((List.length ([] : List Sq) : Nat) : Int) == 0) = true := rfl
      simp (disch := omega) only [Stp, Same, stepR_value, stepR_skip, r_add, r_sub, r_mul, r_quo, r_rem, r_and, r_or, r_xor, r_andNot, r_shl, r_shr, r_eql, r_neq, r_lss, r_leq, r_gtr, r_geq, r_neg, r_cpl, r_not, r_pick, r_min, r_max, r_nil, x20, x21, x30, x31, x32, x40, x41, x42, x43, ldC_some, Result.ok.injEq, Next.value.injEq, true_and, and_true, w_i64, w_u64, w_i32, w_u32, w_u16, w_u8, Int.toNat_natCast, isB_tt, isB_tf, isB_ft, isB_ff, Gd_true, Gd_false, Cnd_true, Cnd_false, if_true, if_false, Bool.false_eq_true, Nat.zero_add, Option.isNone_some, Option.isNone_none, Bool.not_true, Bool.not_false, List.getElem?_cons_succ, List.getElem?_cons_zero, ln_sl_uint8, ln_sl_api_Sequence, cv_uint16_int, ia_sl_uint8, cv_uint8_int, ln_string, sl_sl_uint8_hi, bd_match_finder_0_1_2_3_4, cv_int_uint32, bd_api_Sequence_0_1_2, ia_sl_api_Sequence, fa_api_Sequence_Literals, ld_uint32, cv_uint32_int, fa_api_Sequence_Match, fa_api_Sequence_Offset, ix_string, fa_match_finder_last, ld_map_ar4_uint8_int, fa_match_finder_ahead, ld_sl_int, ia_sl_int, fa_match_finder_tries, ld_int, fa_match_finder_b, ld_sl_uint8, bd_ar4_uint8_, sl_sl_uint8_lohi, sa_ar4_uint8, fa_match_finder_to, ld_uint8, d6, e1]
      exact (x1.seq x2).seq x3
    · have d6 : decide ((0 : Int) < (lvl : Int)) = true := by simp; omega
      simp (disch := omega) only [Stp, Same, stepR_value, stepR_skip, r_add, r_sub, r_mul, r_quo, r_rem, r_and, r_or, r_xor, r_andNot, r_shl, r_shr, r_eql, r_neq, r_lss, r_leq, r_gtr, r_geq, r_neg, r_cpl, r_not, r_pick, r_min, r_max, r_nil, x20, x21, x30, x31, x32, x40, x41, x42, x43, ldC_some, Result.ok.injEq, Next.value.injEq, true_and, and_true, w_i64, w_u64, w_i32, w_u32, w_u16, w_u8, Int.toNat_natCast, isB_tt, isB_tf, isB_ft, isB_ff, Gd_true, Gd_false, Cnd_true, Cnd_false, if_true, if_false, Bool.false_eq_true, Nat.zero_add, Option.isNone_some, Option.isNone_none, Bool.not_true, Bool.not_false, List.getElem?_cons_succ, List.getElem?_cons_zero, ln_sl_uint8, ln_sl_api_Sequence, cv_uint16_int, ia_sl_uint8, cv_uint8_int, ln_string, sl_sl_uint8_hi, bd_match_finder_0_1_2_3_4, cv_int_uint32, bd_api_Sequence_0_1_2, ia_sl_api_Sequence, fa_api_Sequence_Literals, ld_uint32, cv_uint32_int, fa_api_Sequence_Match, fa_api_Sequence_Offset, ix_string, fa_match_finder_last, ld_map_ar4_uint8_int, fa_match_finder_ahead, ld_sl_int, ia_sl_int, fa_match_finder_tries, ld_int, fa_match_finder_b, ld_sl_uint8, bd_ar4_uint8_, sl_sl_uint8_lohi, sa_ar4_uint8, fa_match_finder_to, ld_uint8, d6]
      exact (x1.seq x2).seq x3
end Go.Proofs.Ytoobkaojepgnjaa
