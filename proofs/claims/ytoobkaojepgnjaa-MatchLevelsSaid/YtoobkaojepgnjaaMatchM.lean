/- Contracts: the laws of match, more of them. -/
import Derived.Test.YtoobkaojepgnjaaMatchL
namespace Go.Proofs.Ytoobkaojepgnjaa
open Go Go.En
set_option maxRecDepth 4000
set_option linter.unusedSimpArgs false

theorem rep_set (a b : Value) (i m : Nat) : (List.replicate i a ++ List.replicate (m + 1) b).set i a = List.replicate (i + 1) a ++ List.replicate m b := by
  rw [List.set_append_right _ _ (by simp), List.length_replicate, Nat.sub_self, List.replicate_succ (n := m), List.set_cons_zero, List.replicate_succ' (n := i), List.append_assoc]
  rfl

theorem matchSame_c {w : World} (c : UInt8) (n lv : Nat) (hn : n < 65536) (hlv : lv < 256) :
    Does pg F_law17_MatchSame #[.int .u8 c.toNat, .int .u16 n, .int .u8 lv] w (fun r w' => r = .bool true ∧ Ext w w' nob) := by
  refine law17_MatchSame_does ?_
  unfold law17_MatchSame law17_MatchSame_p9 law17_MatchSame_p8
  refine (awake_c w).mono ?_
  rintro r w1 ⟨rfl, x1⟩
  obtain ⟨k, hk⟩ : ∃ k, k = n % 900 := ⟨_, rfl⟩
  have e1 : (n : Int).tmod 900 = (k : Int) := by rw [Int.tmod_eq_emod_of_nonneg (by omega)]; omega
  simp (disch := omega) only [Stp, Same, stepR_value, stepR_skip, r_add, r_sub, r_mul, r_quo, r_rem, r_and, r_or, r_xor, r_andNot, r_shl, r_shr, r_eql, r_neq, r_lss, r_leq, r_gtr, r_geq, r_neg, r_cpl, r_not, r_pick, r_min, r_max, r_nil, x20, x21, x30, x31, x32, x40, x41, x42, x43, ldC_some, Result.ok.injEq, Next.value.injEq, true_and, and_true, w_i64, w_u64, w_i32, w_u32, w_u16, w_u8, Int.toNat_natCast, isB_tt, isB_tf, isB_ft, isB_ff, Gd_true, Gd_false, Cnd_true, Cnd_false, if_true, if_false, Bool.false_eq_true, Nat.zero_add, Option.isNone_some, Option.isNone_none, Bool.not_true, Bool.not_false, List.getElem?_cons_succ, List.getElem?_cons_zero, ln_sl_uint8, ln_sl_api_Sequence, cv_uint16_int, ia_sl_uint8, cv_uint8_int, ln_string, sl_sl_uint8_hi, bd_match_finder_0_1_2_3_4, cv_int_uint32, bd_api_Sequence_0_1_2, ia_sl_api_Sequence, fa_api_Sequence_Literals, ld_uint32, cv_uint32_int, fa_api_Sequence_Match, fa_api_Sequence_Offset, ix_string, fa_match_finder_last, ld_map_ar4_uint8_int, fa_match_finder_ahead, ld_sl_int, ia_sl_int, fa_match_finder_tries, ld_int, fa_match_finder_b, ld_sl_uint8, bd_ar4_uint8_, sl_sl_uint8_lohi, sa_ar4_uint8, fa_match_finder_to, ld_uint8, e1]
  refine mk_sl_uint8 (by omega) (by omega) fun w2 o2 x2 s2 => ?_
  have hc : c.toNat < 256 := c.toNat_lt
  unfold law17_MatchSame_p7 law17_MatchSame_p6 law17_MatchSame_p5 law17_MatchSame_p4 law17_MatchSame_p3
  simp only [Int.toNat_natCast] at o2 ⊢
  refine LoopD.rule (fun m t w' => ∃ i : Nat, m = k - i ∧ t = .int .i64 i ∧ i ≤ k ∧ Own w' w1.heap.size (List.replicate i (b2v c) ++ List.replicate (k - i) (.int .u8 0)) ∧ Ext w w' nob) k ⟨0, rfl, rfl, by omega, o2, x1.seq x2⟩ ?_
  rintro m t w3 ⟨i, rfl, rfl, hi, o3, x3⟩
  by_cases hlt : i < k
  · have d1 : decide ((i : Int) < (k : Int)) = true := by simp; omega
    unfold law17_MatchSame_p2
    simp (disch := omega) only [Stp, Same, stepR_value, stepR_skip, r_add, r_sub, r_mul, r_quo, r_rem, r_and, r_or, r_xor, r_andNot, r_shl, r_shr, r_eql, r_neq, r_lss, r_leq, r_gtr, r_geq, r_neg, r_cpl, r_not, r_pick, r_min, r_max, r_nil, x20, x21, x30, x31, x32, x40, x41, x42, x43, ldC_some, Result.ok.injEq, Next.value.injEq, true_and, and_true, w_i64, w_u64, w_i32, w_u32, w_u16, w_u8, Int.toNat_natCast, isB_tt, isB_tf, isB_ft, isB_ff, Gd_true, Gd_false, Cnd_true, Cnd_false, if_true, if_false, Bool.false_eq_true, Nat.zero_add, Option.isNone_some, Option.isNone_none, Bool.not_true, Bool.not_false, List.getElem?_cons_succ, List.getElem?_cons_zero, ln_sl_uint8, ln_sl_api_Sequence, cv_uint16_int, ia_sl_uint8, cv_uint8_int, ln_string, sl_sl_uint8_hi, bd_match_finder_0_1_2_3_4, cv_int_uint32, bd_api_Sequence_0_1_2, ia_sl_api_Sequence, fa_api_Sequence_Literals, ld_uint32, cv_uint32_int, fa_api_Sequence_Match, fa_api_Sequence_Offset, ix_string, fa_match_finder_last, ld_map_ar4_uint8_int, fa_match_finder_ahead, ld_sl_int, ia_sl_int, fa_match_finder_tries, ld_int, fa_match_finder_b, ld_sl_uint8, bd_ar4_uint8_, sl_sl_uint8_lohi, sa_ar4_uint8, fa_match_finder_to, ld_uint8, d1]
    refine st_uint8 o3 rfl (by simp; omega) fun w4 o4 x4 s4 => ?_
    rw [show k - i = (k - (i + 1)) + 1 from by omega, show (Value.int .u8 c.toNat) = b2v c from rfl, rep_set] at o4
    exact ⟨k - (i + 1), by omega, i + 1, rfl, rfl, by omega, o4, x3.new x4 x1.size⟩
  · have d1 : decide ((i : Int) < (k : Int)) = false := by simp; omega
    have : i = k := by omega
    subst this
    rw [Nat.sub_self, List.replicate_zero, List.append_nil] at o3
    obtain ⟨l, hl⟩ : ∃ l, l = lv % 9 := ⟨_, rfl⟩
    have e2 : (lv : Int).tmod 9 = (l : Int) := by rw [Int.tmod_eq_emod_of_nonneg (by omega)]; omega
    have e3 : (l : Int) + 1 = ((l + 1 : Nat) : Int) := by omega
    have b3 : Bs w3 (.slice (some ⟨w1.heap.size, 0, none⟩) i i) (List.replicate i c) := by
      have := own_whole (c := i) (l := List.replicate i c) (by rw [List.map_replicate]; exact o3) (by simp)
      simpa using this
    unfold law17_MatchSame_p2 law17_MatchSame_p1
    simp (disch := omega) only [Stp, Same, stepR_value, stepR_skip, r_add, r_sub, r_mul, r_quo, r_rem, r_and, r_or, r_xor, r_andNot, r_shl, r_shr, r_eql, r_neq, r_lss, r_leq, r_gtr, r_geq, r_neg, r_cpl, r_not, r_pick, r_min, r_max, r_nil, x20, x21, x30, x31, x32, x40, x41, x42, x43, ldC_some, Result.ok.injEq, Next.value.injEq, true_and, and_true, w_i64, w_u64, w_i32, w_u32, w_u16, w_u8, Int.toNat_natCast, isB_tt, isB_tf, isB_ft, isB_ff, Gd_true, Gd_false, Cnd_true, Cnd_false, if_true, if_false, Bool.false_eq_true, Nat.zero_add, Option.isNone_some, Option.isNone_none, Bool.not_true, Bool.not_false, List.getElem?_cons_succ, List.getElem?_cons_zero, ln_sl_uint8, ln_sl_api_Sequence, cv_uint16_int, ia_sl_uint8, cv_uint8_int, ln_string, sl_sl_uint8_hi, bd_match_finder_0_1_2_3_4, cv_int_uint32, bd_api_Sequence_0_1_2, ia_sl_api_Sequence, fa_api_Sequence_Literals, ld_uint32, cv_uint32_int, fa_api_Sequence_Match, fa_api_Sequence_Offset, ix_string, fa_match_finder_last, ld_map_ar4_uint8_int, fa_match_finder_ahead, ld_sl_int, ia_sl_int, fa_match_finder_tries, ld_int, fa_match_finder_b, ld_sl_uint8, bd_ar4_uint8_, sl_sl_uint8_lohi, sa_ar4_uint8, fa_match_finder_to, ld_uint8, d1, e2, e3]
    refine (find_c (to := i) (lvl := l + 1) (a0 := 0) (by omega) (by omega) (by simp) (by simp; omega) b3).mono ?_
    rintro r w4 ⟨⟨v4, L4, c4, rfl, o4, p4, h4, -, l4⟩, x4⟩
    have cv := cv_sl_uint8_string (b3.ext x4 (inB_nob _))
    have e3 : ((0 : Int) == 0) = true := rfl
    simp (disch := omega) only [Stp, Same, stepR_value, stepR_skip, r_add, r_sub, r_mul, r_quo, r_rem, r_and, r_or, r_xor, r_andNot, r_shl, r_shr, r_eql, r_neq, r_lss, r_leq, r_gtr, r_geq, r_neg, r_cpl, r_not, r_pick, r_min, r_max, r_nil, x20, x21, x30, x31, x32, x40, x41, x42, x43, ldC_some, Result.ok.injEq, Next.value.injEq, true_and, and_true, w_i64, w_u64, w_i32, w_u32, w_u16, w_u8, Int.toNat_natCast, isB_tt, isB_tf, isB_ft, isB_ff, Gd_true, Gd_false, Cnd_true, Cnd_false, if_true, if_false, Bool.false_eq_true, Nat.zero_add, Option.isNone_some, Option.isNone_none, Bool.not_true, Bool.not_false, List.getElem?_cons_succ, List.getElem?_cons_zero, ln_sl_uint8, ln_sl_api_Sequence, cv_uint16_int, ia_sl_uint8, cv_uint8_int, ln_string, sl_sl_uint8_hi, bd_match_finder_0_1_2_3_4, cv_int_uint32, bd_api_Sequence_0_1_2, ia_sl_api_Sequence, fa_api_Sequence_Literals, ld_uint32, cv_uint32_int, fa_api_Sequence_Match, fa_api_Sequence_Offset, ix_string, fa_match_finder_last, ld_map_ar4_uint8_int, fa_match_finder_ahead, ld_sl_int, ia_sl_int, fa_match_finder_tries, ld_int, fa_match_finder_b, ld_sl_uint8, bd_ar4_uint8_, sl_sl_uint8_lohi, sa_ar4_uint8, fa_match_finder_to, ld_uint8, e3, cv]
    refine (plan_c (s := ⟨(List.replicate i c).toArray⟩) (B := List.replicate i c) (to := i) (a0 := 0) rfl (by simp; omega) (by omega) (by simp) o4.cl p4).mono ?_
    rintro r w5 ⟨rfl, x5⟩
    by_cases h8 : i < 8
    · have d2 : decide ((i : Int) < 8) = true := by simp; omega
      simp (disch := omega) only [Stp, Same, stepR_value, stepR_skip, r_add, r_sub, r_mul, r_quo, r_rem, r_and, r_or, r_xor, r_andNot, r_shl, r_shr, r_eql, r_neq, r_lss, r_leq, r_gtr, r_geq, r_neg, r_cpl, r_not, r_pick, r_min, r_max, r_nil, x20, x21, x30, x31, x32, x40, x41, x42, x43, ldC_some, Result.ok.injEq, Next.value.injEq, true_and, and_true, w_i64, w_u64, w_i32, w_u32, w_u16, w_u8, Int.toNat_natCast, isB_tt, isB_tf, isB_ft, isB_ff, Gd_true, Gd_false, Cnd_true, Cnd_false, if_true, if_false, Bool.false_eq_true, Nat.zero_add, Option.isNone_some, Option.isNone_none, Bool.not_true, Bool.not_false, List.getElem?_cons_succ, List.getElem?_cons_zero, ln_sl_uint8, ln_sl_api_Sequence, cv_uint16_int, ia_sl_uint8, cv_uint8_int, ln_string, sl_sl_uint8_hi, bd_match_finder_0_1_2_3_4, cv_int_uint32, bd_api_Sequence_0_1_2, ia_sl_api_Sequence, fa_api_Sequence_Literals, ld_uint32, cv_uint32_int, fa_api_Sequence_Match, fa_api_Sequence_Offset, ix_string, fa_match_finder_last, ld_map_ar4_uint8_int, fa_match_finder_ahead, ld_sl_int, ia_sl_int, fa_match_finder_tries, ld_int, fa_match_finder_b, ld_sl_uint8, bd_ar4_uint8_, sl_sl_uint8_lohi, sa_ar4_uint8, fa_match_finder_to, ld_uint8, d2]
      exact (x3.seq x4).seq x5
    · have d2 : decide ((i : Int) < 8) = false := by simp; omega
      have hne := l4 (by omega) ⟨⟨c, fun j hj => by simp at hj; simp [hj]⟩, rfl, by simp, by omega⟩
      obtain ⟨a2, cc2, rfl⟩ := osl_len o4
      have : 0 < L4.length := List.length_pos_iff.2 hne
      have d3 : decide ((0 : Int) < (L4.length : Int)) = true := by simp; omega
      simp (disch := omega) only [Stp, Same, stepR_value, stepR_skip, r_add, r_sub, r_mul, r_quo, r_rem, r_and, r_or, r_xor, r_andNot, r_shl, r_shr, r_eql, r_neq, r_lss, r_leq, r_gtr, r_geq, r_neg, r_cpl, r_not, r_pick, r_min, r_max, r_nil, x20, x21, x30, x31, x32, x40, x41, x42, x43, ldC_some, Result.ok.injEq, Next.value.injEq, true_and, and_true, w_i64, w_u64, w_i32, w_u32, w_u16, w_u8, Int.toNat_natCast, isB_tt, isB_tf, isB_ft, isB_ff, Gd_true, Gd_false, Cnd_true, Cnd_false, if_true, if_false, Bool.false_eq_true, Nat.zero_add, Option.isNone_some, Option.isNone_none, Bool.not_true, Bool.not_false, List.getElem?_cons_succ, List.getElem?_cons_zero, ln_sl_uint8, ln_sl_api_Sequence, cv_uint16_int, ia_sl_uint8, cv_uint8_int, ln_string, sl_sl_uint8_hi, bd_match_finder_0_1_2_3_4, cv_int_uint32, bd_api_Sequence_0_1_2, ia_sl_api_Sequence, fa_api_Sequence_Literals, ld_uint32, cv_uint32_int, fa_api_Sequence_Match, fa_api_Sequence_Offset, ix_string, fa_match_finder_last, ld_map_ar4_uint8_int, fa_match_finder_ahead, ld_sl_int, ia_sl_int, fa_match_finder_tries, ld_int, fa_match_finder_b, ld_sl_uint8, bd_ar4_uint8_, sl_sl_uint8_lohi, sa_ar4_uint8, fa_match_finder_to, ld_uint8, d2, d3]
      exact (x3.seq x4).seq x5

theorem matchTwice_c {w : World} {bv mv : Value} {B M : List UInt8} (hbv : Bs w bv B) (hmv : Bs w mv M) (hB : B.length ≤ 9223372036854775807) (hM : M.length ≤ 9223372036854775807) :
    Does pg F_law17_MatchTwice #[bv, mv] w (fun r w' => r = .bool true ∧ Ext w w' nob) := by
  refine law17_MatchTwice_does ?_
  unfold law17_MatchTwice law17_MatchTwice_p9 law17_MatchTwice_p8
  refine (awake_c w).mono ?_
  rintro r w1 ⟨rfl, x1⟩
  obtain ⟨a, c, hv, hc⟩ := hbv.len
  obtain ⟨a', c', hv', hc'⟩ := hmv.len
  simp only [List.length_map] at hv hc hv' hc'
  have b1 := hbv.ext x1 (inB_nob _)
  have m1 := hmv.ext x1 (inB_nob _)
  have ln := fun w => ln_sl_uint8 (ty := 3) a B.length c w
  have ln' := fun w => ln_sl_uint8 (ty := 3) a' M.length c' w
  rw [← hv] at ln
  rw [← hv'] at ln'
  by_cases hb : 300 < B.length
  · have d : decide ((300 : Int) < (B.length : Int)) = true := by simp; omega
    simp (disch := omega) only [Stp, Same, stepR_value, stepR_skip, r_add, r_sub, r_mul, r_quo, r_rem, r_and, r_or, r_xor, r_andNot, r_shl, r_shr, r_eql, r_neq, r_lss, r_leq, r_gtr, r_geq, r_neg, r_cpl, r_not, r_pick, r_min, r_max, r_nil, x20, x21, x30, x31, x32, x40, x41, x42, x43, ldC_some, Result.ok.injEq, Next.value.injEq, true_and, and_true, w_i64, w_u64, w_i32, w_u32, w_u16, w_u8, Int.toNat_natCast, isB_tt, isB_tf, isB_ft, isB_ff, Gd_true, Gd_false, Cnd_true, Cnd_false, if_true, if_false, Bool.false_eq_true, Nat.zero_add, Option.isNone_some, Option.isNone_none, Bool.not_true, Bool.not_false, List.getElem?_cons_succ, List.getElem?_cons_zero, ln_sl_uint8, ln_sl_api_Sequence, cv_uint16_int, ia_sl_uint8, cv_uint8_int, ln_string, sl_sl_uint8_hi, bd_match_finder_0_1_2_3_4, cv_int_uint32, bd_api_Sequence_0_1_2, ia_sl_api_Sequence, fa_api_Sequence_Literals, ld_uint32, cv_uint32_int, fa_api_Sequence_Match, fa_api_Sequence_Offset, ix_string, fa_match_finder_last, ld_map_ar4_uint8_int, fa_match_finder_ahead, ld_sl_int, ia_sl_int, fa_match_finder_tries, ld_int, fa_match_finder_b, ld_sl_uint8, bd_ar4_uint8_, sl_sl_uint8_lohi, sa_ar4_uint8, fa_match_finder_to, ld_uint8, ln, d]
    exact x1
  have d : decide ((300 : Int) < (B.length : Int)) = false := by simp; omega
  by_cases hm : 300 < M.length
  · have d' : decide ((300 : Int) < (M.length : Int)) = true := by simp; omega
    simp (disch := omega) only [Stp, Same, stepR_value, stepR_skip, r_add, r_sub, r_mul, r_quo, r_rem, r_and, r_or, r_xor, r_andNot, r_shl, r_shr, r_eql, r_neq, r_lss, r_leq, r_gtr, r_geq, r_neg, r_cpl, r_not, r_pick, r_min, r_max, r_nil, x20, x21, x30, x31, x32, x40, x41, x42, x43, ldC_some, Result.ok.injEq, Next.value.injEq, true_and, and_true, w_i64, w_u64, w_i32, w_u32, w_u16, w_u8, Int.toNat_natCast, isB_tt, isB_tf, isB_ft, isB_ff, Gd_true, Gd_false, Cnd_true, Cnd_false, if_true, if_false, Bool.false_eq_true, Nat.zero_add, Option.isNone_some, Option.isNone_none, Bool.not_true, Bool.not_false, List.getElem?_cons_succ, List.getElem?_cons_zero, ln_sl_uint8, ln_sl_api_Sequence, cv_uint16_int, ia_sl_uint8, cv_uint8_int, ln_string, sl_sl_uint8_hi, bd_match_finder_0_1_2_3_4, cv_int_uint32, bd_api_Sequence_0_1_2, ia_sl_api_Sequence, fa_api_Sequence_Literals, ld_uint32, cv_uint32_int, fa_api_Sequence_Match, fa_api_Sequence_Offset, ix_string, fa_match_finder_last, ld_map_ar4_uint8_int, fa_match_finder_ahead, ld_sl_int, ia_sl_int, fa_match_finder_tries, ld_int, fa_match_finder_b, ld_sl_uint8, bd_ar4_uint8_, sl_sl_uint8_lohi, sa_ar4_uint8, fa_match_finder_to, ld_uint8, ln, ln', d, d']
    exact x1
  have d' : decide ((300 : Int) < (M.length : Int)) = false := by simp; omega
  have cv := cv_sl_uint8_string b1
  have cv' := cv_sl_uint8_string m1
  have sb : (⟨B.toArray⟩ : ByteArray).size = B.length := by rw [← lst_length]; rfl
  have sm : (⟨M.toArray⟩ : ByteArray).size = M.length := by rw [← lst_length]; rfl
  simp (disch := omega) only [Stp, Same, stepR_value, stepR_skip, r_add, r_sub, r_mul, r_quo, r_rem, r_and, r_or, r_xor, r_andNot, r_shl, r_shr, r_eql, r_neq, r_lss, r_leq, r_gtr, r_geq, r_neg, r_cpl, r_not, r_pick, r_min, r_max, r_nil, x20, x21, x30, x31, x32, x40, x41, x42, x43, ldC_some, Result.ok.injEq, Next.value.injEq, true_and, and_true, w_i64, w_u64, w_i32, w_u32, w_u16, w_u8, Int.toNat_natCast, isB_tt, isB_tf, isB_ft, isB_ff, Gd_true, Gd_false, Cnd_true, Cnd_false, if_true, if_false, Bool.false_eq_true, Nat.zero_add, Option.isNone_some, Option.isNone_none, Bool.not_true, Bool.not_false, List.getElem?_cons_succ, List.getElem?_cons_zero, ln_sl_uint8, ln_sl_api_Sequence, cv_uint16_int, ia_sl_uint8, cv_uint8_int, ln_string, sl_sl_uint8_hi, bd_match_finder_0_1_2_3_4, cv_int_uint32, bd_api_Sequence_0_1_2, ia_sl_api_Sequence, fa_api_Sequence_Literals, ld_uint32, cv_uint32_int, fa_api_Sequence_Match, fa_api_Sequence_Offset, ix_string, fa_match_finder_last, ld_map_ar4_uint8_int, fa_match_finder_ahead, ld_sl_int, ia_sl_int, fa_match_finder_tries, ld_int, fa_match_finder_b, ld_sl_uint8, bd_ar4_uint8_, sl_sl_uint8_lohi, sa_ar4_uint8, fa_match_finder_to, ld_uint8, ln, ln', d, d', cv, cv']
  rw [r_scat _ _ (by omega), stepR_value]
  simp (disch := omega) only [Stp, Same, stepR_value, stepR_skip, r_add, r_sub, r_mul, r_quo, r_rem, r_and, r_or, r_xor, r_andNot, r_shl, r_shr, r_eql, r_neq, r_lss, r_leq, r_gtr, r_geq, r_neg, r_cpl, r_not, r_pick, r_min, r_max, r_nil, x20, x21, x30, x31, x32, x40, x41, x42, x43, ldC_some, Result.ok.injEq, Next.value.injEq, true_and, and_true, w_i64, w_u64, w_i32, w_u32, w_u16, w_u8, Int.toNat_natCast, isB_tt, isB_tf, isB_ft, isB_ff, Gd_true, Gd_false, Cnd_true, Cnd_false, if_true, if_false, Bool.false_eq_true, Nat.zero_add, Option.isNone_some, Option.isNone_none, Bool.not_true, Bool.not_false, List.getElem?_cons_succ, List.getElem?_cons_zero, ln_sl_uint8, ln_sl_api_Sequence, cv_uint16_int, ia_sl_uint8, cv_uint8_int, ln_string, sl_sl_uint8_hi, bd_match_finder_0_1_2_3_4, cv_int_uint32, bd_api_Sequence_0_1_2, ia_sl_api_Sequence, fa_api_Sequence_Literals, ld_uint32, cv_uint32_int, fa_api_Sequence_Match, fa_api_Sequence_Offset, ix_string, fa_match_finder_last, ld_map_ar4_uint8_int, fa_match_finder_ahead, ld_sl_int, ia_sl_int, fa_match_finder_tries, ld_int, fa_match_finder_b, ld_sl_uint8, bd_ar4_uint8_, sl_sl_uint8_lohi, sa_ar4_uint8, fa_match_finder_to, ld_uint8, cv]
  rw [r_scat _ _ (by rw [ByteArray.size_append]; omega), stepR_value]
  simp (disch := omega) only [Stp, Same, stepR_value, stepR_skip, r_add, r_sub, r_mul, r_quo, r_rem, r_and, r_or, r_xor, r_andNot, r_shl, r_shr, r_eql, r_neq, r_lss, r_leq, r_gtr, r_geq, r_neg, r_cpl, r_not, r_pick, r_min, r_max, r_nil, x20, x21, x30, x31, x32, x40, x41, x42, x43, ldC_some, Result.ok.injEq, Next.value.injEq, true_and, and_true, w_i64, w_u64, w_i32, w_u32, w_u16, w_u8, Int.toNat_natCast, isB_tt, isB_tf, isB_ft, isB_ff, Gd_true, Gd_false, Cnd_true, Cnd_false, if_true, if_false, Bool.false_eq_true, Nat.zero_add, Option.isNone_some, Option.isNone_none, Bool.not_true, Bool.not_false, List.getElem?_cons_succ, List.getElem?_cons_zero, ln_sl_uint8, ln_sl_api_Sequence, cv_uint16_int, ia_sl_uint8, cv_uint8_int, ln_string, sl_sl_uint8_hi, bd_match_finder_0_1_2_3_4, cv_int_uint32, bd_api_Sequence_0_1_2, ia_sl_api_Sequence, fa_api_Sequence_Literals, ld_uint32, cv_uint32_int, fa_api_Sequence_Match, fa_api_Sequence_Offset, ix_string, fa_match_finder_last, ld_map_ar4_uint8_int, fa_match_finder_ahead, ld_sl_int, ia_sl_int, fa_match_finder_tries, ld_int, fa_match_finder_b, ld_sl_uint8, bd_ar4_uint8_, sl_sl_uint8_lohi, sa_ar4_uint8, fa_match_finder_to, ld_uint8, cv]
  rw [r_scat _ _ (by rw [ByteArray.size_append, ByteArray.size_append]; omega), stepR_value]
  obtain ⟨S, hS⟩ : ∃ S, S = (⟨B.toArray⟩ ++ ⟨M.toArray⟩ ++ ⟨B.toArray⟩ ++ ⟨B.toArray⟩ : ByteArray) := ⟨_, rfl⟩
  have hSs : S.size = B.length + M.length + B.length + B.length := by rw [hS, ByteArray.size_append, ByteArray.size_append, ByteArray.size_append, sb, sm]
  rw [← hS]
  have hSl := lst_length S
  unfold law17_MatchTwice_p7 law17_MatchTwice_p6 law17_MatchTwice_p5 law17_MatchTwice_p4 law17_MatchTwice_p3
  refine LoopD.rule (fun m t w' => ∃ i : Nat, m = 10 - i ∧ t = .int .i64 i ∧ i ≤ 10 ∧ Ext w w' nob) 10 ⟨0, rfl, rfl, by omega, x1⟩ ?_
  rintro m t w2 ⟨i, rfl, rfl, hi, x2⟩
  by_cases hlt : i < 10
  · have d1 : decide ((i : Int) < 10) = true := by simp; omega
    unfold law17_MatchTwice_p2
    simp (disch := omega) only [Stp, Same, stepR_value, stepR_skip, r_add, r_sub, r_mul, r_quo, r_rem, r_and, r_or, r_xor, r_andNot, r_shl, r_shr, r_eql, r_neq, r_lss, r_leq, r_gtr, r_geq, r_neg, r_cpl, r_not, r_pick, r_min, r_max, r_nil, x20, x21, x30, x31, x32, x40, x41, x42, x43, ldC_some, Result.ok.injEq, Next.value.injEq, true_and, and_true, w_i64, w_u64, w_i32, w_u32, w_u16, w_u8, Int.toNat_natCast, isB_tt, isB_tf, isB_ft, isB_ff, Gd_true, Gd_false, Cnd_true, Cnd_false, if_true, if_false, Bool.false_eq_true, Nat.zero_add, Option.isNone_some, Option.isNone_none, Bool.not_true, Bool.not_false, List.getElem?_cons_succ, List.getElem?_cons_zero, ln_sl_uint8, ln_sl_api_Sequence, cv_uint16_int, ia_sl_uint8, cv_uint8_int, ln_string, sl_sl_uint8_hi, bd_match_finder_0_1_2_3_4, cv_int_uint32, bd_api_Sequence_0_1_2, ia_sl_api_Sequence, fa_api_Sequence_Literals, ld_uint32, cv_uint32_int, fa_api_Sequence_Match, fa_api_Sequence_Offset, ix_string, fa_match_finder_last, ld_map_ar4_uint8_int, fa_match_finder_ahead, ld_sl_int, ia_sl_int, fa_match_finder_tries, ld_int, fa_match_finder_b, ld_sl_uint8, bd_ar4_uint8_, sl_sl_uint8_lohi, sa_ar4_uint8, fa_match_finder_to, ld_uint8, d1, ln]
    refine cv_string_sl_uint8 fun w3 c3 b3 x3 s3 _ => ?_
    refine (find_c (B := lst S) (to := S.size) (lvl := i) (a0 := 0) (by omega) (by omega) (by omega) (by omega) b3).mono ?_
    rintro r w4 ⟨⟨v4, L4, c4, rfl, o4, p4, h4, -, -⟩, x4⟩
    simp (disch := omega) only [Stp, Same, stepR_value, stepR_skip, r_add, r_sub, r_mul, r_quo, r_rem, r_and, r_or, r_xor, r_andNot, r_shl, r_shr, r_eql, r_neq, r_lss, r_leq, r_gtr, r_geq, r_neg, r_cpl, r_not, r_pick, r_min, r_max, r_nil, x20, x21, x30, x31, x32, x40, x41, x42, x43, ldC_some, Result.ok.injEq, Next.value.injEq, true_and, and_true, w_i64, w_u64, w_i32, w_u32, w_u16, w_u8, Int.toNat_natCast, isB_tt, isB_tf, isB_ft, isB_ff, Gd_true, Gd_false, Cnd_true, Cnd_false, if_true, if_false, Bool.false_eq_true, Nat.zero_add, Option.isNone_some, Option.isNone_none, Bool.not_true, Bool.not_false, List.getElem?_cons_succ, List.getElem?_cons_zero, ln_sl_uint8, ln_sl_api_Sequence, cv_uint16_int, ia_sl_uint8, cv_uint8_int, ln_string, sl_sl_uint8_hi, bd_match_finder_0_1_2_3_4, cv_int_uint32, bd_api_Sequence_0_1_2, ia_sl_api_Sequence, fa_api_Sequence_Literals, ld_uint32, cv_uint32_int, fa_api_Sequence_Match, fa_api_Sequence_Offset, ix_string, fa_match_finder_last, ld_map_ar4_uint8_int, fa_match_finder_ahead, ld_sl_int, ia_sl_int, fa_match_finder_tries, ld_int, fa_match_finder_b, ld_sl_uint8, bd_ar4_uint8_, sl_sl_uint8_lohi, sa_ar4_uint8, fa_match_finder_to, ld_uint8, d1, ln]
    refine cv_string_sl_uint8 fun w5 c5 b5 x5 s5 _ => ?_
    refine (find_c (B := lst S) (to := S.size) (lvl := i) (a0 := B.length) (by omega) (by omega) (by omega) (by omega) b5).mono ?_
    rintro r w6 ⟨⟨v6, L6, c6, rfl, o6, p6, h6, -, -⟩, x6⟩
    have e3 : ((0 : Int) != 0) = false := rfl
    simp (disch := omega) only [Stp, Same, stepR_value, stepR_skip, r_add, r_sub, r_mul, r_quo, r_rem, r_and, r_or, r_xor, r_andNot, r_shl, r_shr, r_eql, r_neq, r_lss, r_leq, r_gtr, r_geq, r_neg, r_cpl, r_not, r_pick, r_min, r_max, r_nil, x20, x21, x30, x31, x32, x40, x41, x42, x43, ldC_some, Result.ok.injEq, Next.value.injEq, true_and, and_true, w_i64, w_u64, w_i32, w_u32, w_u16, w_u8, Int.toNat_natCast, isB_tt, isB_tf, isB_ft, isB_ff, Gd_true, Gd_false, Cnd_true, Cnd_false, if_true, if_false, Bool.false_eq_true, Nat.zero_add, Option.isNone_some, Option.isNone_none, Bool.not_true, Bool.not_false, List.getElem?_cons_succ, List.getElem?_cons_zero, ln_sl_uint8, ln_sl_api_Sequence, cv_uint16_int, ia_sl_uint8, cv_uint8_int, ln_string, sl_sl_uint8_hi, bd_match_finder_0_1_2_3_4, cv_int_uint32, bd_api_Sequence_0_1_2, ia_sl_api_Sequence, fa_api_Sequence_Literals, ld_uint32, cv_uint32_int, fa_api_Sequence_Match, fa_api_Sequence_Offset, ix_string, fa_match_finder_last, ld_map_ar4_uint8_int, fa_match_finder_ahead, ld_sl_int, ia_sl_int, fa_match_finder_tries, ld_int, fa_match_finder_b, ld_sl_uint8, bd_ar4_uint8_, sl_sl_uint8_lohi, sa_ar4_uint8, fa_match_finder_to, ld_uint8, ln, e3]
    have o4' := o4.ext (x5.seq x6) (fun _ _ h => h)
    refine (plan_c (s := S) (B := lst S) (to := S.size) (a0 := 0) rfl (by omega) (by omega) (by omega) o4'.cl p4).mono ?_
    rintro r w7 ⟨rfl, x7⟩
    simp (disch := omega) only [Stp, Same, stepR_value, stepR_skip, r_add, r_sub, r_mul, r_quo, r_rem, r_and, r_or, r_xor, r_andNot, r_shl, r_shr, r_eql, r_neq, r_lss, r_leq, r_gtr, r_geq, r_neg, r_cpl, r_not, r_pick, r_min, r_max, r_nil, x20, x21, x30, x31, x32, x40, x41, x42, x43, ldC_some, Result.ok.injEq, Next.value.injEq, true_and, and_true, w_i64, w_u64, w_i32, w_u32, w_u16, w_u8, Int.toNat_natCast, isB_tt, isB_tf, isB_ft, isB_ff, Gd_true, Gd_false, Cnd_true, Cnd_false, if_true, if_false, Bool.false_eq_true, Nat.zero_add, Option.isNone_some, Option.isNone_none, Bool.not_true, Bool.not_false, List.getElem?_cons_succ, List.getElem?_cons_zero, ln_sl_uint8, ln_sl_api_Sequence, cv_uint16_int, ia_sl_uint8, cv_uint8_int, ln_string, sl_sl_uint8_hi, bd_match_finder_0_1_2_3_4, cv_int_uint32, bd_api_Sequence_0_1_2, ia_sl_api_Sequence, fa_api_Sequence_Literals, ld_uint32, cv_uint32_int, fa_api_Sequence_Match, fa_api_Sequence_Offset, ix_string, fa_match_finder_last, ld_map_ar4_uint8_int, fa_match_finder_ahead, ld_sl_int, ia_sl_int, fa_match_finder_tries, ld_int, fa_match_finder_b, ld_sl_uint8, bd_ar4_uint8_, sl_sl_uint8_lohi, sa_ar4_uint8, fa_match_finder_to, ld_uint8, ln, e3]
    refine (plan_c (s := S) (B := lst S) (to := S.size) (a0 := B.length) rfl (by omega) (by omega) (by omega) (o6.ext x7 (fun _ _ h => h)).cl p6).mono ?_
    rintro r w8 ⟨rfl, x8⟩
    simp (disch := omega) only [Stp, Same, stepR_value, stepR_skip, r_add, r_sub, r_mul, r_quo, r_rem, r_and, r_or, r_xor, r_andNot, r_shl, r_shr, r_eql, r_neq, r_lss, r_leq, r_gtr, r_geq, r_neg, r_cpl, r_not, r_pick, r_min, r_max, r_nil, x20, x21, x30, x31, x32, x40, x41, x42, x43, ldC_some, Result.ok.injEq, Next.value.injEq, true_and, and_true, w_i64, w_u64, w_i32, w_u32, w_u16, w_u8, Int.toNat_natCast, isB_tt, isB_tf, isB_ft, isB_ff, Gd_true, Gd_false, Cnd_true, Cnd_false, if_true, if_false, Bool.false_eq_true, Nat.zero_add, Option.isNone_some, Option.isNone_none, Bool.not_true, Bool.not_false, List.getElem?_cons_succ, List.getElem?_cons_zero, ln_sl_uint8, ln_sl_api_Sequence, cv_uint16_int, ia_sl_uint8, cv_uint8_int, ln_string, sl_sl_uint8_hi, bd_match_finder_0_1_2_3_4, cv_int_uint32, bd_api_Sequence_0_1_2, ia_sl_api_Sequence, fa_api_Sequence_Literals, ld_uint32, cv_uint32_int, fa_api_Sequence_Match, fa_api_Sequence_Offset, ix_string, fa_match_finder_last, ld_map_ar4_uint8_int, fa_match_finder_ahead, ld_sl_int, ia_sl_int, fa_match_finder_tries, ld_int, fa_match_finder_b, ld_sl_uint8, bd_ar4_uint8_, sl_sl_uint8_lohi, sa_ar4_uint8, fa_match_finder_to, ld_uint8]
    exact ⟨10 - (i + 1), by omega, i + 1, rfl, rfl, by omega, ((((((x2.seq x3).seq x4).seq x5).seq x6).seq x7).seq x8)⟩
  · have d1 : decide ((i : Int) < 10) = false := by simp; omega
    unfold law17_MatchTwice_p2 law17_MatchTwice_p1
    simp (disch := omega) only [Stp, Same, stepR_value, stepR_skip, r_add, r_sub, r_mul, r_quo, r_rem, r_and, r_or, r_xor, r_andNot, r_shl, r_shr, r_eql, r_neq, r_lss, r_leq, r_gtr, r_geq, r_neg, r_cpl, r_not, r_pick, r_min, r_max, r_nil, x20, x21, x30, x31, x32, x40, x41, x42, x43, ldC_some, Result.ok.injEq, Next.value.injEq, true_and, and_true, w_i64, w_u64, w_i32, w_u32, w_u16, w_u8, Int.toNat_natCast, isB_tt, isB_tf, isB_ft, isB_ff, Gd_true, Gd_false, Cnd_true, Cnd_false, if_true, if_false, Bool.false_eq_true, Nat.zero_add, Option.isNone_some, Option.isNone_none, Bool.not_true, Bool.not_false, List.getElem?_cons_succ, List.getElem?_cons_zero, ln_sl_uint8, ln_sl_api_Sequence, cv_uint16_int, ia_sl_uint8, cv_uint8_int, ln_string, sl_sl_uint8_hi, bd_match_finder_0_1_2_3_4, cv_int_uint32, bd_api_Sequence_0_1_2, ia_sl_api_Sequence, fa_api_Sequence_Literals, ld_uint32, cv_uint32_int, fa_api_Sequence_Match, fa_api_Sequence_Offset, ix_string, fa_match_finder_last, ld_map_ar4_uint8_int, fa_match_finder_ahead, ld_sl_int, ia_sl_int, fa_match_finder_tries, ld_int, fa_match_finder_b, ld_sl_uint8, bd_ar4_uint8_, sl_sl_uint8_lohi, sa_ar4_uint8, fa_match_finder_to, ld_uint8, d1]
    exact x2

theorem plan_take {B : List UInt8} {to : Nat} : ∀ {L : List Sq} {a b : Nat}, plan B to a L b → plan (B.take to) to a L b
  | [], _, _, h => h
  | x :: r, a, b, h => by
    obtain ⟨⟨h1, h2, h3, h4, h5, h6⟩, h7⟩ := h
    refine ⟨⟨h1, h2, h3, h4, h5, fun k hk => ?_⟩, plan_take h7⟩
    rw [List.getElem?_take_of_lt (by omega), List.getElem?_take_of_lt (by omega)]
    exact h6 k hk

theorem sl_take {w : World} {a : Option Addr} {n c : Nat} {l : List Value} (h : Sl w (.slice a n c) l) {k : Nat} (hk : k ≤ n) : Sl w (.slice (shift? a c 0 1) (k - 0) (c - 0)) (l.take k) := by
  have h' := h
  obtain ⟨a', n', c', e, hn, hc, hh⟩ := h'
  cases e
  by_cases h0 : k = 0
  · subst h0
    exact ⟨_, _, _, rfl, by simp, by omega, fun h => by simp at h⟩
  · obtain ⟨b, off, rfl, _⟩ := hh (by omega)
    exact h.take hk

theorem matchLevels_c {w : World} {bv : Value} {B : List UInt8} (hbv : Bs w bv B) (hB : B.length ≤ 9223372036854775807) (cut lv : Nat) (hcut : cut < 65536) (hlv : lv < 256) :
    Does pg F_law17_MatchLevels #[bv, .int .u16 cut, .int .u8 lv] w (fun r w' => r = .bool true ∧ Ext w w' nob) := by
  refine law17_MatchLevels_does ?_
  unfold law17_MatchLevels law17_MatchLevels_p1
  refine (awake_c w).mono ?_
  rintro r w1 ⟨rfl, x1⟩
  have b1 := hbv.ext x1 (inB_nob _)
  obtain ⟨a, c, hv, hc⟩ := hbv.len
  simp only [List.length_map] at hv hc
  subst hv
  by_cases hb : 600 < B.length
  · have d : decide ((600 : Int) < (B.length : Int)) = true := by simp; omega
    simp (disch := omega) only [Stp, Same, stepR_value, stepR_skip, r_add, r_sub, r_mul, r_quo, r_rem, r_and, r_or, r_xor, r_andNot, r_shl, r_shr, r_eql, r_neq, r_lss, r_leq, r_gtr, r_geq, r_neg, r_cpl, r_not, r_pick, r_min, r_max, r_nil, x20, x21, x30, x31, x32, x40, x41, x42, x43, ldC_some, Result.ok.injEq, Next.value.injEq, true_and, and_true, w_i64, w_u64, w_i32, w_u32, w_u16, w_u8, Int.toNat_natCast, isB_tt, isB_tf, isB_ft, isB_ff, Gd_true, Gd_false, Cnd_true, Cnd_false, if_true, if_false, Bool.false_eq_true, Nat.zero_add, Option.isNone_some, Option.isNone_none, Bool.not_true, Bool.not_false, List.getElem?_cons_succ, List.getElem?_cons_zero, ln_sl_uint8, ln_sl_api_Sequence, cv_uint16_int, ia_sl_uint8, cv_uint8_int, ln_string, sl_sl_uint8_hi, bd_match_finder_0_1_2_3_4, cv_int_uint32, bd_api_Sequence_0_1_2, ia_sl_api_Sequence, fa_api_Sequence_Literals, ld_uint32, cv_uint32_int, fa_api_Sequence_Match, fa_api_Sequence_Offset, ix_string, fa_match_finder_last, ld_map_ar4_uint8_int, fa_match_finder_ahead, ld_sl_int, ia_sl_int, fa_match_finder_tries, ld_int, fa_match_finder_b, ld_sl_uint8, bd_ar4_uint8_, sl_sl_uint8_lohi, sa_ar4_uint8, fa_match_finder_to, ld_uint8, d, List.length_map]
    exact x1
  have d : decide ((600 : Int) < (B.length : Int)) = false := by simp; omega
  obtain ⟨k, hk⟩ : ∃ k, k = cut % (B.length + 1) := ⟨_, rfl⟩
  have hkl : k ≤ B.length := by have := Nat.mod_lt cut (show 0 < B.length + 1 by omega); omega
  have e1 : (cut : Int).tmod ((B.length : Int) + 1) = (k : Int) := by rw [Int.tmod_eq_emod_of_nonneg (by omega), hk]; simp
  obtain ⟨l, hl⟩ : ∃ l, l = lv % 10 := ⟨_, rfl⟩
  have e2 : (lv : Int).tmod 10 = (l : Int) := by rw [Int.tmod_eq_emod_of_nonneg (by omega)]; omega
  simp (disch := omega) only [Stp, Same, stepR_value, stepR_skip, r_add, r_sub, r_mul, r_quo, r_rem, r_and, r_or, r_xor, r_andNot, r_shl, r_shr, r_eql, r_neq, r_lss, r_leq, r_gtr, r_geq, r_neg, r_cpl, r_not, r_pick, r_min, r_max, r_nil, x20, x21, x30, x31, x32, x40, x41, x42, x43, ldC_some, Result.ok.injEq, Next.value.injEq, true_and, and_true, w_i64, w_u64, w_i32, w_u32, w_u16, w_u8, Int.toNat_natCast, isB_tt, isB_tf, isB_ft, isB_ff, Gd_true, Gd_false, Cnd_true, Cnd_false, if_true, if_false, Bool.false_eq_true, Nat.zero_add, Option.isNone_some, Option.isNone_none, Bool.not_true, Bool.not_false, List.getElem?_cons_succ, List.getElem?_cons_zero, ln_sl_uint8, ln_sl_api_Sequence, cv_uint16_int, ia_sl_uint8, cv_uint8_int, ln_string, sl_sl_uint8_hi, bd_match_finder_0_1_2_3_4, cv_int_uint32, bd_api_Sequence_0_1_2, ia_sl_api_Sequence, fa_api_Sequence_Literals, ld_uint32, cv_uint32_int, fa_api_Sequence_Match, fa_api_Sequence_Offset, ix_string, fa_match_finder_last, ld_map_ar4_uint8_int, fa_match_finder_ahead, ld_sl_int, ia_sl_int, fa_match_finder_tries, ld_int, fa_match_finder_b, ld_sl_uint8, bd_ar4_uint8_, sl_sl_uint8_lohi, sa_ar4_uint8, fa_match_finder_to, ld_uint8, d, List.length_map, e1, e2]
  refine (find_c (to := k) (lvl := l) (a0 := 0) (by omega) (by omega) hkl (by omega) b1).mono ?_
  rintro r w2 ⟨⟨v2, L2, c2, rfl, o2, p2, h2, -, -⟩, x2⟩
  simp (disch := omega) only [Stp, Same, stepR_value, stepR_skip, r_add, r_sub, r_mul, r_quo, r_rem, r_and, r_or, r_xor, r_andNot, r_shl, r_shr, r_eql, r_neq, r_lss, r_leq, r_gtr, r_geq, r_neg, r_cpl, r_not, r_pick, r_min, r_max, r_nil, x20, x21, x30, x31, x32, x40, x41, x42, x43, ldC_some, Result.ok.injEq, Next.value.injEq, true_and, and_true, w_i64, w_u64, w_i32, w_u32, w_u16, w_u8, Int.toNat_natCast, isB_tt, isB_tf, isB_ft, isB_ff, Gd_true, Gd_false, Cnd_true, Cnd_false, if_true, if_false, Bool.false_eq_true, Nat.zero_add, Option.isNone_some, Option.isNone_none, Bool.not_true, Bool.not_false, List.getElem?_cons_succ, List.getElem?_cons_zero, ln_sl_uint8, ln_sl_api_Sequence, cv_uint16_int, ia_sl_uint8, cv_uint8_int, ln_string, sl_sl_uint8_hi, bd_match_finder_0_1_2_3_4, cv_int_uint32, bd_api_Sequence_0_1_2, ia_sl_api_Sequence, fa_api_Sequence_Literals, ld_uint32, cv_uint32_int, fa_api_Sequence_Match, fa_api_Sequence_Offset, ix_string, fa_match_finder_last, ld_map_ar4_uint8_int, fa_match_finder_ahead, ld_sl_int, ia_sl_int, fa_match_finder_tries, ld_int, fa_match_finder_b, ld_sl_uint8, bd_ar4_uint8_, sl_sl_uint8_lohi, sa_ar4_uint8, fa_match_finder_to, ld_uint8, d, List.length_map, e1, e2]
  have b2 := b1.ext x2 (inB_nob _)
  refine (find_c (to := B.length) (lvl := l) (a0 := k) (by omega) (by omega) (Nat.le_refl _) (by omega) b2).mono ?_
  rintro r w3 ⟨⟨v3, L3, c3, rfl, o3, p3, h3, -, -⟩, x3⟩
  have b3 := b2.ext x3 (inB_nob _)
  have t3 := sl_take b3 (k := k) (by omega)
  rw [← List.map_take] at t3
  have cv1 := cv_sl_uint8_string t3
  have e3 : ((0 : Int) == 0) = true := rfl
  simp (disch := omega) only [Stp, Same, stepR_value, stepR_skip, r_add, r_sub, r_mul, r_quo, r_rem, r_and, r_or, r_xor, r_andNot, r_shl, r_shr, r_eql, r_neq, r_lss, r_leq, r_gtr, r_geq, r_neg, r_cpl, r_not, r_pick, r_min, r_max, r_nil, x20, x21, x30, x31, x32, x40, x41, x42, x43, ldC_some, Result.ok.injEq, Next.value.injEq, true_and, and_true, w_i64, w_u64, w_i32, w_u32, w_u16, w_u8, Int.toNat_natCast, isB_tt, isB_tf, isB_ft, isB_ff, Gd_true, Gd_false, Cnd_true, Cnd_false, if_true, if_false, Bool.false_eq_true, Nat.zero_add, Option.isNone_some, Option.isNone_none, Bool.not_true, Bool.not_false, List.getElem?_cons_succ, List.getElem?_cons_zero, ln_sl_uint8, ln_sl_api_Sequence, cv_uint16_int, ia_sl_uint8, cv_uint8_int, ln_string, sl_sl_uint8_hi, bd_match_finder_0_1_2_3_4, cv_int_uint32, bd_api_Sequence_0_1_2, ia_sl_api_Sequence, fa_api_Sequence_Literals, ld_uint32, cv_uint32_int, fa_api_Sequence_Match, fa_api_Sequence_Offset, ix_string, fa_match_finder_last, ld_map_ar4_uint8_int, fa_match_finder_ahead, ld_sl_int, ia_sl_int, fa_match_finder_tries, ld_int, fa_match_finder_b, ld_sl_uint8, bd_ar4_uint8_, sl_sl_uint8_lohi, sa_ar4_uint8, fa_match_finder_to, ld_uint8, List.length_map, e3, cv1]
  refine (plan_c (s := ⟨(B.take k).toArray⟩) (B := B.take k) (to := k) (a0 := 0) rfl (by simp; omega) (by omega) (by simp; omega) ((o2.ext x3 (fun _ _ h => h)).cl) (plan_take p2)).mono ?_
  rintro r w4 ⟨rfl, x4⟩
  have cv2 := cv_sl_uint8_string (b3.ext x4 (inB_nob _))
  simp (disch := omega) only [Stp, Same, stepR_value, stepR_skip, r_add, r_sub, r_mul, r_quo, r_rem, r_and, r_or, r_xor, r_andNot, r_shl, r_shr, r_eql, r_neq, r_lss, r_leq, r_gtr, r_geq, r_neg, r_cpl, r_not, r_pick, r_min, r_max, r_nil, x20, x21, x30, x31, x32, x40, x41, x42, x43, ldC_some, Result.ok.injEq, Next.value.injEq, true_and, and_true, w_i64, w_u64, w_i32, w_u32, w_u16, w_u8, Int.toNat_natCast, isB_tt, isB_tf, isB_ft, isB_ff, Gd_true, Gd_false, Cnd_true, Cnd_false, if_true, if_false, Bool.false_eq_true, Nat.zero_add, Option.isNone_some, Option.isNone_none, Bool.not_true, Bool.not_false, List.getElem?_cons_succ, List.getElem?_cons_zero, ln_sl_uint8, ln_sl_api_Sequence, cv_uint16_int, ia_sl_uint8, cv_uint8_int, ln_string, sl_sl_uint8_hi, bd_match_finder_0_1_2_3_4, cv_int_uint32, bd_api_Sequence_0_1_2, ia_sl_api_Sequence, fa_api_Sequence_Literals, ld_uint32, cv_uint32_int, fa_api_Sequence_Match, fa_api_Sequence_Offset, ix_string, fa_match_finder_last, ld_map_ar4_uint8_int, fa_match_finder_ahead, ld_sl_int, ia_sl_int, fa_match_finder_tries, ld_int, fa_match_finder_b, ld_sl_uint8, bd_ar4_uint8_, sl_sl_uint8_lohi, sa_ar4_uint8, fa_match_finder_to, ld_uint8, List.length_map, e3, cv2]
  refine (plan_c (s := ⟨B.toArray⟩) (B := B) (to := B.length) (a0 := k) rfl (by omega) (by omega) (Nat.le_refl _) ((o3.ext x4 (fun _ _ h => h)).cl) p3).mono ?_
  rintro r w5 ⟨rfl, x5⟩
  simp (disch := omega) only [Stp, Same, stepR_value, stepR_skip, r_add, r_sub, r_mul, r_quo, r_rem, r_and, r_or, r_xor, r_andNot, r_shl, r_shr, r_eql, r_neq, r_lss, r_leq, r_gtr, r_geq, r_neg, r_cpl, r_not, r_pick, r_min, r_max, r_nil, x20, x21, x30, x31, x32, x40, x41, x42, x43, ldC_some, Result.ok.injEq, Next.value.injEq, true_and, and_true, w_i64, w_u64, w_i32, w_u32, w_u16, w_u8, Int.toNat_natCast, isB_tt, isB_tf, isB_ft, isB_ff, Gd_true, Gd_false, Cnd_true, Cnd_false, if_true, if_false, Bool.false_eq_true, Nat.zero_add, Option.isNone_some, Option.isNone_none, Bool.not_true, Bool.not_false, List.getElem?_cons_succ, List.getElem?_cons_zero, ln_sl_uint8, ln_sl_api_Sequence, cv_uint16_int, ia_sl_uint8, cv_uint8_int, ln_string, sl_sl_uint8_hi, bd_match_finder_0_1_2_3_4, cv_int_uint32, bd_api_Sequence_0_1_2, ia_sl_api_Sequence, fa_api_Sequence_Literals, ld_uint32, cv_uint32_int, fa_api_Sequence_Match, fa_api_Sequence_Offset, ix_string, fa_match_finder_last, ld_map_ar4_uint8_int, fa_match_finder_ahead, ld_sl_int, ia_sl_int, fa_match_finder_tries, ld_int, fa_match_finder_b, ld_sl_uint8, bd_ar4_uint8_, sl_sl_uint8_lohi, sa_ar4_uint8, fa_match_finder_to, ld_uint8]
  exact (((x1.seq x2).seq x3).seq x4).seq x5

theorem matchSame_n {w : World} (c n lv : Nat) (hc : c < 256) (hn : n < 65536) (hlv : lv < 256) :
    Does pg F_law17_MatchSame #[.int .u8 c, .int .u16 n, .int .u8 lv] w (fun r w' => r = .bool true ∧ Ext w w' nob) := by
  obtain ⟨c, rfl⟩ : ∃ x : UInt8, c = x.toNat := ⟨UInt8.ofNat c, by rw [UInt8.toNat_ofNat']; omega⟩
  exact matchSame_c c n lv hn hlv
end Go.Proofs.Ytoobkaojepgnjaa
