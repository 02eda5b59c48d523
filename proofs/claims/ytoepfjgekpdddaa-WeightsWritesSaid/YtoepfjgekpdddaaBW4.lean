/- Contract: the law's examples. -/
import Derived.Test.YtoepfjgekpdddaaAT
import Derived.Test.YtoepfjgekpdddaaBW3
import Derived.Test.YtoepfjgekpdddaaNT
namespace Go.Proofs.Ytoepfjgekpdddaa
open Go Go.En Go.Pu
set_option maxRecDepth 4000
set_option linter.unusedSimpArgs false
set_option linter.unusedVariables false

theorem awake8_c (w : World) : Does pg F_law08_awake #[] w (fun r w' => r = .bool true ∧ Ext w w' nob) := by
  refine law08_awake_does ?_
  unfold law08_awake law08_awake_p5 law08_awake_p4
  refine bs_sl_uint8 (cells := #[.int .u8 1]) (by decide) (by decide) (by kernel_rfl) fun w1 o1 x1 s1 => ?_
  have hb1 : Bs w1 (.slice (some ⟨w.heap.size, 0, none⟩) 1 1) [1] := ⟨_, _, _, rfl, rfl, Nat.le_refl _, fun _ => ⟨_, _, rfl, fun i hi => by rw [o1.cell, Nat.zero_add]; rfl⟩⟩
  refine (whole_c hb1 (by decide)).mono ?_
  rintro r w2 ⟨hwo, x2⟩
  have hw1 : wholeN (nats [1]) = some 1 := by decide +kernel
  rw [hw1] at hwo
  obtain ⟨v2, rfl, o2⟩ := hwo
  have o2 : OSl w2 w1.heap.size 1 v2 2 [.int .u8 1, .int .u8 1] := o2
  obtain ⟨a2, c2, rfl⟩ := o2.len
  simp (disch := omega) only [Stp, Same, stepR_value, stepR_skip, r_add, r_sub, r_mul, r_quo, r_rem, r_and, r_or, r_xor, r_andNot, r_shl, r_shr, r_eql, r_neq, r_lss, r_leq, r_gtr, r_geq, r_neg, r_cpl, r_not, r_pick, r_min, r_max, r_nil, x20, x21, x30, x31, x32, x40, x41, x42, x43, ldC_some, Result.ok.injEq, Next.value.injEq, true_and, and_true, w_i64, w_u64, w_i32, w_u32, w_u16, w_u8, Int.toNat_natCast, isB_tt, isB_tf, isB_ft, isB_ff, Gd_true, Gd_false, Gs_true, Gs_false, Cnd_true, Cnd_false, if_true, if_false, Bool.false_eq_true, Nat.zero_add, Option.isNone_some, Option.isNone_none, Bool.not_true, Bool.not_false, List.getElem?_cons_succ, List.getElem?_cons_zero, ln_sl_uint8, cv_int_uint, cv_int_uint8, ln_string, ia_sl_uint8, ld_uint8, cv_uint8_int, bd_weights_Code_0_1, ia_sl_weights_Code, bd_lightermanref08_C_, ix_string, bd_lightermanref08_C_0_1, ia_sl_lightermanref08_C, sl_sl_uint8_lo, sl_sl_uint8_hi, ln_sl_uint32, ia_sl_uint32, ld_uint32, cv_uint32_uint64, sl_sl_uint32_hi, ln_sl_int, ia_sl_int, ld_int, cv_uint_uint32, seql_sl_uint8, cv_uint32_uint8, cv_uint64_uint8, ln_sl_weights_Code, fa_weights_Code_Bits, fa_weights_Code_Code]
  refine bs_sl_uint8 (cells := #[.int .u8 2, .int .u8 1, .int .u8 1]) (by decide) (by decide) (by kernel_rfl) fun w3 o3 x3 s3 => ?_
  have hb3 : Bs w3 (.slice (some ⟨w2.heap.size, 0, none⟩) 3 3) [2, 1, 1] := ⟨_, _, _, rfl, rfl, Nat.le_refl _, fun _ => ⟨_, _, rfl, fun i hi => by rw [o3.cell, Nat.zero_add]; rfl⟩⟩
  have hd2 : depthN (nats [2, 1, 1]) = 2 := by decide +kernel
  refine (codes_c hb3 hd2 (by decide)).mono ?_
  rintro r w4 ⟨b4, rfl, hb4, o4, x4⟩
  have hcd : cc (codesN (nats [2, 1, 1]) 2) = [.int .i64 1, .int .i64 1, .int .i64 2, .int .i64 0, .int .i64 2, .int .i64 1] := by
    have : codesN (nats [2, 1, 1]) 2 = [(1, 1), (2, 0), (2, 1)] := by decide +kernel
    rw [this]; rfl
  rw [hcd] at o4
  simp (disch := omega) only [Stp, Same, stepR_value, stepR_skip, r_add, r_sub, r_mul, r_quo, r_rem, r_and, r_or, r_xor, r_andNot, r_shl, r_shr, r_eql, r_neq, r_lss, r_leq, r_gtr, r_geq, r_neg, r_cpl, r_not, r_pick, r_min, r_max, r_nil, x20, x21, x30, x31, x32, x40, x41, x42, x43, ldC_some, Result.ok.injEq, Next.value.injEq, true_and, and_true, w_i64, w_u64, w_i32, w_u32, w_u16, w_u8, Int.toNat_natCast, isB_tt, isB_tf, isB_ft, isB_ff, Gd_true, Gd_false, Gs_true, Gs_false, Cnd_true, Cnd_false, if_true, if_false, Bool.false_eq_true, Nat.zero_add, Option.isNone_some, Option.isNone_none, Bool.not_true, Bool.not_false, List.getElem?_cons_succ, List.getElem?_cons_zero, ln_sl_uint8, cv_int_uint, cv_int_uint8, ln_string, ia_sl_uint8, ld_uint8, cv_uint8_int, bd_weights_Code_0_1, ia_sl_weights_Code, bd_lightermanref08_C_, ix_string, bd_lightermanref08_C_0_1, ia_sl_lightermanref08_C, sl_sl_uint8_lo, sl_sl_uint8_hi, ln_sl_uint32, ia_sl_uint32, ld_uint32, cv_uint32_uint64, sl_sl_uint32_hi, ln_sl_int, ia_sl_int, ld_int, cv_uint_uint32, seql_sl_uint8, cv_uint32_uint8, cv_uint64_uint8, ln_sl_weights_Code, fa_weights_Code_Bits, fa_weights_Code_Code]
  refine bs_sl_uint8 (cells := #[.int .u8 2, .int .u8 1, .int .u8 1]) (by decide) (by decide) (by kernel_rfl) fun w5 o5 x5 s5 => ?_
  have hb5 : Bs w5 (.slice (some ⟨w4.heap.size, 0, none⟩) 3 3) [2, 1, 1] := ⟨_, _, _, rfl, rfl, Nat.le_refl _, fun _ => ⟨_, _, rfl, fun i hi => by rw [o5.cell, Nat.zero_add]; rfl⟩⟩
  refine (wwrite_c hb5 hd2 (by decide) (by decide)).mono ?_
  rintro r w6 ⟨v6, rfl, o6, x6⟩
  have hwr : wrB (nats [2, 1, 1]) = [129, 33] := by decide +kernel
  rw [hwr] at o6
  have hb6 : Bs w6 v6 [129, 33] := o6.sl
  have o6 : OSl w6 w5.heap.size 1 v6 2 _ := o6
  obtain ⟨a6, c6, rfl⟩ := o6.len
  simp (disch := omega) only [Stp, Same, stepR_value, stepR_skip, r_add, r_sub, r_mul, r_quo, r_rem, r_and, r_or, r_xor, r_andNot, r_shl, r_shr, r_eql, r_neq, r_lss, r_leq, r_gtr, r_geq, r_neg, r_cpl, r_not, r_pick, r_min, r_max, r_nil, x20, x21, x30, x31, x32, x40, x41, x42, x43, ldC_some, Result.ok.injEq, Next.value.injEq, true_and, and_true, w_i64, w_u64, w_i32, w_u32, w_u16, w_u8, Int.toNat_natCast, isB_tt, isB_tf, isB_ft, isB_ff, Gd_true, Gd_false, Gs_true, Gs_false, Cnd_true, Cnd_false, if_true, if_false, Bool.false_eq_true, Nat.zero_add, Option.isNone_some, Option.isNone_none, Bool.not_true, Bool.not_false, List.getElem?_cons_succ, List.getElem?_cons_zero, ln_sl_uint8, cv_int_uint, cv_int_uint8, ln_string, ia_sl_uint8, ld_uint8, cv_uint8_int, bd_weights_Code_0_1, ia_sl_weights_Code, bd_lightermanref08_C_, ix_string, bd_lightermanref08_C_0_1, ia_sl_lightermanref08_C, sl_sl_uint8_lo, sl_sl_uint8_hi, ln_sl_uint32, ia_sl_uint32, ld_uint32, cv_uint32_uint64, sl_sl_uint32_hi, ln_sl_int, ia_sl_int, ld_int, cv_uint_uint32, seql_sl_uint8, cv_uint32_uint8, cv_uint64_uint8, ln_sl_weights_Code, fa_weights_Code_Bits, fa_weights_Code_Code]
  refine (readDirect_c (h := 129) (rest := [33]) hb6 rfl (by decide) (by decide) (by decide)).mono ?_
  rintro r w7 ⟨hdo, x7⟩
  unfold DirectOf at hdo
  rw [if_neg (by decide)] at hdo
  have hw7 : wholeN (halvesN (nats [33]) (129 - 127)) = some 1 := by decide +kernel
  have hh7 : byts (halvesN (nats [33]) (129 - 127)) ++ [UInt8.ofNat 1] = [2, 1, 1] := by decide +kernel
  rw [hw7] at hdo
  simp only [hh7] at hdo
  obtain ⟨v7, rfl, o7⟩ := hdo
  have o7 : OSl w7 w6.heap.size 1 v7 3 (([2, 1, 1] : List UInt8).map b2v) := o7
  have hb7 : Bs w7 v7 [2, 1, 1] := o7.sl
  obtain ⟨a7, c7, rfl⟩ := o7.len
  simp (disch := omega) only [Stp, Same, stepR_value, stepR_skip, r_add, r_sub, r_mul, r_quo, r_rem, r_and, r_or, r_xor, r_andNot, r_shl, r_shr, r_eql, r_neq, r_lss, r_leq, r_gtr, r_geq, r_neg, r_cpl, r_not, r_pick, r_min, r_max, r_nil, x20, x21, x30, x31, x32, x40, x41, x42, x43, ldC_some, Result.ok.injEq, Next.value.injEq, true_and, and_true, w_i64, w_u64, w_i32, w_u32, w_u16, w_u8, Int.toNat_natCast, isB_tt, isB_tf, isB_ft, isB_ff, Gd_true, Gd_false, Gs_true, Gs_false, Cnd_true, Cnd_false, if_true, if_false, Bool.false_eq_true, Nat.zero_add, Option.isNone_some, Option.isNone_none, Bool.not_true, Bool.not_false, List.getElem?_cons_succ, List.getElem?_cons_zero, ln_sl_uint8, cv_int_uint, cv_int_uint8, ln_string, ia_sl_uint8, ld_uint8, cv_uint8_int, bd_weights_Code_0_1, ia_sl_weights_Code, bd_lightermanref08_C_, ix_string, bd_lightermanref08_C_0_1, ia_sl_lightermanref08_C, sl_sl_uint8_lo, sl_sl_uint8_hi, ln_sl_uint32, ia_sl_uint32, ld_uint32, cv_uint32_uint64, sl_sl_uint32_hi, ln_sl_int, ia_sl_int, ld_int, cv_uint_uint32, seql_sl_uint8, cv_uint32_uint8, cv_uint64_uint8, ln_sl_weights_Code, fa_weights_Code_Bits, fa_weights_Code_Code]
  refine bs_sl_uint32 (cells := #[.int .u32 9, .int .u32 0, .int .u32 1]) (by decide) (by decide) (by kernel_rfl) fun w8 o8 x8 s8 => ?_
  have hs8 : Sl w8 (.slice (some ⟨w7.heap.size, 0, none⟩) 3 3) (u32s [9, 0, 1]) := ⟨_, _, _, rfl, rfl, Nat.le_refl _, fun _ => ⟨_, _, rfl, fun i hi => by rw [o8.cell, Nat.zero_add]; rfl⟩⟩
  refine (ofw_c hs8 (by decide) (by decide)).mono ?_
  rintro r w9 ⟨hof, x9⟩
  rcases hof with ⟨h, _⟩ | ⟨_, last, v9, wl, hla, _, _, _, _, _, rfl, o9⟩
  · exact absurd h (by decide)
  have hlast2 : last = 2 := hla.one (.inr ⟨by decide, by decide, fun j h1 h2 => by simp at h2; omega⟩)
  subst hlast2
  have o9 : OSl w9 w8.heap.size 1 v9 3 _ := o9
  obtain ⟨a9, c9, rfl⟩ := o9.len
  have x79 := x8.seq x9
  have x49 := ((x5.seq x6).seq x7).seq x79
  have x29 := (x3.seq x4).seq x49
  have o2e := o2.ext x29 (fun _ _ h => h)
  have o4e := o4.ext x49 (fun h => h)
  have hb7e := hb7.ext x79 (inB_nob _)
  obtain ⟨b2, off2, rfl, hcell2⟩ := slA o2e.sl (by decide)
  have g2 := hcell2 1 (by decide)
  have k0 := o4e.cell (off := 0)
  have k1 := o4e.cell (off := 1)
  have k5 := o4e.cell (off := 5)
  simp only [List.getElem?_cons_zero, List.getElem?_cons_succ] at g2 k0 k1 k5
  have hcv := cv_sl_uint8_string hb7e
  have hse : ((⟨([2, 1, 1] : List UInt8).toArray⟩ : ByteArray).toList == (⟨#[2, 1, 1]⟩ : ByteArray).toList) = true := by
    have : (⟨([2, 1, 1] : List UInt8).toArray⟩ : ByteArray) = ⟨#[2, 1, 1]⟩ := rfl
    rw [this]; exact str_same _
  have n1 : ((0 : Int) == 0) = true := rfl
  have n2 : (((2 : Nat) : Int) == 2) = true := rfl
  have n3 : (((3 : Nat) : Int) == 3) = true := rfl
  have n4 : ((1 : Int) == 1) = true := rfl
  have n5 : (((1 + (129 - 127 + 1) / 2 : Nat) : Int) == ((2 : Nat) : Int)) = true := rfl
  have n6 : ((([2, 1, 1] : List UInt8).length : Int) == 3) = true := rfl
  have hL3 : ([2, 1, 1] : List UInt8).length = 3 := rfl
  have t0 : (0 : Int).toNat = 0 := rfl
  have t1 : (1 : Int).toNat = 1 := rfl
  have t2 : (2 : Int).toNat = 2 := rfl
  simp (disch := omega) only [Stp, Same, stepR_value, stepR_skip, r_add, r_sub, r_mul, r_quo, r_rem, r_and, r_or, r_xor, r_andNot, r_shl, r_shr, r_eql, r_neq, r_lss, r_leq, r_gtr, r_geq, r_neg, r_cpl, r_not, r_pick, r_min, r_max, r_nil, x20, x21, x30, x31, x32, x40, x41, x42, x43, ldC_some, Result.ok.injEq, Next.value.injEq, true_and, and_true, w_i64, w_u64, w_i32, w_u32, w_u16, w_u8, Int.toNat_natCast, isB_tt, isB_tf, isB_ft, isB_ff, Gd_true, Gd_false, Gs_true, Gs_false, Cnd_true, Cnd_false, if_true, if_false, Bool.false_eq_true, Nat.zero_add, Option.isNone_some, Option.isNone_none, Bool.not_true, Bool.not_false, List.getElem?_cons_succ, List.getElem?_cons_zero, ln_sl_uint8, cv_int_uint, cv_int_uint8, ln_string, ia_sl_uint8, ld_uint8, cv_uint8_int, bd_weights_Code_0_1, ia_sl_weights_Code, bd_lightermanref08_C_, ix_string, bd_lightermanref08_C_0_1, ia_sl_lightermanref08_C, sl_sl_uint8_lo, sl_sl_uint8_hi, ln_sl_uint32, ia_sl_uint32, ld_uint32, cv_uint32_uint64, sl_sl_uint32_hi, ln_sl_int, ia_sl_int, ld_int, cv_uint_uint32, seql_sl_uint8, cv_uint32_uint8, cv_uint64_uint8, ln_sl_weights_Code, fa_weights_Code_Bits, fa_weights_Code_Code]
  unfold law08_awake_p3 law08_awake_p2
  simp (maxSteps := 4000000) (disch := omega) only [Stp, Same, stepR_value, stepR_skip, r_add, r_sub, r_mul, r_quo, r_rem, r_and, r_or, r_xor, r_andNot, r_shl, r_shr, r_eql, r_neq, r_lss, r_leq, r_gtr, r_geq, r_neg, r_cpl, r_not, r_pick, r_min, r_max, r_nil, x20, x21, x30, x31, x32, x40, x41, x42, x43, ldC_some, Result.ok.injEq, Next.value.injEq, true_and, and_true, w_i64, w_u64, w_i32, w_u32, w_u16, w_u8, Int.toNat_natCast, isB_tt, isB_tf, isB_ft, isB_ff, Gd_true, Gd_false, Gs_true, Gs_false, Cnd_true, Cnd_false, if_true, if_false, Bool.false_eq_true, Nat.zero_add, Option.isNone_some, Option.isNone_none, Bool.not_true, Bool.not_false, List.getElem?_cons_succ, List.getElem?_cons_zero, ln_sl_uint8, cv_int_uint, cv_int_uint8, ln_string, ia_sl_uint8, ld_uint8, cv_uint8_int, bd_weights_Code_0_1, ia_sl_weights_Code, bd_lightermanref08_C_, ix_string, bd_lightermanref08_C_0_1, ia_sl_lightermanref08_C, sl_sl_uint8_lo, sl_sl_uint8_hi, ln_sl_uint32, ia_sl_uint32, ld_uint32, cv_uint32_uint64, sl_sl_uint32_hi, ln_sl_int, ia_sl_int, ld_int, cv_uint_uint32, seql_sl_uint8, cv_uint32_uint8, cv_uint64_uint8, ln_sl_weights_Code, fa_weights_Code_Bits, fa_weights_Code_Code, hL3, g2, k0, k1, k5, hcv, r_seql, hse, n1, n2, n3, n4, n5, n6, t0, t1, t2]
  unfold law08_awake_p1
  exact ⟨rfl, (x1.seq x2).seq x29⟩
end Go.Proofs.Ytoepfjgekpdddaa
/- Contract: the law WeightsWrites. -/
namespace Go.Proofs.Ytoepfjgekpdddaa
open Go Go.En Go.Pu
set_option maxRecDepth 4000
set_option linter.unusedSimpArgs false
set_option linter.unusedVariables false

theorem weightsWrites_c {v : Value} {l : List UInt8} {w : World} (h : Bs w v l) (hl : l.length ≤ 9223372036854775807) :
    Does pg F_law08_WeightsWrites #[v] w (fun r w' => r = .bool true ∧ Ext w w' nob) := by
  refine law08_WeightsWrites_does ?_
  unfold law08_WeightsWrites law08_WeightsWrites_p1
  obtain ⟨a, n, c, hv, hn, hc, _⟩ := id h
  rw [List.length_map] at hn
  subst hn
  have hv' := hv
  subst hv'
  refine (awake8_c w).mono ?_
  rintro r w1 ⟨rfl, x1⟩
  by_cases h1 : 300 < l.length
  · have d1 : decide ((300 : Int) < (l.length : Int)) = true := by simp; omega
    simp (disch := omega) only [Stp, Same, stepR_value, stepR_skip, r_add, r_sub, r_mul, r_quo, r_rem, r_and, r_or, r_xor, r_andNot, r_shl, r_shr, r_eql, r_neq, r_lss, r_leq, r_gtr, r_geq, r_neg, r_cpl, r_not, r_pick, r_min, r_max, r_nil, x20, x21, x30, x31, x32, x40, x41, x42, x43, ldC_some, Result.ok.injEq, Next.value.injEq, true_and, and_true, w_i64, w_u64, w_i32, w_u32, w_u16, w_u8, Int.toNat_natCast, isB_tt, isB_tf, isB_ft, isB_ff, Gd_true, Gd_false, Gs_true, Gs_false, Cnd_true, Cnd_false, if_true, if_false, Bool.false_eq_true, Nat.zero_add, Option.isNone_some, Option.isNone_none, Bool.not_true, Bool.not_false, List.getElem?_cons_succ, List.getElem?_cons_zero, ln_sl_uint8, cv_int_uint, cv_int_uint8, ln_string, ia_sl_uint8, ld_uint8, cv_uint8_int, bd_weights_Code_0_1, ia_sl_weights_Code, bd_lightermanref08_C_, ix_string, bd_lightermanref08_C_0_1, ia_sl_lightermanref08_C, sl_sl_uint8_lo, sl_sl_uint8_hi, ln_sl_uint32, ia_sl_uint32, ld_uint32, cv_uint32_uint64, sl_sl_uint32_hi, ln_sl_int, ia_sl_int, ld_int, cv_uint_uint32, seql_sl_uint8, cv_uint32_uint8, cv_uint64_uint8, ln_sl_weights_Code, fa_weights_Code_Bits, fa_weights_Code_Code, ln_sl_lightermanref08_C, fa_lightermanref08_C_Bits, fa_lightermanref08_C_Code, d1]
    exact x1
  have d1 : decide ((300 : Int) < (l.length : Int)) = false := by simp; omega
  simp (disch := omega) only [Stp, Same, stepR_value, stepR_skip, r_add, r_sub, r_mul, r_quo, r_rem, r_and, r_or, r_xor, r_andNot, r_shl, r_shr, r_eql, r_neq, r_lss, r_leq, r_gtr, r_geq, r_neg, r_cpl, r_not, r_pick, r_min, r_max, r_nil, x20, x21, x30, x31, x32, x40, x41, x42, x43, ldC_some, Result.ok.injEq, Next.value.injEq, true_and, and_true, w_i64, w_u64, w_i32, w_u32, w_u16, w_u8, Int.toNat_natCast, isB_tt, isB_tf, isB_ft, isB_ff, Gd_true, Gd_false, Gs_true, Gs_false, Cnd_true, Cnd_false, if_true, if_false, Bool.false_eq_true, Nat.zero_add, Option.isNone_some, Option.isNone_none, Bool.not_true, Bool.not_false, List.getElem?_cons_succ, List.getElem?_cons_zero, ln_sl_uint8, cv_int_uint, cv_int_uint8, ln_string, ia_sl_uint8, ld_uint8, cv_uint8_int, bd_weights_Code_0_1, ia_sl_weights_Code, bd_lightermanref08_C_, ix_string, bd_lightermanref08_C_0_1, ia_sl_lightermanref08_C, sl_sl_uint8_lo, sl_sl_uint8_hi, ln_sl_uint32, ia_sl_uint32, ld_uint32, cv_uint32_uint64, sl_sl_uint32_hi, ln_sl_int, ia_sl_int, ld_int, cv_uint_uint32, seql_sl_uint8, cv_uint32_uint8, cv_uint64_uint8, ln_sl_weights_Code, fa_weights_Code_Bits, fa_weights_Code_Code, ln_sl_lightermanref08_C, fa_lightermanref08_C_Bits, fa_lightermanref08_C_Code, d1]
  have hb1 := h.ext x1 (inB_nob _)
  have hl1 : lst (⟨l.toArray⟩ : ByteArray) = l := lst_mk l
  have hz1 : (⟨l.toArray⟩ : ByteArray).size = l.length := by rw [← lst_length, hl1]
  by_cases hbad : depthN (nats l) = 0 ∨ 129 < l.length
  · refine (wwrite_bad hb1 (by omega) hbad).mono ?_
    rintro r w2 ⟨rfl, rfl⟩
    have hcv := cv_sl_uint8_string hb1
    obtain ⟨f, hf, hf0⟩ : ∃ f : Int, f = (if depthN (nats l) = 0 then 1 else 12) ∧ f ≠ 0 := ⟨_, rfl, by split <;> decide⟩
    rw [← hf]
    simp (disch := omega) only [Stp, Same, stepR_value, stepR_skip, r_add, r_sub, r_mul, r_quo, r_rem, r_and, r_or, r_xor, r_andNot, r_shl, r_shr, r_eql, r_neq, r_lss, r_leq, r_gtr, r_geq, r_neg, r_cpl, r_not, r_pick, r_min, r_max, r_nil, x20, x21, x30, x31, x32, x40, x41, x42, x43, ldC_some, Result.ok.injEq, Next.value.injEq, true_and, and_true, w_i64, w_u64, w_i32, w_u32, w_u16, w_u8, Int.toNat_natCast, isB_tt, isB_tf, isB_ft, isB_ff, Gd_true, Gd_false, Gs_true, Gs_false, Cnd_true, Cnd_false, if_true, if_false, Bool.false_eq_true, Nat.zero_add, Option.isNone_some, Option.isNone_none, Bool.not_true, Bool.not_false, List.getElem?_cons_succ, List.getElem?_cons_zero, ln_sl_uint8, cv_int_uint, cv_int_uint8, ln_string, ia_sl_uint8, ld_uint8, cv_uint8_int, bd_weights_Code_0_1, ia_sl_weights_Code, bd_lightermanref08_C_, ix_string, bd_lightermanref08_C_0_1, ia_sl_lightermanref08_C, sl_sl_uint8_lo, sl_sl_uint8_hi, ln_sl_uint32, ia_sl_uint32, ld_uint32, cv_uint32_uint64, sl_sl_uint32_hi, ln_sl_int, ia_sl_int, ld_int, cv_uint_uint32, seql_sl_uint8, cv_uint32_uint8, cv_uint64_uint8, ln_sl_weights_Code, fa_weights_Code_Bits, fa_weights_Code_Code, ln_sl_lightermanref08_C, fa_lightermanref08_C_Bits, fa_lightermanref08_C_Code, hcv]
    refine (refWrite8_bad (x := ⟨l.toArray⟩) (by omega) (by rw [hl1, hz1]; exact hbad)).mono ?_
    rintro r w3 ⟨rfl, rfl⟩
    rw [hl1, ← hf]
    have hcv2 := cv_sl_uint8_string (w := w3) (l := []) (Sl.nil w3)
    have hse : ((⟨([] : List UInt8).toArray⟩ : ByteArray).toList == (⟨#[]⟩ : ByteArray).toList) = true := str_same _
    have n1 : (f != f) = false := by simp
    have n2 : (f != 0) = true := by simp [hf0]
    simp (disch := omega) only [Stp, Same, stepR_value, stepR_skip, r_add, r_sub, r_mul, r_quo, r_rem, r_and, r_or, r_xor, r_andNot, r_shl, r_shr, r_eql, r_neq, r_lss, r_leq, r_gtr, r_geq, r_neg, r_cpl, r_not, r_pick, r_min, r_max, r_nil, x20, x21, x30, x31, x32, x40, x41, x42, x43, ldC_some, Result.ok.injEq, Next.value.injEq, true_and, and_true, w_i64, w_u64, w_i32, w_u32, w_u16, w_u8, Int.toNat_natCast, isB_tt, isB_tf, isB_ft, isB_ff, Gd_true, Gd_false, Gs_true, Gs_false, Cnd_true, Cnd_false, if_true, if_false, Bool.false_eq_true, Nat.zero_add, Option.isNone_some, Option.isNone_none, Bool.not_true, Bool.not_false, List.getElem?_cons_succ, List.getElem?_cons_zero, ln_sl_uint8, cv_int_uint, cv_int_uint8, ln_string, ia_sl_uint8, ld_uint8, cv_uint8_int, bd_weights_Code_0_1, ia_sl_weights_Code, bd_lightermanref08_C_, ix_string, bd_lightermanref08_C_0_1, ia_sl_lightermanref08_C, sl_sl_uint8_lo, sl_sl_uint8_hi, ln_sl_uint32, ia_sl_uint32, ld_uint32, cv_uint32_uint64, sl_sl_uint32_hi, ln_sl_int, ia_sl_int, ld_int, cv_uint_uint32, seql_sl_uint8, cv_uint32_uint8, cv_uint64_uint8, ln_sl_weights_Code, fa_weights_Code_Bits, fa_weights_Code_Code, ln_sl_lightermanref08_C, fa_lightermanref08_C_Bits, fa_lightermanref08_C_Code, hcv2, r_sneq, hse, n1, n2]
    exact x1
  obtain ⟨d, hd⟩ : ∃ d, depthN (nats l) = d := ⟨_, rfl⟩
  rw [hd] at hbad
  have hd0 : d ≠ 0 := fun h => hbad (.inl h)
  have hl129 : l.length ≤ 129 := by omega
  have hnl := nats_length l
  obtain ⟨hall, hd11, hl2, hl256, hlast, hsum⟩ := depthN_ok hd hd0
  refine (wwrite_c hb1 hd hd0 hl129).mono ?_
  rintro r w2 ⟨v2, rfl, o2, x2⟩
  have hb2 := hb1.ext x2 (inB_nob _)
  have hcv := cv_sl_uint8_string hb2
  simp (disch := omega) only [Stp, Same, stepR_value, stepR_skip, r_add, r_sub, r_mul, r_quo, r_rem, r_and, r_or, r_xor, r_andNot, r_shl, r_shr, r_eql, r_neq, r_lss, r_leq, r_gtr, r_geq, r_neg, r_cpl, r_not, r_pick, r_min, r_max, r_nil, x20, x21, x30, x31, x32, x40, x41, x42, x43, ldC_some, Result.ok.injEq, Next.value.injEq, true_and, and_true, w_i64, w_u64, w_i32, w_u32, w_u16, w_u8, Int.toNat_natCast, isB_tt, isB_tf, isB_ft, isB_ff, Gd_true, Gd_false, Gs_true, Gs_false, Cnd_true, Cnd_false, if_true, if_false, Bool.false_eq_true, Nat.zero_add, Option.isNone_some, Option.isNone_none, Bool.not_true, Bool.not_false, List.getElem?_cons_succ, List.getElem?_cons_zero, ln_sl_uint8, cv_int_uint, cv_int_uint8, ln_string, ia_sl_uint8, ld_uint8, cv_uint8_int, bd_weights_Code_0_1, ia_sl_weights_Code, bd_lightermanref08_C_, ix_string, bd_lightermanref08_C_0_1, ia_sl_lightermanref08_C, sl_sl_uint8_lo, sl_sl_uint8_hi, ln_sl_uint32, ia_sl_uint32, ld_uint32, cv_uint32_uint64, sl_sl_uint32_hi, ln_sl_int, ia_sl_int, ld_int, cv_uint_uint32, seql_sl_uint8, cv_uint32_uint8, cv_uint64_uint8, ln_sl_weights_Code, fa_weights_Code_Bits, fa_weights_Code_Code, ln_sl_lightermanref08_C, fa_lightermanref08_C_Bits, fa_lightermanref08_C_Code, hcv]
  refine (refWrite8_c (x := ⟨l.toArray⟩) (by rw [hl1]; exact hd) hd0 (by omega)).mono ?_
  rintro r w3 ⟨y, hy, rfl, x3⟩
  rw [hl1] at hy
  obtain rfl : y = ⟨(byts (wrB (nats l))).toArray⟩ := lst_inj (by rw [hy]; rfl)
  have o3 := o2.ext x3 (fun _ _ h => h)
  have hb3 : Bs w3 v2 (byts (wrB (nats l))) := o3.sl
  have hcv3 := cv_sl_uint8_string hb3
  obtain ⟨a2, c2, rfl⟩ := o3.len
  have hwl := wrB_length (nats l)
  obtain ⟨m, k, hlm, hml, hwh, hhp, htk⟩ := wrB_read hd hd0 (by omega)
  have hse : ((⟨(byts (wrB (nats l))).toArray⟩ : ByteArray).toList == (⟨(byts (wrB (nats l))).toArray⟩ : ByteArray).toList) = true := str_same _
  have n1 : ((0 : Int) != 0) = false := rfl
  simp (disch := omega) only [Stp, Same, stepR_value, stepR_skip, r_add, r_sub, r_mul, r_quo, r_rem, r_and, r_or, r_xor, r_andNot, r_shl, r_shr, r_eql, r_neq, r_lss, r_leq, r_gtr, r_geq, r_neg, r_cpl, r_not, r_pick, r_min, r_max, r_nil, x20, x21, x30, x31, x32, x40, x41, x42, x43, ldC_some, Result.ok.injEq, Next.value.injEq, true_and, and_true, w_i64, w_u64, w_i32, w_u32, w_u16, w_u8, Int.toNat_natCast, isB_tt, isB_tf, isB_ft, isB_ff, Gd_true, Gd_false, Gs_true, Gs_false, Cnd_true, Cnd_false, if_true, if_false, Bool.false_eq_true, Nat.zero_add, Option.isNone_some, Option.isNone_none, Bool.not_true, Bool.not_false, List.getElem?_cons_succ, List.getElem?_cons_zero, ln_sl_uint8, cv_int_uint, cv_int_uint8, ln_string, ia_sl_uint8, ld_uint8, cv_uint8_int, bd_weights_Code_0_1, ia_sl_weights_Code, bd_lightermanref08_C_, ix_string, bd_lightermanref08_C_0_1, ia_sl_lightermanref08_C, sl_sl_uint8_lo, sl_sl_uint8_hi, ln_sl_uint32, ia_sl_uint32, ld_uint32, cv_uint32_uint64, sl_sl_uint32_hi, ln_sl_int, ia_sl_int, ld_int, cv_uint_uint32, seql_sl_uint8, cv_uint32_uint8, cv_uint64_uint8, ln_sl_weights_Code, fa_weights_Code_Bits, fa_weights_Code_Code, ln_sl_lightermanref08_C, fa_lightermanref08_C_Bits, fa_lightermanref08_C_Code, hcv3, r_sneq, hse, n1]
  have hre : byts (wrB (nats l)) = UInt8.ofNat (126 + l.length) :: byts (packN m) := by
    unfold wrB
    show List.map _ (_ :: _) = _
    rw [List.map_cons, htk, hnl]
  have hrl : (byts (packN m)).length = (m.length + 1) / 2 := by rw [List.length_map, packN_length]
  refine (readDirect_c (h := 126 + l.length) (rest := byts (packN m)) hb3 hre (by omega) (by omega) (by omega)).mono ?_
  rintro r w4 ⟨hdo, x4⟩
  have hh : 126 + l.length - 127 = m.length := by omega
  have hpm : ∀ x ∈ packN m, x < 256 := fun x hx => wrB_lt (fun w hw => Nat.le_trans (hall w hw) hd11) (by omega) x (by
    unfold wrB; rw [htk]; exact List.mem_cons_of_mem _ hx)
  have hnb : nats (byts (packN m)) = packN m := nats_byts hpm
  unfold DirectOf at hdo
  rw [hh, if_neg (by omega), hnb, hwh] at hdo
  simp only [hhp] at hdo
  obtain ⟨v4, rfl, o4⟩ := hdo
  have hle : byts m ++ [UInt8.ofNat k] = l := by
    have : byts (nats l) = l := byts_nats l
    rw [hlm] at this
    rw [← this]
    show _ = List.map _ (m ++ [k])
    rw [List.map_append]; rfl
  rw [hle] at o4
  have hb4 : Bs w4 v4 l := o4.sl
  obtain ⟨a4, c4, rfl⟩ := o4.len
  have hcv4 := cv_sl_uint8_string hb4
  have hcvl := cv_sl_uint8_string ((hb2.ext x3 (inB_nob _)).ext x4 (inB_nob _))
  have hse2 : ((⟨l.toArray⟩ : ByteArray).toList == (⟨l.toArray⟩ : ByteArray).toList) = true := str_same _
  have n2 : ((0 : Int) == 0) = true := rfl
  have n3 : (((1 + (m.length + 1) / 2 : Nat) : Int) == (((wrB (nats l)).length : Nat) : Int)) = true := by
    rw [hwl, hnl, ← hnl, ← hml]; simp
  simp (disch := omega) only [Stp, Same, stepR_value, stepR_skip, r_add, r_sub, r_mul, r_quo, r_rem, r_and, r_or, r_xor, r_andNot, r_shl, r_shr, r_eql, r_neq, r_lss, r_leq, r_gtr, r_geq, r_neg, r_cpl, r_not, r_pick, r_min, r_max, r_nil, x20, x21, x30, x31, x32, x40, x41, x42, x43, ldC_some, Result.ok.injEq, Next.value.injEq, true_and, and_true, w_i64, w_u64, w_i32, w_u32, w_u16, w_u8, Int.toNat_natCast, isB_tt, isB_tf, isB_ft, isB_ff, Gd_true, Gd_false, Gs_true, Gs_false, Cnd_true, Cnd_false, if_true, if_false, Bool.false_eq_true, Nat.zero_add, Option.isNone_some, Option.isNone_none, Bool.not_true, Bool.not_false, List.getElem?_cons_succ, List.getElem?_cons_zero, ln_sl_uint8, cv_int_uint, cv_int_uint8, ln_string, ia_sl_uint8, ld_uint8, cv_uint8_int, bd_weights_Code_0_1, ia_sl_weights_Code, bd_lightermanref08_C_, ix_string, bd_lightermanref08_C_0_1, ia_sl_lightermanref08_C, sl_sl_uint8_lo, sl_sl_uint8_hi, ln_sl_uint32, ia_sl_uint32, ld_uint32, cv_uint32_uint64, sl_sl_uint32_hi, ln_sl_int, ia_sl_int, ld_int, cv_uint_uint32, seql_sl_uint8, cv_uint32_uint8, cv_uint64_uint8, ln_sl_weights_Code, fa_weights_Code_Bits, fa_weights_Code_Code, ln_sl_lightermanref08_C, fa_lightermanref08_C_Bits, fa_lightermanref08_C_Code, n2, n3, hcv4, hcvl, r_seql, hse2]
  exact ((x1.seq x2).seq x3).seq x4
end Go.Proofs.Ytoepfjgekpdddaa
