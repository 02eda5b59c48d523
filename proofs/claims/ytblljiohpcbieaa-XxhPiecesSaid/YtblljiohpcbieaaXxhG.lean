/- Contracts: the document's example. -/
import Derived.Test.YtblljiohpcbieaaXxhF
namespace Go.Proofs.Ytblljiohpcbieaa
open Go Go.En
set_option maxRecDepth 4000
set_option linter.unusedSimpArgs false

theorem xxh_nil : XXH [] = 17241709254077376921 := by kernel_rfl

theorem bs_none (w : World) : Bs w (.slice none 0 0) [] := ⟨none, 0, 0, rfl, rfl, by omega, fun h => absurd h (by simp)⟩

theorem HashAt.ext {w w' : World} {b : Nat} {L : List UInt8} {M : Nat → Prop} (h : HashAt w b L) (x : Ext w w' M) (hM : ¬ M b) : HashAt w' b L := by
  obtain ⟨kept, h2, hk, ho⟩ := h
  exact ⟨kept, h2, hk, ho.ext x hM⟩
theorem HashAt.lt {w : World} {b : Nat} {L : List UInt8} (h : HashAt w b L) : b < w.heap.size := by
  obtain ⟨kept, h2, hk, ho⟩ := h
  exact ho.lt

theorem awake_c (w : World) : Does pg F_law03_awake #[] w (fun r w' => r = .bool true ∧ Ext w w' nob) := by
  refine law03_awake_does ?_
  simp (disch := omega) only [law03_awake, law03_awake_p1, Stp, Same, stepR_value, stepR_skip, r_add, r_sub, r_mul, r_quo, r_rem, r_and, r_or, r_xor, r_andNot, r_shl, r_shr, r_eql, r_neq, r_lss, r_leq, r_gtr, r_geq, r_neg, r_cpl, r_not, r_pick, r_min, r_max, r_nil, x20, x21, x30, x31, x32, x40, x41, x42, x43, ldC_some, Result.ok.injEq, Next.value.injEq, true_and, and_true, w_i64, w_u64, w_i32, w_u32, w_u16, w_u8, Int.toNat_natCast, isB_tt, isB_tf, isB_ft, isB_ff, Gd_true, Gd_false, Cnd_true, Cnd_false, if_true, if_false, Bool.false_eq_true, Nat.zero_add, Option.isNone_some, Option.isNone_none, Bool.not_true, Bool.not_false, List.getElem?_cons_succ, List.getElem?_cons_zero, ln_sl_sl_uint8, ia_sl_sl_uint8, ld_sl_uint8, ln_sl_uint8, cv_uint16_int, cv_int_uint8, ia_sl_uint8, ln_sl_uint16, ia_sl_uint16, ld_uint16, sl_sl_uint8_lohi, sl_sl_uint8_hi, sl_sl_uint8_lo, cv_uint8_int, bd_ar4_uint64_0_1_2_3, bd_xxh_Hash_0, peql_p_xxh_Hash, fa_xxh_Hash_all, ld_uint64, cv_int_uint64, fa_xxh_Hash_kept, fa_xxh_Hash_n, ld_int, sl_ar32_uint8_lo, fa_xxh_Hash_v, ia_ar4_uint64, sl_ar32_uint8_lohi, sl_ar32_uint8_hi, ld_uint8, cv_uint8_uint64, ln_string, ix_string, cv_int_uint, bd_ar4_int_0_1_2_3, ix_ar4_int, ix_ar4_uint64, sl_string_lo, bd_lightermanref01_R_0, fa_lightermanref01_R_E, ld_api_Errno, fa_lightermanref01_R_B, ld_string, sl_string_hi]
  refine (new_c w).mono ?_
  rintro r w1 ⟨rfl, h1, x1⟩
  refine bs_sl_uint8 (cells := #[.int .u8 97]) (by decide) (by decide) (by kernel_rfl) fun w2 o2 x2 s2 => ?_
  refine csl_sl_uint8 o2 fun w3 o3 x3 s3 => ?_
  have z1 := h1.lt
  have b3 : Bs w3 (.slice (some ⟨w1.heap.size, 0, none⟩) 1 1) [97] := o3.bs (off := 0) (l := [97]) (by simp) fun j hj => by
    have : j = 0 := by simp at hj; omega
    subst this; rfl
  have h3 := (h1.ext x2 (fun h => h)).ext x3 (by omega)
  refine (write_c _ [] [97] (by simp) _ w3 h3 b3 (by show ¬ w1.heap.size = w.heap.size; omega)).mono ?_
  rintro r w4 ⟨rfl, h4, x4⟩
  have xa : Ext w w4 nob := ((x1.seq x2).new x3 x1.size).new x4 (Nat.le_refl _)
  clear b3 h3 o3 o2
  refine bs_sl_uint8 (cells := #[.int .u8 98, .int .u8 99]) (by decide) (by decide) (by kernel_rfl) fun w5 o5 x5 s5 => ?_
  refine csl_sl_uint8 o5 fun w6 o6 x6 s6 => ?_
  have z4 := h4.lt
  have b6 : Bs w6 (.slice (some ⟨w4.heap.size, 0, none⟩) 2 2) [98, 99] := o6.bs (off := 0) (l := [98, 99]) (by simp) fun j hj => by
    have : j = 0 ∨ j = 1 := by simp at hj; omega
    rcases this with rfl | rfl <;> rfl
  have h6 := (h4.ext x5 (fun h => h)).ext x6 (by omega)
  refine (write_c _ ([] ++ [97]) [98, 99] (by simp) _ w6 h6 b6 (by show ¬ w4.heap.size = w.heap.size; omega)).mono ?_
  rintro r w7 ⟨rfl, h7, x7⟩
  have xb : Ext w w7 nob := ((xa.seq x5).new x6 xa.size).new x7 (Nat.le_refl _)
  clear b6 h6 o6 o5
  refine bs_sl_uint8 (cells := #[.int .u8 97, .int .u8 98, .int .u8 99]) (by decide) (by decide) (by kernel_rfl) fun w8 o8 x8 s8 => ?_
  refine csl_sl_uint8 o8 fun w9 o9 x9 s9 => ?_
  have z7 := h7.lt
  have b9 : Bs w9 (.slice (some ⟨w7.heap.size, 0, none⟩) 3 3) [97, 98, 99] := o9.bs (off := 0) (l := [97, 98, 99]) (by simp) fun j hj => by
    have : j = 0 ∨ j = 1 ∨ j = 2 := by simp at hj; omega
    rcases this with rfl | rfl | rfl <;> rfl
  have h9 := (h7.ext x8 (fun h => h)).ext x9 (by omega)
  refine (of_c [97, 98, 99] (by simp) _ w9 b9).mono ?_
  rintro r w10 ⟨rfl, x10⟩
  refine (sum_c _ _ (by simp) w10 (h9.ext x10 (fun h => h))).mono ?_
  rintro r w11 ⟨rfl, x11⟩
  have xc : Ext w w11 nob := (((xb.seq x8).new x9 xb.size).seq x10).seq x11
  have e : ([] ++ [97] ++ [98, 99] : List UInt8) = [97, 98, 99] := rfl
  have d : (XXH [97, 98, 99] == XXH [97, 98, 99]) = true := by simp
  rw [e]
  simp (disch := omega) only [Stp, Same, stepR_value, stepR_skip, r_add, r_sub, r_mul, r_quo, r_rem, r_and, r_or, r_xor, r_andNot, r_shl, r_shr, r_eql, r_neq, r_lss, r_leq, r_gtr, r_geq, r_neg, r_cpl, r_not, r_pick, r_min, r_max, r_nil, x20, x21, x30, x31, x32, x40, x41, x42, x43, ldC_some, Result.ok.injEq, Next.value.injEq, true_and, and_true, w_i64, w_u64, w_i32, w_u32, w_u16, w_u8, Int.toNat_natCast, isB_tt, isB_tf, isB_ft, isB_ff, Gd_true, Gd_false, Cnd_true, Cnd_false, if_true, if_false, Bool.false_eq_true, Nat.zero_add, Option.isNone_some, Option.isNone_none, Bool.not_true, Bool.not_false, List.getElem?_cons_succ, List.getElem?_cons_zero, ln_sl_sl_uint8, ia_sl_sl_uint8, ld_sl_uint8, ln_sl_uint8, cv_uint16_int, cv_int_uint8, ia_sl_uint8, ln_sl_uint16, ia_sl_uint16, ld_uint16, sl_sl_uint8_lohi, sl_sl_uint8_hi, sl_sl_uint8_lo, cv_uint8_int, bd_ar4_uint64_0_1_2_3, bd_xxh_Hash_0, peql_p_xxh_Hash, fa_xxh_Hash_all, ld_uint64, cv_int_uint64, fa_xxh_Hash_kept, fa_xxh_Hash_n, ld_int, sl_ar32_uint8_lo, fa_xxh_Hash_v, ia_ar4_uint64, sl_ar32_uint8_lohi, sl_ar32_uint8_hi, ld_uint8, cv_uint8_uint64, ln_string, ix_string, cv_int_uint, bd_ar4_int_0_1_2_3, ix_ar4_int, ix_ar4_uint64, sl_string_lo, bd_lightermanref01_R_0, fa_lightermanref01_R_E, ld_api_Errno, fa_lightermanref01_R_B, ld_string, sl_string_hi, d]
  refine (of_c [] (by simp) _ w11 (bs_none _)).mono ?_
  rintro r w12 ⟨rfl, x12⟩
  rw [xxh_nil]
  have d : ((17241709254077376921 : Int) == 17241709254077376921) = true := by simp
  simp (disch := omega) only [Stp, Same, stepR_value, stepR_skip, r_add, r_sub, r_mul, r_quo, r_rem, r_and, r_or, r_xor, r_andNot, r_shl, r_shr, r_eql, r_neq, r_lss, r_leq, r_gtr, r_geq, r_neg, r_cpl, r_not, r_pick, r_min, r_max, r_nil, x20, x21, x30, x31, x32, x40, x41, x42, x43, ldC_some, Result.ok.injEq, Next.value.injEq, true_and, and_true, w_i64, w_u64, w_i32, w_u32, w_u16, w_u8, Int.toNat_natCast, isB_tt, isB_tf, isB_ft, isB_ff, Gd_true, Gd_false, Cnd_true, Cnd_false, if_true, if_false, Bool.false_eq_true, Nat.zero_add, Option.isNone_some, Option.isNone_none, Bool.not_true, Bool.not_false, List.getElem?_cons_succ, List.getElem?_cons_zero, ln_sl_sl_uint8, ia_sl_sl_uint8, ld_sl_uint8, ln_sl_uint8, cv_uint16_int, cv_int_uint8, ia_sl_uint8, ln_sl_uint16, ia_sl_uint16, ld_uint16, sl_sl_uint8_lohi, sl_sl_uint8_hi, sl_sl_uint8_lo, cv_uint8_int, bd_ar4_uint64_0_1_2_3, bd_xxh_Hash_0, peql_p_xxh_Hash, fa_xxh_Hash_all, ld_uint64, cv_int_uint64, fa_xxh_Hash_kept, fa_xxh_Hash_n, ld_int, sl_ar32_uint8_lo, fa_xxh_Hash_v, ia_ar4_uint64, sl_ar32_uint8_lohi, sl_ar32_uint8_hi, ld_uint8, cv_uint8_uint64, ln_string, ix_string, cv_int_uint, bd_ar4_int_0_1_2_3, ix_ar4_int, ix_ar4_uint64, sl_string_lo, bd_lightermanref01_R_0, fa_lightermanref01_R_E, ld_api_Errno, fa_lightermanref01_R_B, ld_string, sl_string_hi, d]
  exact xc.seq x12

end Go.Proofs.Ytblljiohpcbieaa
