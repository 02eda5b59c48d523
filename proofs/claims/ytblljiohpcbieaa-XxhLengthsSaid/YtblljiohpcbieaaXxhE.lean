/- The sum as a function of bytes; contracts of joined, Sum, Of. -/
import Derived.Test.YtblljiohpcbieaaXxhD
namespace Go.Proofs.Ytblljiohpcbieaa
open Go Go.En
set_option maxRecDepth 4000
set_option linter.unusedSimpArgs false

theorem wrap_range (n : Int) : 0 ≤ IntKind.u64.wrap n ∧ IntKind.u64.wrap n ≤ 18446744073709551615 := by rw [wu64]; omega
theorem rotI_range (x : Int) (k : Nat) : 0 ≤ rotI x k ∧ rotI x k ≤ 18446744073709551615 := wrap_range _

def jA (vs : List Int) : Nat → Int
  | 0 => 0
  | i + 1 => IntKind.u64.wrap (jA vs i + rotI (vs.getD i 0) ([1, 7, 12, 18].getD i 0))
def jB (vs : List Int) : Nat → Int
  | 0 => jA vs 4
  | i + 1 => IntKind.u64.wrap (IntKind.u64.wrap (xorI .u64 (jB vs i) (rndI 0 (vs.getD i 0)) * 11400714785074694791) + 9650029242287828579)
def headI (L : List UInt8) : Int := if L.length < 32 then 2870177450012600261 else jB (accV (L.length / 32) L) 4
def finI (x : Int) : Int :=
  let y1 := IntKind.u64.wrap (xorI .u64 x (x.fdiv (2 ^ min (33 : Int).toNat IntKind.u64.bits)) * 14029467366897019727)
  let y2 := IntKind.u64.wrap (xorI .u64 y1 (y1.fdiv (2 ^ min (29 : Int).toNat IntKind.u64.bits)) * 1609587929392839161)
  xorI .u64 y2 (y2.fdiv (2 ^ min (32 : Int).toNat IntKind.u64.bits))
def step8 (x m : Int) : Int := IntKind.u64.wrap (IntKind.u64.wrap (rotI (xorI .u64 x (rndI 0 m)) 27 * 11400714785074694791) + 9650029242287828579)
def step4 (x m : Int) : Int := IntKind.u64.wrap (IntKind.u64.wrap (rotI (xorI .u64 x (IntKind.u64.wrap (m * 11400714785074694791))) 23 * 14029467366897019727) + 1609587929392839161)
def step1 (x : Int) (c : UInt8) : Int := IntKind.u64.wrap (rotI (xorI .u64 x (IntKind.u64.wrap ((c.toNat : Int) * 2870177450012600261))) 11 * 11400714785074694791)
def e8 (x : Int) (B : List UInt8) : Nat → Int
  | 0 => x
  | j + 1 => step8 (e8 x B j) (numLE ((B.drop (8 * j)).take 8))
def e1 (x : Int) (B : List UInt8) : Nat → Int
  | 0 => x
  | j + 1 => step1 (e1 x B j) (B.getD j 0)
def after4 (x : Int) (C : List UInt8) : Int × List UInt8 := if 4 ≤ C.length then (step4 x (numLE (C.take 4)), C.drop 4) else (x, C)
def tailI (x : Int) (B : List UInt8) : Int :=
  let r := after4 (e8 x B (B.length / 8)) (B.drop (8 * (B.length / 8)))
  e1 r.1 r.2 r.2.length
def XXH (L : List UInt8) : Int := finI (tailI (IntKind.u64.wrap (headI L + (L.length : Int))) (L.drop (32 * (L.length / 32))))

theorem joined_c (b : Nat) (L : List UInt8) (hlen : L.length ≤ 1099511627776) (w : World) (h : HashAt w b L) :
    Does pg F_xxh_Hash_joined #[.pointer (some ⟨b, 0, none⟩)] w (fun r w' => r = .int .u64 (headI L) ∧ w' = w) := by
  refine xxh_Hash_joined_does ?_
  obtain ⟨kept, h2, hk, ho⟩ := h
  have h1 := accV_length (L.length / 32) L
  by_cases hs : L.length < 32
  · have hd : decide ((L.length : Int) < 32) = true := by simp; omega
    simp (disch := omega) only [xxh_Hash_joined, xxh_Hash_joined_p15, xxh_Hash_joined_p14, Stp, Same, stepR_value, stepR_skip, r_add, r_sub, r_mul, r_quo, r_rem, r_and, r_or, r_xor, r_andNot, r_shl, r_shr, r_eql, r_neq, r_lss, r_leq, r_gtr, r_geq, r_neg, r_cpl, r_not, r_pick, r_min, r_max, r_nil, x20, x21, x30, x31, x32, x40, x41, x42, x43, ldC_some, Result.ok.injEq, Next.value.injEq, true_and, and_true, w_i64, w_u64, w_i32, w_u32, w_u16, w_u8, Int.toNat_natCast, isB_tt, isB_tf, isB_ft, isB_ff, Gd_true, Gd_false, Cnd_true, Cnd_false, if_true, if_false, Bool.false_eq_true, Nat.zero_add, Option.isNone_some, Option.isNone_none, Bool.not_true, Bool.not_false, List.getElem?_cons_succ, List.getElem?_cons_zero, ln_sl_sl_uint8, ia_sl_sl_uint8, ld_sl_uint8, ln_sl_uint8, cv_uint16_int, cv_int_uint8, ia_sl_uint8, ln_sl_uint16, ia_sl_uint16, ld_uint16, sl_sl_uint8_lohi, sl_sl_uint8_hi, sl_sl_uint8_lo, cv_uint8_int, bd_ar4_uint64_0_1_2_3, bd_xxh_Hash_0, peql_p_xxh_Hash, fa_xxh_Hash_all, ld_uint64, cv_int_uint64, fa_xxh_Hash_kept, fa_xxh_Hash_n, ld_int, sl_ar32_uint8_lo, fa_xxh_Hash_v, ia_ar4_uint64, sl_ar32_uint8_lohi, sl_ar32_uint8_hi, ld_uint8, cv_uint8_uint64, ln_string, ix_string, cv_int_uint, bd_ar4_int_0_1_2_3, ix_ar4_int, ix_ar4_uint64, sl_string_lo, bd_lightermanref01_R_0, fa_lightermanref01_R_E, ld_api_Errno, fa_lightermanref01_R_B, ld_string, sl_string_hi, ho.cell, hashCells_all h1 h2, hd, headI, hs]
  · have hd : decide ((L.length : Int) < 32) = false := by simp; omega
    obtain ⟨vs, hvs⟩ : ∃ vs, vs = accV (L.length / 32) L := ⟨_, rfl⟩
    have hH : headI L = jB vs 4 := by rw [hvs]; unfold headI; rw [if_neg hs]
    rw [hH]
    rw [← hvs] at ho h1
    clear hvs hH
    simp (disch := omega) only [xxh_Hash_joined, xxh_Hash_joined_p1, xxh_Hash_joined_p3, xxh_Hash_joined_p4, xxh_Hash_joined_p5, xxh_Hash_joined_p6, xxh_Hash_joined_p7, xxh_Hash_joined_p9, xxh_Hash_joined_p10, xxh_Hash_joined_p11, xxh_Hash_joined_p12, xxh_Hash_joined_p13, xxh_Hash_joined_p14, xxh_Hash_joined_p15, Stp, Same, stepR_value, stepR_skip, r_add, r_sub, r_mul, r_quo, r_rem, r_and, r_or, r_xor, r_andNot, r_shl, r_shr, r_eql, r_neq, r_lss, r_leq, r_gtr, r_geq, r_neg, r_cpl, r_not, r_pick, r_min, r_max, r_nil, x20, x21, x30, x31, x32, x40, x41, x42, x43, ldC_some, Result.ok.injEq, Next.value.injEq, true_and, and_true, w_i64, w_u64, w_i32, w_u32, w_u16, w_u8, Int.toNat_natCast, isB_tt, isB_tf, isB_ft, isB_ff, Gd_true, Gd_false, Cnd_true, Cnd_false, if_true, if_false, Bool.false_eq_true, Nat.zero_add, Option.isNone_some, Option.isNone_none, Bool.not_true, Bool.not_false, List.getElem?_cons_succ, List.getElem?_cons_zero, ln_sl_sl_uint8, ia_sl_sl_uint8, ld_sl_uint8, ln_sl_uint8, cv_uint16_int, cv_int_uint8, ia_sl_uint8, ln_sl_uint16, ia_sl_uint16, ld_uint16, sl_sl_uint8_lohi, sl_sl_uint8_hi, sl_sl_uint8_lo, cv_uint8_int, bd_ar4_uint64_0_1_2_3, bd_xxh_Hash_0, peql_p_xxh_Hash, fa_xxh_Hash_all, ld_uint64, cv_int_uint64, fa_xxh_Hash_kept, fa_xxh_Hash_n, ld_int, sl_ar32_uint8_lo, fa_xxh_Hash_v, ia_ar4_uint64, sl_ar32_uint8_lohi, sl_ar32_uint8_hi, ld_uint8, cv_uint8_uint64, ln_string, ix_string, cv_int_uint, bd_ar4_int_0_1_2_3, ix_ar4_int, ix_ar4_uint64, sl_string_lo, bd_lightermanref01_R_0, fa_lightermanref01_R_E, ld_api_Errno, fa_lightermanref01_R_B, ld_string, sl_string_hi, ho.cell, hashCells_all h1 h2, hd]
    refine LoopD.rule (fun n t w' => ∃ i : Nat, i ≤ 4 ∧ n = 4 - i ∧ t = (.int .u64 (jA vs i), .int .i64 (i : Int)) ∧ w' = w) 4 ⟨0, by omega, rfl, rfl, rfl⟩ ?_
    rintro n t w' ⟨i, hi, rfl, rfl, rfl⟩
    by_cases hlt : i < 4
    · have hd : decide ((i : Int) < 4) = true := by simp; omega
      have hv := hashCells_v (vs := vs) (kept := kept) (n := L.length % 32) (all := L.length) i (by omega)
      have hg : (#[Value.int .i64 1, .int .i64 7, .int .i64 12, .int .i64 18] : Array Value)[i]? = some (.int .i64 (([1, 7, 12, 18].getD i 0 : Nat) : Int)) := by
        have : i = 0 ∨ i = 1 ∨ i = 2 ∨ i = 3 := by omega
        rcases this with rfl | rfl | rfl | rfl <;> rfl
      have ht : [1, 7, 12, 18].getD i 0 < 64 := by
        have : i = 0 ∨ i = 1 ∨ i = 2 ∨ i = 3 := by omega
        rcases this with rfl | rfl | rfl | rfl <;> decide
      simp (disch := omega) only [xxh_Hash_joined_p8, Stp, Same, stepR_value, stepR_skip, r_add, r_sub, r_mul, r_quo, r_rem, r_and, r_or, r_xor, r_andNot, r_shl, r_shr, r_eql, r_neq, r_lss, r_leq, r_gtr, r_geq, r_neg, r_cpl, r_not, r_pick, r_min, r_max, r_nil, x20, x21, x30, x31, x32, x40, x41, x42, x43, ldC_some, Result.ok.injEq, Next.value.injEq, true_and, and_true, w_i64, w_u64, w_i32, w_u32, w_u16, w_u8, Int.toNat_natCast, isB_tt, isB_tf, isB_ft, isB_ff, Gd_true, Gd_false, Cnd_true, Cnd_false, if_true, if_false, Bool.false_eq_true, Nat.zero_add, Option.isNone_some, Option.isNone_none, Bool.not_true, Bool.not_false, List.getElem?_cons_succ, List.getElem?_cons_zero, ln_sl_sl_uint8, ia_sl_sl_uint8, ld_sl_uint8, ln_sl_uint8, cv_uint16_int, cv_int_uint8, ia_sl_uint8, ln_sl_uint16, ia_sl_uint16, ld_uint16, sl_sl_uint8_lohi, sl_sl_uint8_hi, sl_sl_uint8_lo, cv_uint8_int, bd_ar4_uint64_0_1_2_3, bd_xxh_Hash_0, peql_p_xxh_Hash, fa_xxh_Hash_all, ld_uint64, cv_int_uint64, fa_xxh_Hash_kept, fa_xxh_Hash_n, ld_int, sl_ar32_uint8_lo, fa_xxh_Hash_v, ia_ar4_uint64, sl_ar32_uint8_lohi, sl_ar32_uint8_hi, ld_uint8, cv_uint8_uint64, ln_string, ix_string, cv_int_uint, bd_ar4_int_0_1_2_3, ix_ar4_int, ix_ar4_uint64, sl_string_lo, bd_lightermanref01_R_0, fa_lightermanref01_R_E, ld_api_Errno, fa_lightermanref01_R_B, ld_string, sl_string_hi, hd, hg, ho.cell, hv]
      refine (rot_c _ _ ht _).mono ?_
      rintro r w1 ⟨rfl, rfl⟩
      simp (disch := omega) only [Stp, Same, stepR_value, stepR_skip, r_add, r_sub, r_mul, r_quo, r_rem, r_and, r_or, r_xor, r_andNot, r_shl, r_shr, r_eql, r_neq, r_lss, r_leq, r_gtr, r_geq, r_neg, r_cpl, r_not, r_pick, r_min, r_max, r_nil, x20, x21, x30, x31, x32, x40, x41, x42, x43, ldC_some, Result.ok.injEq, Next.value.injEq, true_and, and_true, w_i64, w_u64, w_i32, w_u32, w_u16, w_u8, Int.toNat_natCast, isB_tt, isB_tf, isB_ft, isB_ff, Gd_true, Gd_false, Cnd_true, Cnd_false, if_true, if_false, Bool.false_eq_true, Nat.zero_add, Option.isNone_some, Option.isNone_none, Bool.not_true, Bool.not_false, List.getElem?_cons_succ, List.getElem?_cons_zero, ln_sl_sl_uint8, ia_sl_sl_uint8, ld_sl_uint8, ln_sl_uint8, cv_uint16_int, cv_int_uint8, ia_sl_uint8, ln_sl_uint16, ia_sl_uint16, ld_uint16, sl_sl_uint8_lohi, sl_sl_uint8_hi, sl_sl_uint8_lo, cv_uint8_int, bd_ar4_uint64_0_1_2_3, bd_xxh_Hash_0, peql_p_xxh_Hash, fa_xxh_Hash_all, ld_uint64, cv_int_uint64, fa_xxh_Hash_kept, fa_xxh_Hash_n, ld_int, sl_ar32_uint8_lo, fa_xxh_Hash_v, ia_ar4_uint64, sl_ar32_uint8_lohi, sl_ar32_uint8_hi, ld_uint8, cv_uint8_uint64, ln_string, ix_string, cv_int_uint, bd_ar4_int_0_1_2_3, ix_ar4_int, ix_ar4_uint64, sl_string_lo, bd_lightermanref01_R_0, fa_lightermanref01_R_E, ld_api_Errno, fa_lightermanref01_R_B, ld_string, sl_string_hi]
      refine ⟨4 - (i + 1), by omega, i + 1, by omega, rfl, ?_⟩
      have hvd : vs.getD i 0 = vs[i]'(by omega) := by rw [List.getD_eq_getElem?_getD, List.getElem?_eq_getElem (by omega)]; rfl
      rw [jA, hvd]
      rfl
    · have : i = 4 := by omega
      subst this
      have hd : decide (((4 : Nat) : Int) < 4) = false := by simp
      have ha := lda_ar4_uint64 (off := 0) ho (by rw [hashCells_length h1 h2]; omega)
      have hb : ((hashCells vs kept (L.length % 32) L.length).drop 0).take 4 = vs.map (Value.int .u64) := by
        rw [List.drop_zero]; unfold hashCells; rw [List.take_append_of_le_length (by simp; omega), List.take_of_length_le (by simp; omega)]
      rw [hb] at ha
      simp (disch := omega) only [xxh_Hash_joined_p8, Stp, Same, stepR_value, stepR_skip, r_add, r_sub, r_mul, r_quo, r_rem, r_and, r_or, r_xor, r_andNot, r_shl, r_shr, r_eql, r_neq, r_lss, r_leq, r_gtr, r_geq, r_neg, r_cpl, r_not, r_pick, r_min, r_max, r_nil, x20, x21, x30, x31, x32, x40, x41, x42, x43, ldC_some, Result.ok.injEq, Next.value.injEq, true_and, and_true, w_i64, w_u64, w_i32, w_u32, w_u16, w_u8, Int.toNat_natCast, isB_tt, isB_tf, isB_ft, isB_ff, Gd_true, Gd_false, Cnd_true, Cnd_false, if_true, if_false, Bool.false_eq_true, Nat.zero_add, Option.isNone_some, Option.isNone_none, Bool.not_true, Bool.not_false, List.getElem?_cons_succ, List.getElem?_cons_zero, ln_sl_sl_uint8, ia_sl_sl_uint8, ld_sl_uint8, ln_sl_uint8, cv_uint16_int, cv_int_uint8, ia_sl_uint8, ln_sl_uint16, ia_sl_uint16, ld_uint16, sl_sl_uint8_lohi, sl_sl_uint8_hi, sl_sl_uint8_lo, cv_uint8_int, bd_ar4_uint64_0_1_2_3, bd_xxh_Hash_0, peql_p_xxh_Hash, fa_xxh_Hash_all, ld_uint64, cv_int_uint64, fa_xxh_Hash_kept, fa_xxh_Hash_n, ld_int, sl_ar32_uint8_lo, fa_xxh_Hash_v, ia_ar4_uint64, sl_ar32_uint8_lohi, sl_ar32_uint8_hi, ld_uint8, cv_uint8_uint64, ln_string, ix_string, cv_int_uint, bd_ar4_int_0_1_2_3, ix_ar4_int, ix_ar4_uint64, sl_string_lo, bd_lightermanref01_R_0, fa_lightermanref01_R_E, ld_api_Errno, fa_lightermanref01_R_B, ld_string, sl_string_hi, hd, ha]
      refine LoopD.rule (fun n t w2 => ∃ i : Nat, i ≤ 4 ∧ n = 4 - i ∧ t = (.int .u64 (jB vs i), .int .i64 (i : Int)) ∧ w2 = w') 4 ⟨0, by omega, rfl, rfl, rfl⟩ ?_
      rintro n t w2 ⟨i, hi, rfl, rfl, rfl⟩
      by_cases hlt : i < 4
      · have hd : decide ((i : Int) < 4) = true := by simp; omega
        have hg : ((vs.map (Value.int .u64)).toArray)[i]? = some (.int .u64 (vs[i]'(by omega))) := by simp [show i < vs.length by omega]
        simp (disch := omega) only [xxh_Hash_joined_p2, Stp, Same, stepR_value, stepR_skip, r_add, r_sub, r_mul, r_quo, r_rem, r_and, r_or, r_xor, r_andNot, r_shl, r_shr, r_eql, r_neq, r_lss, r_leq, r_gtr, r_geq, r_neg, r_cpl, r_not, r_pick, r_min, r_max, r_nil, x20, x21, x30, x31, x32, x40, x41, x42, x43, ldC_some, Result.ok.injEq, Next.value.injEq, true_and, and_true, w_i64, w_u64, w_i32, w_u32, w_u16, w_u8, Int.toNat_natCast, isB_tt, isB_tf, isB_ft, isB_ff, Gd_true, Gd_false, Cnd_true, Cnd_false, if_true, if_false, Bool.false_eq_true, Nat.zero_add, Option.isNone_some, Option.isNone_none, Bool.not_true, Bool.not_false, List.getElem?_cons_succ, List.getElem?_cons_zero, ln_sl_sl_uint8, ia_sl_sl_uint8, ld_sl_uint8, ln_sl_uint8, cv_uint16_int, cv_int_uint8, ia_sl_uint8, ln_sl_uint16, ia_sl_uint16, ld_uint16, sl_sl_uint8_lohi, sl_sl_uint8_hi, sl_sl_uint8_lo, cv_uint8_int, bd_ar4_uint64_0_1_2_3, bd_xxh_Hash_0, peql_p_xxh_Hash, fa_xxh_Hash_all, ld_uint64, cv_int_uint64, fa_xxh_Hash_kept, fa_xxh_Hash_n, ld_int, sl_ar32_uint8_lo, fa_xxh_Hash_v, ia_ar4_uint64, sl_ar32_uint8_lohi, sl_ar32_uint8_hi, ld_uint8, cv_uint8_uint64, ln_string, ix_string, cv_int_uint, bd_ar4_int_0_1_2_3, ix_ar4_int, ix_ar4_uint64, sl_string_lo, bd_lightermanref01_R_0, fa_lightermanref01_R_E, ld_api_Errno, fa_lightermanref01_R_B, ld_string, sl_string_hi, hd, hg]
        refine (round_c _ _ _).mono ?_
        rintro r w1 ⟨rfl, rfl⟩
        simp (disch := omega) only [Stp, Same, stepR_value, stepR_skip, r_add, r_sub, r_mul, r_quo, r_rem, r_and, r_or, r_xor, r_andNot, r_shl, r_shr, r_eql, r_neq, r_lss, r_leq, r_gtr, r_geq, r_neg, r_cpl, r_not, r_pick, r_min, r_max, r_nil, x20, x21, x30, x31, x32, x40, x41, x42, x43, ldC_some, Result.ok.injEq, Next.value.injEq, true_and, and_true, w_i64, w_u64, w_i32, w_u32, w_u16, w_u8, Int.toNat_natCast, isB_tt, isB_tf, isB_ft, isB_ff, Gd_true, Gd_false, Cnd_true, Cnd_false, if_true, if_false, Bool.false_eq_true, Nat.zero_add, Option.isNone_some, Option.isNone_none, Bool.not_true, Bool.not_false, List.getElem?_cons_succ, List.getElem?_cons_zero, ln_sl_sl_uint8, ia_sl_sl_uint8, ld_sl_uint8, ln_sl_uint8, cv_uint16_int, cv_int_uint8, ia_sl_uint8, ln_sl_uint16, ia_sl_uint16, ld_uint16, sl_sl_uint8_lohi, sl_sl_uint8_hi, sl_sl_uint8_lo, cv_uint8_int, bd_ar4_uint64_0_1_2_3, bd_xxh_Hash_0, peql_p_xxh_Hash, fa_xxh_Hash_all, ld_uint64, cv_int_uint64, fa_xxh_Hash_kept, fa_xxh_Hash_n, ld_int, sl_ar32_uint8_lo, fa_xxh_Hash_v, ia_ar4_uint64, sl_ar32_uint8_lohi, sl_ar32_uint8_hi, ld_uint8, cv_uint8_uint64, ln_string, ix_string, cv_int_uint, bd_ar4_int_0_1_2_3, ix_ar4_int, ix_ar4_uint64, sl_string_lo, bd_lightermanref01_R_0, fa_lightermanref01_R_E, ld_api_Errno, fa_lightermanref01_R_B, ld_string, sl_string_hi]
        refine ⟨4 - (i + 1), by omega, i + 1, by omega, rfl, ?_⟩
        have hvd : vs.getD i 0 = vs[i]'(by omega) := by rw [List.getD_eq_getElem?_getD, List.getElem?_eq_getElem (by omega)]; rfl
        rw [jB, hvd]
        rfl
      · have : i = 4 := by omega
        subst this
        have hd : decide (((4 : Nat) : Int) < 4) = false := by simp
        simp (disch := omega) only [xxh_Hash_joined_p2, Stp, Same, stepR_value, stepR_skip, r_add, r_sub, r_mul, r_quo, r_rem, r_and, r_or, r_xor, r_andNot, r_shl, r_shr, r_eql, r_neq, r_lss, r_leq, r_gtr, r_geq, r_neg, r_cpl, r_not, r_pick, r_min, r_max, r_nil, x20, x21, x30, x31, x32, x40, x41, x42, x43, ldC_some, Result.ok.injEq, Next.value.injEq, true_and, and_true, w_i64, w_u64, w_i32, w_u32, w_u16, w_u8, Int.toNat_natCast, isB_tt, isB_tf, isB_ft, isB_ff, Gd_true, Gd_false, Cnd_true, Cnd_false, if_true, if_false, Bool.false_eq_true, Nat.zero_add, Option.isNone_some, Option.isNone_none, Bool.not_true, Bool.not_false, List.getElem?_cons_succ, List.getElem?_cons_zero, ln_sl_sl_uint8, ia_sl_sl_uint8, ld_sl_uint8, ln_sl_uint8, cv_uint16_int, cv_int_uint8, ia_sl_uint8, ln_sl_uint16, ia_sl_uint16, ld_uint16, sl_sl_uint8_lohi, sl_sl_uint8_hi, sl_sl_uint8_lo, cv_uint8_int, bd_ar4_uint64_0_1_2_3, bd_xxh_Hash_0, peql_p_xxh_Hash, fa_xxh_Hash_all, ld_uint64, cv_int_uint64, fa_xxh_Hash_kept, fa_xxh_Hash_n, ld_int, sl_ar32_uint8_lo, fa_xxh_Hash_v, ia_ar4_uint64, sl_ar32_uint8_lohi, sl_ar32_uint8_hi, ld_uint8, cv_uint8_uint64, ln_string, ix_string, cv_int_uint, bd_ar4_int_0_1_2_3, ix_ar4_int, ix_ar4_uint64, sl_string_lo, bd_lightermanref01_R_0, fa_lightermanref01_R_E, ld_api_Errno, fa_lightermanref01_R_B, ld_string, sl_string_hi, hd]

/-- the last bytes, one by one -/
theorem sum_last (w : World) (R : Value → World → Prop) (y : Int) (D : List UInt8) (v : Value) (hv : Bs w v D) (hD : D.length < 32) (hR : R (.int .u64 (finI (e1 y D D.length))) w) :
    xxh_Hash_Sum_p7 R (.int .u64 y) v w := by
  have hv' := hv
  obtain ⟨a, n, c, rfl, hn, hc, hcell⟩ := hv'
  rw [List.length_map] at hn
  simp (disch := omega) only [xxh_Hash_Sum_p7, xxh_Hash_Sum_p6, xxh_Hash_Sum_p5, xxh_Hash_Sum_p4, xxh_Hash_Sum_p3, Stp, Same, stepR_value, stepR_skip, r_add, r_sub, r_mul, r_quo, r_rem, r_and, r_or, r_xor, r_andNot, r_shl, r_shr, r_eql, r_neq, r_lss, r_leq, r_gtr, r_geq, r_neg, r_cpl, r_not, r_pick, r_min, r_max, r_nil, x20, x21, x30, x31, x32, x40, x41, x42, x43, ldC_some, Result.ok.injEq, Next.value.injEq, true_and, and_true, w_i64, w_u64, w_i32, w_u32, w_u16, w_u8, Int.toNat_natCast, isB_tt, isB_tf, isB_ft, isB_ff, Gd_true, Gd_false, Cnd_true, Cnd_false, if_true, if_false, Bool.false_eq_true, Nat.zero_add, Option.isNone_some, Option.isNone_none, Bool.not_true, Bool.not_false, List.getElem?_cons_succ, List.getElem?_cons_zero, ln_sl_sl_uint8, ia_sl_sl_uint8, ld_sl_uint8, ln_sl_uint8, cv_uint16_int, cv_int_uint8, ia_sl_uint8, ln_sl_uint16, ia_sl_uint16, ld_uint16, sl_sl_uint8_lohi, sl_sl_uint8_hi, sl_sl_uint8_lo, cv_uint8_int, bd_ar4_uint64_0_1_2_3, bd_xxh_Hash_0, peql_p_xxh_Hash, fa_xxh_Hash_all, ld_uint64, cv_int_uint64, fa_xxh_Hash_kept, fa_xxh_Hash_n, ld_int, sl_ar32_uint8_lo, fa_xxh_Hash_v, ia_ar4_uint64, sl_ar32_uint8_lohi, sl_ar32_uint8_hi, ld_uint8, cv_uint8_uint64, ln_string, ix_string, cv_int_uint, bd_ar4_int_0_1_2_3, ix_ar4_int, ix_ar4_uint64, sl_string_lo, bd_lightermanref01_R_0, fa_lightermanref01_R_E, ld_api_Errno, fa_lightermanref01_R_B, ld_string, sl_string_hi]
  refine LoopD.rule (fun m t w' => ∃ j : Nat, j ≤ n ∧ m = n - j ∧ t = (.int .u64 (e1 y D j), .int .i64 (j : Int)) ∧ w' = w) n ⟨0, by omega, rfl, rfl, rfl⟩ ?_
  rintro m t w' ⟨j, hj, rfl, rfl, rfl⟩
  by_cases hlt : j < n
  · obtain ⟨b, off, rfl, hcell'⟩ := hcell (by omega)
    have hcl := hcell' j hlt
    rw [List.getElem?_map, List.getElem?_eq_getElem (by omega), Option.map_some] at hcl
    have hb : (D[j]'(by omega)).toNat < 256 := UInt8.toNat_lt _
    have hd : decide ((j : Int) < (n : Int)) = true := by simpa using hlt
    simp (disch := omega) only [xxh_Hash_Sum_p2, Stp, Same, stepR_value, stepR_skip, r_add, r_sub, r_mul, r_quo, r_rem, r_and, r_or, r_xor, r_andNot, r_shl, r_shr, r_eql, r_neq, r_lss, r_leq, r_gtr, r_geq, r_neg, r_cpl, r_not, r_pick, r_min, r_max, r_nil, x20, x21, x30, x31, x32, x40, x41, x42, x43, ldC_some, Result.ok.injEq, Next.value.injEq, true_and, and_true, w_i64, w_u64, w_i32, w_u32, w_u16, w_u8, Int.toNat_natCast, isB_tt, isB_tf, isB_ft, isB_ff, Gd_true, Gd_false, Cnd_true, Cnd_false, if_true, if_false, Bool.false_eq_true, Nat.zero_add, Option.isNone_some, Option.isNone_none, Bool.not_true, Bool.not_false, List.getElem?_cons_succ, List.getElem?_cons_zero, ln_sl_sl_uint8, ia_sl_sl_uint8, ld_sl_uint8, ln_sl_uint8, cv_uint16_int, cv_int_uint8, ia_sl_uint8, ln_sl_uint16, ia_sl_uint16, ld_uint16, sl_sl_uint8_lohi, sl_sl_uint8_hi, sl_sl_uint8_lo, cv_uint8_int, bd_ar4_uint64_0_1_2_3, bd_xxh_Hash_0, peql_p_xxh_Hash, fa_xxh_Hash_all, ld_uint64, cv_int_uint64, fa_xxh_Hash_kept, fa_xxh_Hash_n, ld_int, sl_ar32_uint8_lo, fa_xxh_Hash_v, ia_ar4_uint64, sl_ar32_uint8_lohi, sl_ar32_uint8_hi, ld_uint8, cv_uint8_uint64, ln_string, ix_string, cv_int_uint, bd_ar4_int_0_1_2_3, ix_ar4_int, ix_ar4_uint64, sl_string_lo, bd_lightermanref01_R_0, fa_lightermanref01_R_E, ld_api_Errno, fa_lightermanref01_R_B, ld_string, sl_string_hi, hd, hcl, b2v]
    refine (rot_c _ 11 (by omega) _).mono ?_
    rintro r w1 ⟨rfl, rfl⟩
    simp (disch := omega) only [Stp, Same, stepR_value, stepR_skip, r_add, r_sub, r_mul, r_quo, r_rem, r_and, r_or, r_xor, r_andNot, r_shl, r_shr, r_eql, r_neq, r_lss, r_leq, r_gtr, r_geq, r_neg, r_cpl, r_not, r_pick, r_min, r_max, r_nil, x20, x21, x30, x31, x32, x40, x41, x42, x43, ldC_some, Result.ok.injEq, Next.value.injEq, true_and, and_true, w_i64, w_u64, w_i32, w_u32, w_u16, w_u8, Int.toNat_natCast, isB_tt, isB_tf, isB_ft, isB_ff, Gd_true, Gd_false, Cnd_true, Cnd_false, if_true, if_false, Bool.false_eq_true, Nat.zero_add, Option.isNone_some, Option.isNone_none, Bool.not_true, Bool.not_false, List.getElem?_cons_succ, List.getElem?_cons_zero, ln_sl_sl_uint8, ia_sl_sl_uint8, ld_sl_uint8, ln_sl_uint8, cv_uint16_int, cv_int_uint8, ia_sl_uint8, ln_sl_uint16, ia_sl_uint16, ld_uint16, sl_sl_uint8_lohi, sl_sl_uint8_hi, sl_sl_uint8_lo, cv_uint8_int, bd_ar4_uint64_0_1_2_3, bd_xxh_Hash_0, peql_p_xxh_Hash, fa_xxh_Hash_all, ld_uint64, cv_int_uint64, fa_xxh_Hash_kept, fa_xxh_Hash_n, ld_int, sl_ar32_uint8_lo, fa_xxh_Hash_v, ia_ar4_uint64, sl_ar32_uint8_lohi, sl_ar32_uint8_hi, ld_uint8, cv_uint8_uint64, ln_string, ix_string, cv_int_uint, bd_ar4_int_0_1_2_3, ix_ar4_int, ix_ar4_uint64, sl_string_lo, bd_lightermanref01_R_0, fa_lightermanref01_R_E, ld_api_Errno, fa_lightermanref01_R_B, ld_string, sl_string_hi]
    refine ⟨n - (j + 1), by omega, j + 1, by omega, rfl, ?_⟩
    have hg : D.getD j 0 = D[j]'(by omega) := by rw [List.getD_eq_getElem?_getD, List.getElem?_eq_getElem (by omega)]; rfl
    rw [e1, hg]
    rfl
  · have hd : decide ((j : Int) < (n : Int)) = false := by simpa using hlt
    have : j = D.length := by omega
    subst this
    simp (disch := omega) only [xxh_Hash_Sum_p2, xxh_Hash_Sum_p1, Stp, Same, stepR_value, stepR_skip, r_add, r_sub, r_mul, r_quo, r_rem, r_and, r_or, r_xor, r_andNot, r_shl, r_shr, r_eql, r_neq, r_lss, r_leq, r_gtr, r_geq, r_neg, r_cpl, r_not, r_pick, r_min, r_max, r_nil, x20, x21, x30, x31, x32, x40, x41, x42, x43, ldC_some, Result.ok.injEq, Next.value.injEq, true_and, and_true, w_i64, w_u64, w_i32, w_u32, w_u16, w_u8, Int.toNat_natCast, isB_tt, isB_tf, isB_ft, isB_ff, Gd_true, Gd_false, Cnd_true, Cnd_false, if_true, if_false, Bool.false_eq_true, Nat.zero_add, Option.isNone_some, Option.isNone_none, Bool.not_true, Bool.not_false, List.getElem?_cons_succ, List.getElem?_cons_zero, ln_sl_sl_uint8, ia_sl_sl_uint8, ld_sl_uint8, ln_sl_uint8, cv_uint16_int, cv_int_uint8, ia_sl_uint8, ln_sl_uint16, ia_sl_uint16, ld_uint16, sl_sl_uint8_lohi, sl_sl_uint8_hi, sl_sl_uint8_lo, cv_uint8_int, bd_ar4_uint64_0_1_2_3, bd_xxh_Hash_0, peql_p_xxh_Hash, fa_xxh_Hash_all, ld_uint64, cv_int_uint64, fa_xxh_Hash_kept, fa_xxh_Hash_n, ld_int, sl_ar32_uint8_lo, fa_xxh_Hash_v, ia_ar4_uint64, sl_ar32_uint8_lohi, sl_ar32_uint8_hi, ld_uint8, cv_uint8_uint64, ln_string, ix_string, cv_int_uint, bd_ar4_int_0_1_2_3, ix_ar4_int, ix_ar4_uint64, sl_string_lo, bd_lightermanref01_R_0, fa_lightermanref01_R_E, ld_api_Errno, fa_lightermanref01_R_B, ld_string, sl_string_hi, hd]
    exact hR

/-- bytes of the kept ones -/
theorem sum_tail (w : World) (R : Value → World → Prop) (x : Int) (B : List UInt8) (v : Value) (hv : Bs w v B) (hB : B.length < 32) (hR : R (.int .u64 (finI (tailI x B))) w) :
    xxh_Hash_Sum_p13 R (.int .u64 x) v w := by
  unfold xxh_Hash_Sum_p13 xxh_Hash_Sum_p12 xxh_Hash_Sum_p11
  refine LoopD.rule (fun n t w' => ∃ (j : Nat) (u : Value), 8 * j ≤ B.length ∧ n = B.length - j ∧ t = (.int .u64 (e8 x B j), u) ∧ Bs w u (B.drop (8 * j)) ∧ w' = w) B.length ⟨0, v, by omega, rfl, rfl, hv, rfl⟩ ?_
  rintro n t w' ⟨j, u, hj, rfl, rfl, hu, rfl⟩
  have hu' := hu
  obtain ⟨a, n, c, rfl, hn, hc, hcell⟩ := hu'
  rw [List.length_map, List.length_drop] at hn
  by_cases h8 : 8 ≤ n
  · obtain ⟨b', o', rfl, _⟩ := hcell (by omega)
    have hd : decide ((8 : Int) ≤ (n : Int)) = true := by simp; omega
    have t8 : (8 : Int).toNat = 8 := rfl
    simp (disch := omega) only [xxh_Hash_Sum_p10, Stp, Same, stepR_value, stepR_skip, r_add, r_sub, r_mul, r_quo, r_rem, r_and, r_or, r_xor, r_andNot, r_shl, r_shr, r_eql, r_neq, r_lss, r_leq, r_gtr, r_geq, r_neg, r_cpl, r_not, r_pick, r_min, r_max, r_nil, x20, x21, x30, x31, x32, x40, x41, x42, x43, ldC_some, Result.ok.injEq, Next.value.injEq, true_and, and_true, w_i64, w_u64, w_i32, w_u32, w_u16, w_u8, Int.toNat_natCast, isB_tt, isB_tf, isB_ft, isB_ff, Gd_true, Gd_false, Cnd_true, Cnd_false, if_true, if_false, Bool.false_eq_true, Nat.zero_add, Option.isNone_some, Option.isNone_none, Bool.not_true, Bool.not_false, List.getElem?_cons_succ, List.getElem?_cons_zero, ln_sl_sl_uint8, ia_sl_sl_uint8, ld_sl_uint8, ln_sl_uint8, cv_uint16_int, cv_int_uint8, ia_sl_uint8, ln_sl_uint16, ia_sl_uint16, ld_uint16, sl_sl_uint8_lohi, sl_sl_uint8_hi, sl_sl_uint8_lo, cv_uint8_int, bd_ar4_uint64_0_1_2_3, bd_xxh_Hash_0, peql_p_xxh_Hash, fa_xxh_Hash_all, ld_uint64, cv_int_uint64, fa_xxh_Hash_kept, fa_xxh_Hash_n, ld_int, sl_ar32_uint8_lo, fa_xxh_Hash_v, ia_ar4_uint64, sl_ar32_uint8_lohi, sl_ar32_uint8_hi, ld_uint8, cv_uint8_uint64, ln_string, ix_string, cv_int_uint, bd_ar4_int_0_1_2_3, ix_ar4_int, ix_ar4_uint64, sl_string_lo, bd_lightermanref01_R_0, fa_lightermanref01_R_E, ld_api_Errno, fa_lightermanref01_R_B, ld_string, sl_string_hi, hd, t8]
    have hs := hu.take h8
    rw [← List.map_take] at hs
    refine (number_c _ _ _ hs (by rw [List.length_take]; omega)).mono ?_
    rintro r w1 ⟨rfl, rfl⟩
    refine (round_c _ _ _).mono ?_
    rintro r w1 ⟨rfl, rfl⟩
    simp (disch := omega) only [Stp, Same, stepR_value, stepR_skip, r_add, r_sub, r_mul, r_quo, r_rem, r_and, r_or, r_xor, r_andNot, r_shl, r_shr, r_eql, r_neq, r_lss, r_leq, r_gtr, r_geq, r_neg, r_cpl, r_not, r_pick, r_min, r_max, r_nil, x20, x21, x30, x31, x32, x40, x41, x42, x43, ldC_some, Result.ok.injEq, Next.value.injEq, true_and, and_true, w_i64, w_u64, w_i32, w_u32, w_u16, w_u8, Int.toNat_natCast, isB_tt, isB_tf, isB_ft, isB_ff, Gd_true, Gd_false, Cnd_true, Cnd_false, if_true, if_false, Bool.false_eq_true, Nat.zero_add, Option.isNone_some, Option.isNone_none, Bool.not_true, Bool.not_false, List.getElem?_cons_succ, List.getElem?_cons_zero, ln_sl_sl_uint8, ia_sl_sl_uint8, ld_sl_uint8, ln_sl_uint8, cv_uint16_int, cv_int_uint8, ia_sl_uint8, ln_sl_uint16, ia_sl_uint16, ld_uint16, sl_sl_uint8_lohi, sl_sl_uint8_hi, sl_sl_uint8_lo, cv_uint8_int, bd_ar4_uint64_0_1_2_3, bd_xxh_Hash_0, peql_p_xxh_Hash, fa_xxh_Hash_all, ld_uint64, cv_int_uint64, fa_xxh_Hash_kept, fa_xxh_Hash_n, ld_int, sl_ar32_uint8_lo, fa_xxh_Hash_v, ia_ar4_uint64, sl_ar32_uint8_lohi, sl_ar32_uint8_hi, ld_uint8, cv_uint8_uint64, ln_string, ix_string, cv_int_uint, bd_ar4_int_0_1_2_3, ix_ar4_int, ix_ar4_uint64, sl_string_lo, bd_lightermanref01_R_0, fa_lightermanref01_R_E, ld_api_Errno, fa_lightermanref01_R_B, ld_string, sl_string_hi]
    refine (rot_c _ 27 (by omega) _).mono ?_
    rintro r w1 ⟨rfl, rfl⟩
    simp (disch := omega) only [Stp, Same, stepR_value, stepR_skip, r_add, r_sub, r_mul, r_quo, r_rem, r_and, r_or, r_xor, r_andNot, r_shl, r_shr, r_eql, r_neq, r_lss, r_leq, r_gtr, r_geq, r_neg, r_cpl, r_not, r_pick, r_min, r_max, r_nil, x20, x21, x30, x31, x32, x40, x41, x42, x43, ldC_some, Result.ok.injEq, Next.value.injEq, true_and, and_true, w_i64, w_u64, w_i32, w_u32, w_u16, w_u8, Int.toNat_natCast, isB_tt, isB_tf, isB_ft, isB_ff, Gd_true, Gd_false, Cnd_true, Cnd_false, if_true, if_false, Bool.false_eq_true, Nat.zero_add, Option.isNone_some, Option.isNone_none, Bool.not_true, Bool.not_false, List.getElem?_cons_succ, List.getElem?_cons_zero, ln_sl_sl_uint8, ia_sl_sl_uint8, ld_sl_uint8, ln_sl_uint8, cv_uint16_int, cv_int_uint8, ia_sl_uint8, ln_sl_uint16, ia_sl_uint16, ld_uint16, sl_sl_uint8_lohi, sl_sl_uint8_hi, sl_sl_uint8_lo, cv_uint8_int, bd_ar4_uint64_0_1_2_3, bd_xxh_Hash_0, peql_p_xxh_Hash, fa_xxh_Hash_all, ld_uint64, cv_int_uint64, fa_xxh_Hash_kept, fa_xxh_Hash_n, ld_int, sl_ar32_uint8_lo, fa_xxh_Hash_v, ia_ar4_uint64, sl_ar32_uint8_lohi, sl_ar32_uint8_hi, ld_uint8, cv_uint8_uint64, ln_string, ix_string, cv_int_uint, bd_ar4_int_0_1_2_3, ix_ar4_int, ix_ar4_uint64, sl_string_lo, bd_lightermanref01_R_0, fa_lightermanref01_R_E, ld_api_Errno, fa_lightermanref01_R_B, ld_string, sl_string_hi, t8]
    have hs2 := hu.drop h8
    rw [← List.map_drop, List.drop_drop] at hs2
    exact ⟨B.length - (j + 1), by omega, j + 1, _, by omega, rfl, rfl, by rw [Nat.mul_add]; exact hs2⟩
  · have hd : decide ((8 : Int) ≤ (n : Int)) = false := by simp; omega
    have hj8 : j = B.length / 8 := by omega
    obtain ⟨C, hC⟩ : ∃ C, C = B.drop (8 * j) := ⟨_, rfl⟩
    have hCl : C.length = n := by rw [hC, List.length_drop, hn]
    have htail : tailI x B = (let r := after4 (e8 x B j) C; e1 r.1 r.2 r.2.length) := by rw [hC, hj8]; rfl
    rw [htail] at hR
    rw [← hC] at hu
    simp (disch := omega) only [xxh_Hash_Sum_p10, Stp, Same, stepR_value, stepR_skip, r_add, r_sub, r_mul, r_quo, r_rem, r_and, r_or, r_xor, r_andNot, r_shl, r_shr, r_eql, r_neq, r_lss, r_leq, r_gtr, r_geq, r_neg, r_cpl, r_not, r_pick, r_min, r_max, r_nil, x20, x21, x30, x31, x32, x40, x41, x42, x43, ldC_some, Result.ok.injEq, Next.value.injEq, true_and, and_true, w_i64, w_u64, w_i32, w_u32, w_u16, w_u8, Int.toNat_natCast, isB_tt, isB_tf, isB_ft, isB_ff, Gd_true, Gd_false, Cnd_true, Cnd_false, if_true, if_false, Bool.false_eq_true, Nat.zero_add, Option.isNone_some, Option.isNone_none, Bool.not_true, Bool.not_false, List.getElem?_cons_succ, List.getElem?_cons_zero, ln_sl_sl_uint8, ia_sl_sl_uint8, ld_sl_uint8, ln_sl_uint8, cv_uint16_int, cv_int_uint8, ia_sl_uint8, ln_sl_uint16, ia_sl_uint16, ld_uint16, sl_sl_uint8_lohi, sl_sl_uint8_hi, sl_sl_uint8_lo, cv_uint8_int, bd_ar4_uint64_0_1_2_3, bd_xxh_Hash_0, peql_p_xxh_Hash, fa_xxh_Hash_all, ld_uint64, cv_int_uint64, fa_xxh_Hash_kept, fa_xxh_Hash_n, ld_int, sl_ar32_uint8_lo, fa_xxh_Hash_v, ia_ar4_uint64, sl_ar32_uint8_lohi, sl_ar32_uint8_hi, ld_uint8, cv_uint8_uint64, ln_string, ix_string, cv_int_uint, bd_ar4_int_0_1_2_3, ix_ar4_int, ix_ar4_uint64, sl_string_lo, bd_lightermanref01_R_0, fa_lightermanref01_R_E, ld_api_Errno, fa_lightermanref01_R_B, ld_string, sl_string_hi, hd]
    by_cases h4 : 4 ≤ n
    · obtain ⟨b', o', rfl, _⟩ := hcell (by omega)
      have hd : decide ((4 : Int) ≤ (n : Int)) = true := by simp; omega
      have t4 : (4 : Int).toNat = 4 := rfl
      have ha : after4 (e8 x B j) C = (step4 (e8 x B j) (numLE (C.take 4)), C.drop 4) := by unfold after4; rw [if_pos (by omega)]
      rw [ha] at hR
      simp (disch := omega) only [xxh_Hash_Sum_p9, xxh_Hash_Sum_p8, Stp, Same, stepR_value, stepR_skip, r_add, r_sub, r_mul, r_quo, r_rem, r_and, r_or, r_xor, r_andNot, r_shl, r_shr, r_eql, r_neq, r_lss, r_leq, r_gtr, r_geq, r_neg, r_cpl, r_not, r_pick, r_min, r_max, r_nil, x20, x21, x30, x31, x32, x40, x41, x42, x43, ldC_some, Result.ok.injEq, Next.value.injEq, true_and, and_true, w_i64, w_u64, w_i32, w_u32, w_u16, w_u8, Int.toNat_natCast, isB_tt, isB_tf, isB_ft, isB_ff, Gd_true, Gd_false, Cnd_true, Cnd_false, if_true, if_false, Bool.false_eq_true, Nat.zero_add, Option.isNone_some, Option.isNone_none, Bool.not_true, Bool.not_false, List.getElem?_cons_succ, List.getElem?_cons_zero, ln_sl_sl_uint8, ia_sl_sl_uint8, ld_sl_uint8, ln_sl_uint8, cv_uint16_int, cv_int_uint8, ia_sl_uint8, ln_sl_uint16, ia_sl_uint16, ld_uint16, sl_sl_uint8_lohi, sl_sl_uint8_hi, sl_sl_uint8_lo, cv_uint8_int, bd_ar4_uint64_0_1_2_3, bd_xxh_Hash_0, peql_p_xxh_Hash, fa_xxh_Hash_all, ld_uint64, cv_int_uint64, fa_xxh_Hash_kept, fa_xxh_Hash_n, ld_int, sl_ar32_uint8_lo, fa_xxh_Hash_v, ia_ar4_uint64, sl_ar32_uint8_lohi, sl_ar32_uint8_hi, ld_uint8, cv_uint8_uint64, ln_string, ix_string, cv_int_uint, bd_ar4_int_0_1_2_3, ix_ar4_int, ix_ar4_uint64, sl_string_lo, bd_lightermanref01_R_0, fa_lightermanref01_R_E, ld_api_Errno, fa_lightermanref01_R_B, ld_string, sl_string_hi, hd, t4]
      have hs := hu.take h4
      rw [← List.map_take] at hs
      refine (number_c _ _ _ hs (by rw [List.length_take]; omega)).mono ?_
      rintro r w1 ⟨rfl, rfl⟩
      simp (disch := omega) only [Stp, Same, stepR_value, stepR_skip, r_add, r_sub, r_mul, r_quo, r_rem, r_and, r_or, r_xor, r_andNot, r_shl, r_shr, r_eql, r_neq, r_lss, r_leq, r_gtr, r_geq, r_neg, r_cpl, r_not, r_pick, r_min, r_max, r_nil, x20, x21, x30, x31, x32, x40, x41, x42, x43, ldC_some, Result.ok.injEq, Next.value.injEq, true_and, and_true, w_i64, w_u64, w_i32, w_u32, w_u16, w_u8, Int.toNat_natCast, isB_tt, isB_tf, isB_ft, isB_ff, Gd_true, Gd_false, Cnd_true, Cnd_false, if_true, if_false, Bool.false_eq_true, Nat.zero_add, Option.isNone_some, Option.isNone_none, Bool.not_true, Bool.not_false, List.getElem?_cons_succ, List.getElem?_cons_zero, ln_sl_sl_uint8, ia_sl_sl_uint8, ld_sl_uint8, ln_sl_uint8, cv_uint16_int, cv_int_uint8, ia_sl_uint8, ln_sl_uint16, ia_sl_uint16, ld_uint16, sl_sl_uint8_lohi, sl_sl_uint8_hi, sl_sl_uint8_lo, cv_uint8_int, bd_ar4_uint64_0_1_2_3, bd_xxh_Hash_0, peql_p_xxh_Hash, fa_xxh_Hash_all, ld_uint64, cv_int_uint64, fa_xxh_Hash_kept, fa_xxh_Hash_n, ld_int, sl_ar32_uint8_lo, fa_xxh_Hash_v, ia_ar4_uint64, sl_ar32_uint8_lohi, sl_ar32_uint8_hi, ld_uint8, cv_uint8_uint64, ln_string, ix_string, cv_int_uint, bd_ar4_int_0_1_2_3, ix_ar4_int, ix_ar4_uint64, sl_string_lo, bd_lightermanref01_R_0, fa_lightermanref01_R_E, ld_api_Errno, fa_lightermanref01_R_B, ld_string, sl_string_hi]
      refine (rot_c _ 23 (by omega) _).mono ?_
      rintro r w1 ⟨rfl, rfl⟩
      simp (disch := omega) only [Stp, Same, stepR_value, stepR_skip, r_add, r_sub, r_mul, r_quo, r_rem, r_and, r_or, r_xor, r_andNot, r_shl, r_shr, r_eql, r_neq, r_lss, r_leq, r_gtr, r_geq, r_neg, r_cpl, r_not, r_pick, r_min, r_max, r_nil, x20, x21, x30, x31, x32, x40, x41, x42, x43, ldC_some, Result.ok.injEq, Next.value.injEq, true_and, and_true, w_i64, w_u64, w_i32, w_u32, w_u16, w_u8, Int.toNat_natCast, isB_tt, isB_tf, isB_ft, isB_ff, Gd_true, Gd_false, Cnd_true, Cnd_false, if_true, if_false, Bool.false_eq_true, Nat.zero_add, Option.isNone_some, Option.isNone_none, Bool.not_true, Bool.not_false, List.getElem?_cons_succ, List.getElem?_cons_zero, ln_sl_sl_uint8, ia_sl_sl_uint8, ld_sl_uint8, ln_sl_uint8, cv_uint16_int, cv_int_uint8, ia_sl_uint8, ln_sl_uint16, ia_sl_uint16, ld_uint16, sl_sl_uint8_lohi, sl_sl_uint8_hi, sl_sl_uint8_lo, cv_uint8_int, bd_ar4_uint64_0_1_2_3, bd_xxh_Hash_0, peql_p_xxh_Hash, fa_xxh_Hash_all, ld_uint64, cv_int_uint64, fa_xxh_Hash_kept, fa_xxh_Hash_n, ld_int, sl_ar32_uint8_lo, fa_xxh_Hash_v, ia_ar4_uint64, sl_ar32_uint8_lohi, sl_ar32_uint8_hi, ld_uint8, cv_uint8_uint64, ln_string, ix_string, cv_int_uint, bd_ar4_int_0_1_2_3, ix_ar4_int, ix_ar4_uint64, sl_string_lo, bd_lightermanref01_R_0, fa_lightermanref01_R_E, ld_api_Errno, fa_lightermanref01_R_B, ld_string, sl_string_hi, t4]
      have hs2 := hu.drop h4
      rw [← List.map_drop] at hs2
      exact sum_last _ _ _ _ _ hs2 (by rw [List.length_drop]; omega) hR
    · have hd : decide ((4 : Int) ≤ (n : Int)) = false := by simp; omega
      have ha : after4 (e8 x B j) C = (e8 x B j, C) := by unfold after4; rw [if_neg (by omega)]
      rw [ha] at hR
      simp (disch := omega) only [xxh_Hash_Sum_p9, xxh_Hash_Sum_p8, Stp, Same, stepR_value, stepR_skip, r_add, r_sub, r_mul, r_quo, r_rem, r_and, r_or, r_xor, r_andNot, r_shl, r_shr, r_eql, r_neq, r_lss, r_leq, r_gtr, r_geq, r_neg, r_cpl, r_not, r_pick, r_min, r_max, r_nil, x20, x21, x30, x31, x32, x40, x41, x42, x43, ldC_some, Result.ok.injEq, Next.value.injEq, true_and, and_true, w_i64, w_u64, w_i32, w_u32, w_u16, w_u8, Int.toNat_natCast, isB_tt, isB_tf, isB_ft, isB_ff, Gd_true, Gd_false, Cnd_true, Cnd_false, if_true, if_false, Bool.false_eq_true, Nat.zero_add, Option.isNone_some, Option.isNone_none, Bool.not_true, Bool.not_false, List.getElem?_cons_succ, List.getElem?_cons_zero, ln_sl_sl_uint8, ia_sl_sl_uint8, ld_sl_uint8, ln_sl_uint8, cv_uint16_int, cv_int_uint8, ia_sl_uint8, ln_sl_uint16, ia_sl_uint16, ld_uint16, sl_sl_uint8_lohi, sl_sl_uint8_hi, sl_sl_uint8_lo, cv_uint8_int, bd_ar4_uint64_0_1_2_3, bd_xxh_Hash_0, peql_p_xxh_Hash, fa_xxh_Hash_all, ld_uint64, cv_int_uint64, fa_xxh_Hash_kept, fa_xxh_Hash_n, ld_int, sl_ar32_uint8_lo, fa_xxh_Hash_v, ia_ar4_uint64, sl_ar32_uint8_lohi, sl_ar32_uint8_hi, ld_uint8, cv_uint8_uint64, ln_string, ix_string, cv_int_uint, bd_ar4_int_0_1_2_3, ix_ar4_int, ix_ar4_uint64, sl_string_lo, bd_lightermanref01_R_0, fa_lightermanref01_R_E, ld_api_Errno, fa_lightermanref01_R_B, ld_string, sl_string_hi, hd]
      exact sum_last _ _ _ _ _ hu (by omega) hR

theorem sum_c (b : Nat) (L : List UInt8) (hlen : L.length ≤ 1099511627776) (w : World) (h : HashAt w b L) :
    Does pg F_xxh_Hash_Sum #[.pointer (some ⟨b, 0, none⟩)] w (fun r w' => r = .int .u64 (XXH L) ∧ Ext w w' nob) := by
  refine xxh_Hash_Sum_does ?_
  have h' := h
  obtain ⟨kept, h2, hk, ho⟩ := h'
  have h1 := accV_length (L.length / 32) L
  have hod := own_dr ho
  simp (disch := omega) only [xxh_Hash_Sum, xxh_Hash_Sum_p15, xxh_Hash_Sum_p14, Stp, Same, stepR_value, stepR_skip, r_add, r_sub, r_mul, r_quo, r_rem, r_and, r_or, r_xor, r_andNot, r_shl, r_shr, r_eql, r_neq, r_lss, r_leq, r_gtr, r_geq, r_neg, r_cpl, r_not, r_pick, r_min, r_max, r_nil, x20, x21, x30, x31, x32, x40, x41, x42, x43, ldC_some, Result.ok.injEq, Next.value.injEq, true_and, and_true, w_i64, w_u64, w_i32, w_u32, w_u16, w_u8, Int.toNat_natCast, isB_tt, isB_tf, isB_ft, isB_ff, Gd_true, Gd_false, Cnd_true, Cnd_false, if_true, if_false, Bool.false_eq_true, Nat.zero_add, Option.isNone_some, Option.isNone_none, Bool.not_true, Bool.not_false, List.getElem?_cons_succ, List.getElem?_cons_zero, ln_sl_sl_uint8, ia_sl_sl_uint8, ld_sl_uint8, ln_sl_uint8, cv_uint16_int, cv_int_uint8, ia_sl_uint8, ln_sl_uint16, ia_sl_uint16, ld_uint16, sl_sl_uint8_lohi, sl_sl_uint8_hi, sl_sl_uint8_lo, cv_uint8_int, bd_ar4_uint64_0_1_2_3, bd_xxh_Hash_0, peql_p_xxh_Hash, fa_xxh_Hash_all, ld_uint64, cv_int_uint64, fa_xxh_Hash_kept, fa_xxh_Hash_n, ld_int, sl_ar32_uint8_lo, fa_xxh_Hash_v, ia_ar4_uint64, sl_ar32_uint8_lohi, sl_ar32_uint8_hi, ld_uint8, cv_uint8_uint64, ln_string, ix_string, cv_int_uint, bd_ar4_int_0_1_2_3, ix_ar4_int, ix_ar4_uint64, sl_string_lo, bd_lightermanref01_R_0, fa_lightermanref01_R_E, ld_api_Errno, fa_lightermanref01_R_B, ld_string, sl_string_hi]
  refine (joined_c b L hlen (dr w) ⟨kept, h2, hk, hod⟩).mono ?_
  rintro r w1 ⟨rfl, rfl⟩
  have hod2 := own_dr hod
  have hr : L.length % 32 < 32 := by omega
  have hbs : Bs (dr (dr w)) (.slice (some ⟨b, 4, none⟩) (L.length % 32 - 0) (32 - 0)) (L.drop (32 * (L.length / 32))) := by
    rw [← hk]
    have e : (kept.take (L.length % 32)).length = L.length % 32 := by rw [List.length_take]; omega
    rw [show L.length % 32 - 0 = (kept.take (L.length % 32)).length from by omega]
    refine hod2.bs (by omega) fun j hj => ?_
    rw [hashCells_kept h1 j (by omega)]
    simp
  have t0 : shiftA ⟨b, 4, none⟩ 32 0 1 = ⟨b, 4, none⟩ := by rw [shiftA_ne1 (by omega)]
  simp (disch := omega) only [Stp, Same, stepR_value, stepR_skip, r_add, r_sub, r_mul, r_quo, r_rem, r_and, r_or, r_xor, r_andNot, r_shl, r_shr, r_eql, r_neq, r_lss, r_leq, r_gtr, r_geq, r_neg, r_cpl, r_not, r_pick, r_min, r_max, r_nil, x20, x21, x30, x31, x32, x40, x41, x42, x43, ldC_some, Result.ok.injEq, Next.value.injEq, true_and, and_true, w_i64, w_u64, w_i32, w_u32, w_u16, w_u8, Int.toNat_natCast, isB_tt, isB_tf, isB_ft, isB_ff, Gd_true, Gd_false, Cnd_true, Cnd_false, if_true, if_false, Bool.false_eq_true, Nat.zero_add, Option.isNone_some, Option.isNone_none, Bool.not_true, Bool.not_false, List.getElem?_cons_succ, List.getElem?_cons_zero, ln_sl_sl_uint8, ia_sl_sl_uint8, ld_sl_uint8, ln_sl_uint8, cv_uint16_int, cv_int_uint8, ia_sl_uint8, ln_sl_uint16, ia_sl_uint16, ld_uint16, sl_sl_uint8_lohi, sl_sl_uint8_hi, sl_sl_uint8_lo, cv_uint8_int, bd_ar4_uint64_0_1_2_3, bd_xxh_Hash_0, peql_p_xxh_Hash, fa_xxh_Hash_all, ld_uint64, cv_int_uint64, fa_xxh_Hash_kept, fa_xxh_Hash_n, ld_int, sl_ar32_uint8_lo, fa_xxh_Hash_v, ia_ar4_uint64, sl_ar32_uint8_lohi, sl_ar32_uint8_hi, ld_uint8, cv_uint8_uint64, ln_string, ix_string, cv_int_uint, bd_ar4_int_0_1_2_3, ix_ar4_int, ix_ar4_uint64, sl_string_lo, bd_lightermanref01_R_0, fa_lightermanref01_R_E, ld_api_Errno, fa_lightermanref01_R_B, ld_string, sl_string_hi, hod.cell, hod2.cell, hashCells_all h1 h2, hashCells_n h1 h2, t0]
  refine sum_tail _ _ _ _ _ hbs (by rw [List.length_drop]; omega) ⟨rfl, (Ext.dr w _).seq (Ext.dr _ _)⟩

/-- The sum of bytes. -/
theorem of_c (L : List UInt8) (hlen : L.length ≤ 1099511627776) (v : Value) (w : World) (hv : Bs w v L) :
    Does pg F_xxh_Of #[v] w (fun r w' => r = .int .u64 (XXH L) ∧ Ext w w' nob) := by
  refine xxh_Of_does ?_
  simp (disch := omega) only [xxh_Of, xxh_Of_p1, Stp, Same, stepR_value, stepR_skip, r_add, r_sub, r_mul, r_quo, r_rem, r_and, r_or, r_xor, r_andNot, r_shl, r_shr, r_eql, r_neq, r_lss, r_leq, r_gtr, r_geq, r_neg, r_cpl, r_not, r_pick, r_min, r_max, r_nil, x20, x21, x30, x31, x32, x40, x41, x42, x43, ldC_some, Result.ok.injEq, Next.value.injEq, true_and, and_true, w_i64, w_u64, w_i32, w_u32, w_u16, w_u8, Int.toNat_natCast, isB_tt, isB_tf, isB_ft, isB_ff, Gd_true, Gd_false, Cnd_true, Cnd_false, if_true, if_false, Bool.false_eq_true, Nat.zero_add, Option.isNone_some, Option.isNone_none, Bool.not_true, Bool.not_false, List.getElem?_cons_succ, List.getElem?_cons_zero, ln_sl_sl_uint8, ia_sl_sl_uint8, ld_sl_uint8, ln_sl_uint8, cv_uint16_int, cv_int_uint8, ia_sl_uint8, ln_sl_uint16, ia_sl_uint16, ld_uint16, sl_sl_uint8_lohi, sl_sl_uint8_hi, sl_sl_uint8_lo, cv_uint8_int, bd_ar4_uint64_0_1_2_3, bd_xxh_Hash_0, peql_p_xxh_Hash, fa_xxh_Hash_all, ld_uint64, cv_int_uint64, fa_xxh_Hash_kept, fa_xxh_Hash_n, ld_int, sl_ar32_uint8_lo, fa_xxh_Hash_v, ia_ar4_uint64, sl_ar32_uint8_lohi, sl_ar32_uint8_hi, ld_uint8, cv_uint8_uint64, ln_string, ix_string, cv_int_uint, bd_ar4_int_0_1_2_3, ix_ar4_int, ix_ar4_uint64, sl_string_lo, bd_lightermanref01_R_0, fa_lightermanref01_R_E, ld_api_Errno, fa_lightermanref01_R_B, ld_string, sl_string_hi]
  refine (new_c w).mono ?_
  rintro r w1 ⟨rfl, h1, x1⟩
  have hnb : ¬ inB v (fun x => x = w.heap.size) := by
    intro hb
    refine hv.old ?_
    unfold inB at *
    split at hb
    · omega
    · exact hb
  have hv1 := hv.ext x1 (by unfold inB nob; split <;> simp)
  refine (write_c _ [] L (by simpa using hlen) v w1 h1 hv1 hnb).mono ?_
  rintro r w2 ⟨rfl, h2, x2⟩
  refine (sum_c _ L hlen w2 h2).mono ?_
  rintro r w3 ⟨rfl, x3⟩
  exact ⟨rfl, (x1.new x2 (Nat.le_refl _)).seq x3⟩

end Go.Proofs.Ytblljiohpcbieaa
