/- Contracts: the small functions of xxh and of its reference. -/
import Derived.Test.YtblljiohpcbieaaT
namespace Go.Proofs.Ytblljiohpcbieaa
open Go Go.En
set_option maxRecDepth 4000
set_option linter.unusedSimpArgs false

def rotI (x : Int) (k : Nat) : Int := orI .u64 (IntKind.u64.wrap (x * 2 ^ k)) (x.fdiv (2 ^ (64 - k)))
def rndI (v x : Int) : Int := IntKind.u64.wrap (rotI (IntKind.u64.wrap (v + IntKind.u64.wrap (x * 14029467366897019727))) 31 * 11400714785074694791)

theorem and63 : ∀ k : Fin 64, andI .u64 (k.val : Int) 63 = (k.val : Int) := by decide
theorem sub64 : ∀ k : Fin 64, IntKind.u64.wrap (64 - (k.val : Int)) = 64 - (k.val : Int) := by decide

theorem rot_c (x : Int) (k : Nat) (hk : k < 64) (w : World) :
    Does pg F_math_bits_RotateLeft64 #[.int .u64 x, .int .i64 (k : Int)] w (fun v w' => v = .int .u64 (rotI x k) ∧ w' = w) := by
  refine math_bits_RotateLeft64_does ?_
  have h1 := and63 ⟨k, hk⟩
  have h2 := sub64 ⟨k, hk⟩
  simp only at h1 h2
  have e1 : min k IntKind.u64.bits = k := by simp only [IntKind.bits]; omega
  have e2 : min (64 - (k : Int)).toNat IntKind.u64.bits = 64 - k := by simp only [IntKind.bits]; omega
  simp (disch := omega) only [math_bits_RotateLeft64, math_bits_RotateLeft64_p1, Stp, Same, stepR_value, stepR_skip, r_add, r_sub, r_mul, r_quo, r_rem, r_and, r_or, r_xor, r_andNot, r_shl, r_shr, r_eql, r_neq, r_lss, r_leq, r_gtr, r_geq, r_neg, r_cpl, r_not, r_pick, r_min, r_max, r_nil, x20, x21, x30, x31, x32, x40, x41, x42, x43, ldC_some, Result.ok.injEq, Next.value.injEq, true_and, and_true, w_i64, w_u64, w_i32, w_u32, w_u16, w_u8, Int.toNat_natCast, isB_tt, isB_tf, isB_ft, isB_ff, Gd_true, Gd_false, Cnd_true, Cnd_false, if_true, if_false, Bool.false_eq_true, Nat.zero_add, Option.isNone_some, Option.isNone_none, Bool.not_true, Bool.not_false, List.getElem?_cons_succ, List.getElem?_cons_zero, ln_sl_sl_uint8, ia_sl_sl_uint8, ld_sl_uint8, ln_sl_uint8, cv_uint16_int, cv_int_uint8, ia_sl_uint8, ln_sl_uint16, ia_sl_uint16, ld_uint16, sl_sl_uint8_lohi, sl_sl_uint8_hi, sl_sl_uint8_lo, cv_uint8_int, bd_ar4_uint64_0_1_2_3, bd_xxh_Hash_0, peql_p_xxh_Hash, fa_xxh_Hash_all, ld_uint64, cv_int_uint64, fa_xxh_Hash_kept, fa_xxh_Hash_n, ld_int, sl_ar32_uint8_lo, fa_xxh_Hash_v, ia_ar4_uint64, sl_ar32_uint8_lohi, sl_ar32_uint8_hi, ld_uint8, cv_uint8_uint64, ln_string, ix_string, cv_int_uint, bd_ar4_int_0_1_2_3, ix_ar4_int, ix_ar4_uint64, sl_string_lo, bd_lightermanref01_R_0, fa_lightermanref01_R_E, ld_api_Errno, fa_lightermanref01_R_B, ld_string, sl_string_hi, h1, h2, e1, e2, rotI]

theorem turn_c (x : Int) (k : Nat) (hk : k < 64) (w : World) :
    Does pg F_ref03_turn #[.int .u64 x, .int .u64 (k : Int)] w (fun v w' => v = .int .u64 (rotI x k) ∧ w' = w) := by
  refine ref03_turn_does ?_
  have h2 := sub64 ⟨k, hk⟩
  simp only at h2
  have e1 : min k IntKind.u64.bits = k := by simp only [IntKind.bits]; omega
  have e2 : min (64 - (k : Int)).toNat IntKind.u64.bits = 64 - k := by simp only [IntKind.bits]; omega
  simp (disch := omega) only [ref03_turn, ref03_turn_p1, Stp, Same, stepR_value, stepR_skip, r_add, r_sub, r_mul, r_quo, r_rem, r_and, r_or, r_xor, r_andNot, r_shl, r_shr, r_eql, r_neq, r_lss, r_leq, r_gtr, r_geq, r_neg, r_cpl, r_not, r_pick, r_min, r_max, r_nil, x20, x21, x30, x31, x32, x40, x41, x42, x43, ldC_some, Result.ok.injEq, Next.value.injEq, true_and, and_true, w_i64, w_u64, w_i32, w_u32, w_u16, w_u8, Int.toNat_natCast, isB_tt, isB_tf, isB_ft, isB_ff, Gd_true, Gd_false, Cnd_true, Cnd_false, if_true, if_false, Bool.false_eq_true, Nat.zero_add, Option.isNone_some, Option.isNone_none, Bool.not_true, Bool.not_false, List.getElem?_cons_succ, List.getElem?_cons_zero, ln_sl_sl_uint8, ia_sl_sl_uint8, ld_sl_uint8, ln_sl_uint8, cv_uint16_int, cv_int_uint8, ia_sl_uint8, ln_sl_uint16, ia_sl_uint16, ld_uint16, sl_sl_uint8_lohi, sl_sl_uint8_hi, sl_sl_uint8_lo, cv_uint8_int, bd_ar4_uint64_0_1_2_3, bd_xxh_Hash_0, peql_p_xxh_Hash, fa_xxh_Hash_all, ld_uint64, cv_int_uint64, fa_xxh_Hash_kept, fa_xxh_Hash_n, ld_int, sl_ar32_uint8_lo, fa_xxh_Hash_v, ia_ar4_uint64, sl_ar32_uint8_lohi, sl_ar32_uint8_hi, ld_uint8, cv_uint8_uint64, ln_string, ix_string, cv_int_uint, bd_ar4_int_0_1_2_3, ix_ar4_int, ix_ar4_uint64, sl_string_lo, bd_lightermanref01_R_0, fa_lightermanref01_R_E, ld_api_Errno, fa_lightermanref01_R_B, ld_string, sl_string_hi, h2, e1, e2, rotI]

theorem round_c (v x : Int) (w : World) :
    Does pg F_xxh_round #[.int .u64 v, .int .u64 x] w (fun r w' => r = .int .u64 (rndI v x) ∧ w' = w) := by
  refine xxh_round_does ?_
  simp (disch := omega) only [xxh_round, xxh_round_p1, Stp, Same, stepR_value, stepR_skip, r_add, r_sub, r_mul, r_quo, r_rem, r_and, r_or, r_xor, r_andNot, r_shl, r_shr, r_eql, r_neq, r_lss, r_leq, r_gtr, r_geq, r_neg, r_cpl, r_not, r_pick, r_min, r_max, r_nil, x20, x21, x30, x31, x32, x40, x41, x42, x43, ldC_some, Result.ok.injEq, Next.value.injEq, true_and, and_true, w_i64, w_u64, w_i32, w_u32, w_u16, w_u8, Int.toNat_natCast, isB_tt, isB_tf, isB_ft, isB_ff, Gd_true, Gd_false, Cnd_true, Cnd_false, if_true, if_false, Bool.false_eq_true, Nat.zero_add, Option.isNone_some, Option.isNone_none, Bool.not_true, Bool.not_false, List.getElem?_cons_succ, List.getElem?_cons_zero, ln_sl_sl_uint8, ia_sl_sl_uint8, ld_sl_uint8, ln_sl_uint8, cv_uint16_int, cv_int_uint8, ia_sl_uint8, ln_sl_uint16, ia_sl_uint16, ld_uint16, sl_sl_uint8_lohi, sl_sl_uint8_hi, sl_sl_uint8_lo, cv_uint8_int, bd_ar4_uint64_0_1_2_3, bd_xxh_Hash_0, peql_p_xxh_Hash, fa_xxh_Hash_all, ld_uint64, cv_int_uint64, fa_xxh_Hash_kept, fa_xxh_Hash_n, ld_int, sl_ar32_uint8_lo, fa_xxh_Hash_v, ia_ar4_uint64, sl_ar32_uint8_lohi, sl_ar32_uint8_hi, ld_uint8, cv_uint8_uint64, ln_string, ix_string, cv_int_uint, bd_ar4_int_0_1_2_3, ix_ar4_int, ix_ar4_uint64, sl_string_lo, bd_lightermanref01_R_0, fa_lightermanref01_R_E, ld_api_Errno, fa_lightermanref01_R_B, ld_string, sl_string_hi]
  refine (rot_c _ 31 (by omega) w).mono ?_
  rintro r w' ⟨rfl, rfl⟩
  simp (disch := omega) only [Stp, Same, stepR_value, stepR_skip, r_add, r_sub, r_mul, r_quo, r_rem, r_and, r_or, r_xor, r_andNot, r_shl, r_shr, r_eql, r_neq, r_lss, r_leq, r_gtr, r_geq, r_neg, r_cpl, r_not, r_pick, r_min, r_max, r_nil, x20, x21, x30, x31, x32, x40, x41, x42, x43, ldC_some, Result.ok.injEq, Next.value.injEq, true_and, and_true, w_i64, w_u64, w_i32, w_u32, w_u16, w_u8, Int.toNat_natCast, isB_tt, isB_tf, isB_ft, isB_ff, Gd_true, Gd_false, Cnd_true, Cnd_false, if_true, if_false, Bool.false_eq_true, Nat.zero_add, Option.isNone_some, Option.isNone_none, Bool.not_true, Bool.not_false, List.getElem?_cons_succ, List.getElem?_cons_zero, ln_sl_sl_uint8, ia_sl_sl_uint8, ld_sl_uint8, ln_sl_uint8, cv_uint16_int, cv_int_uint8, ia_sl_uint8, ln_sl_uint16, ia_sl_uint16, ld_uint16, sl_sl_uint8_lohi, sl_sl_uint8_hi, sl_sl_uint8_lo, cv_uint8_int, bd_ar4_uint64_0_1_2_3, bd_xxh_Hash_0, peql_p_xxh_Hash, fa_xxh_Hash_all, ld_uint64, cv_int_uint64, fa_xxh_Hash_kept, fa_xxh_Hash_n, ld_int, sl_ar32_uint8_lo, fa_xxh_Hash_v, ia_ar4_uint64, sl_ar32_uint8_lohi, sl_ar32_uint8_hi, ld_uint8, cv_uint8_uint64, ln_string, ix_string, cv_int_uint, bd_ar4_int_0_1_2_3, ix_ar4_int, ix_ar4_uint64, sl_string_lo, bd_lightermanref01_R_0, fa_lightermanref01_R_E, ld_api_Errno, fa_lightermanref01_R_B, ld_string, sl_string_hi, rndI]

theorem rround_c (v x : Int) (w : World) :
    Does pg F_ref03_round #[.int .u64 v, .int .u64 x] w (fun r w' => r = .int .u64 (rndI v x) ∧ w' = w) := by
  refine ref03_round_does ?_
  simp (disch := omega) only [ref03_round, ref03_round_p1, Stp, Same, stepR_value, stepR_skip, r_add, r_sub, r_mul, r_quo, r_rem, r_and, r_or, r_xor, r_andNot, r_shl, r_shr, r_eql, r_neq, r_lss, r_leq, r_gtr, r_geq, r_neg, r_cpl, r_not, r_pick, r_min, r_max, r_nil, x20, x21, x30, x31, x32, x40, x41, x42, x43, ldC_some, Result.ok.injEq, Next.value.injEq, true_and, and_true, w_i64, w_u64, w_i32, w_u32, w_u16, w_u8, Int.toNat_natCast, isB_tt, isB_tf, isB_ft, isB_ff, Gd_true, Gd_false, Cnd_true, Cnd_false, if_true, if_false, Bool.false_eq_true, Nat.zero_add, Option.isNone_some, Option.isNone_none, Bool.not_true, Bool.not_false, List.getElem?_cons_succ, List.getElem?_cons_zero, ln_sl_sl_uint8, ia_sl_sl_uint8, ld_sl_uint8, ln_sl_uint8, cv_uint16_int, cv_int_uint8, ia_sl_uint8, ln_sl_uint16, ia_sl_uint16, ld_uint16, sl_sl_uint8_lohi, sl_sl_uint8_hi, sl_sl_uint8_lo, cv_uint8_int, bd_ar4_uint64_0_1_2_3, bd_xxh_Hash_0, peql_p_xxh_Hash, fa_xxh_Hash_all, ld_uint64, cv_int_uint64, fa_xxh_Hash_kept, fa_xxh_Hash_n, ld_int, sl_ar32_uint8_lo, fa_xxh_Hash_v, ia_ar4_uint64, sl_ar32_uint8_lohi, sl_ar32_uint8_hi, ld_uint8, cv_uint8_uint64, ln_string, ix_string, cv_int_uint, bd_ar4_int_0_1_2_3, ix_ar4_int, ix_ar4_uint64, sl_string_lo, bd_lightermanref01_R_0, fa_lightermanref01_R_E, ld_api_Errno, fa_lightermanref01_R_B, ld_string, sl_string_hi]
  refine (turn_c _ 31 (by omega) w).mono ?_
  rintro r w' ⟨rfl, rfl⟩
  simp (disch := omega) only [Stp, Same, stepR_value, stepR_skip, r_add, r_sub, r_mul, r_quo, r_rem, r_and, r_or, r_xor, r_andNot, r_shl, r_shr, r_eql, r_neq, r_lss, r_leq, r_gtr, r_geq, r_neg, r_cpl, r_not, r_pick, r_min, r_max, r_nil, x20, x21, x30, x31, x32, x40, x41, x42, x43, ldC_some, Result.ok.injEq, Next.value.injEq, true_and, and_true, w_i64, w_u64, w_i32, w_u32, w_u16, w_u8, Int.toNat_natCast, isB_tt, isB_tf, isB_ft, isB_ff, Gd_true, Gd_false, Cnd_true, Cnd_false, if_true, if_false, Bool.false_eq_true, Nat.zero_add, Option.isNone_some, Option.isNone_none, Bool.not_true, Bool.not_false, List.getElem?_cons_succ, List.getElem?_cons_zero, ln_sl_sl_uint8, ia_sl_sl_uint8, ld_sl_uint8, ln_sl_uint8, cv_uint16_int, cv_int_uint8, ia_sl_uint8, ln_sl_uint16, ia_sl_uint16, ld_uint16, sl_sl_uint8_lohi, sl_sl_uint8_hi, sl_sl_uint8_lo, cv_uint8_int, bd_ar4_uint64_0_1_2_3, bd_xxh_Hash_0, peql_p_xxh_Hash, fa_xxh_Hash_all, ld_uint64, cv_int_uint64, fa_xxh_Hash_kept, fa_xxh_Hash_n, ld_int, sl_ar32_uint8_lo, fa_xxh_Hash_v, ia_ar4_uint64, sl_ar32_uint8_lohi, sl_ar32_uint8_hi, ld_uint8, cv_uint8_uint64, ln_string, ix_string, cv_int_uint, bd_ar4_int_0_1_2_3, ix_ar4_int, ix_ar4_uint64, sl_string_lo, bd_lightermanref01_R_0, fa_lightermanref01_R_E, ld_api_Errno, fa_lightermanref01_R_B, ld_string, sl_string_hi, rndI]

def numLE : List UInt8 → Int
  | [] => 0
  | c :: l => (c.toNat : Int) + 256 * numLE l

theorem numLE_nonneg : ∀ l, 0 ≤ numLE l
  | [] => by simp [numLE]
  | c :: l => by have := numLE_nonneg l; simp only [numLE]; omega
theorem numLE_snoc (l : List UInt8) (c : UInt8) : numLE (l ++ [c]) = numLE l + (c.toNat : Int) * 256 ^ l.length := by
  induction l with
  | nil => simp [numLE]
  | cons a l ih => simp only [List.cons_append, numLE, ih, List.length_cons, Int.pow_succ, Int.mul_add]; rw [Int.mul_comm (256 : Int) (_ * _), Int.mul_assoc]; omega
theorem numLE_lt : ∀ l : List UInt8, numLE l < 256 ^ l.length
  | [] => by simp [numLE]
  | c :: l => by
    have := numLE_lt l
    have hc : c.toNat < 256 := c.toNat_lt
    simp only [numLE, List.length_cons, Int.pow_succ]; omega
theorem take_succ_get {α : Type} {l : List α} {k : Nat} (h : k < l.length) : l.take (k + 1) = l.take k ++ [l[k]] := by
  rw [List.take_succ_eq_append_getElem h]

/-- A byte laid above what there is. -/
theorem or_above {x : Int} {c k : Nat} (hk : k < 8) (hx0 : 0 ≤ x) (hx : x < 256 ^ k) (hc : c < 256) :
    orI .u64 x (IntKind.u64.wrap ((c : Int) * 2 ^ (8 * k))) = x + (c : Int) * 256 ^ k := by
  obtain ⟨m, rfl⟩ := Int.eq_ofNat_of_zero_le hx0
  have e256 : (256 : Nat) ^ k = 2 ^ (8 * k) := by rw [show (256 : Nat) = 2 ^ 8 from rfl, ← Nat.pow_mul]
  have hm : m < 2 ^ (8 * k) := by rw [← e256]; exact_mod_cast hx
  have hle : c * 2 ^ (8 * k) + 2 ^ (8 * k) ≤ 2 ^ 64 := by
    have h1 : (c + 1) * 2 ^ (8 * k) ≤ 256 * 2 ^ (8 * k) := Nat.mul_le_mul_right _ (by omega)
    have h2 : (256 : Nat) * 2 ^ (8 * k) = 2 ^ (8 * k + 8) := by rw [Nat.pow_add, Nat.mul_comm]
    have h3 : (2 : Nat) ^ (8 * k + 8) ≤ 2 ^ 64 := Nat.pow_le_pow_right (by omega) (by omega)
    rw [Nat.add_mul] at h1; omega
  have hpos : 0 < 2 ^ (8 * k) := Nat.pow_pos (by omega)
  have w : IntKind.u64.wrap ((c : Int) * 2 ^ (8 * k)) = ((c * 2 ^ (8 * k) : Nat) : Int) := by
    have : ((c : Int) * 2 ^ (8 * k)) = ((c * 2 ^ (8 * k) : Nat) : Int) := by push_cast; rfl
    rw [this]; exact w_u64 (by omega) (by omega)
  rw [w]
  have b1 : (BitVec.ofInt 64 (m : Int) ||| BitVec.ofInt 64 ((c * 2 ^ (8 * k) : Nat) : Int)).toNat = m + c * 2 ^ (8 * k) := by
    rw [BitVec.toNat_or]
    simp only [BitVec.toNat_ofInt]
    have e1 : (((m : Int) % ((2 ^ 64 : Nat) : Int)).toNat) = m := by omega
    have e2 : ((((c * 2 ^ (8 * k) : Nat) : Int) % ((2 ^ 64 : Nat) : Int)).toNat) = c * 2 ^ (8 * k) := by omega
    rw [e1, e2, Nat.or_comm, Nat.mul_comm c, ← Nat.two_pow_add_eq_or_of_lt hm]
    omega
  show IntKind.u64.wrap ((BitVec.ofInt 64 (m : Int) ||| BitVec.ofInt 64 ((c * 2 ^ (8 * k) : Nat) : Int)).toNat : Int) = _
  rw [b1]
  have : ((m + c * 2 ^ (8 * k) : Nat) : Int) = (m : Int) + (c : Int) * 256 ^ k := by
    rw [← e256]; push_cast; rfl
  rw [← this]
  exact w_u64 (by omega) (by omega)

theorem number_c (v : Value) (l : List UInt8) (w : World) (h : Bs w v l) (hl : l.length ≤ 8) :
    Does pg F_xxh_number #[v] w (fun r w' => r = .int .u64 (numLE l) ∧ w' = w) := by
  obtain ⟨a, n, c, rfl, hn, hc, hcell⟩ := h
  rw [List.length_map] at hn
  subst hn
  refine xxh_number_does ?_
  simp (disch := omega) only [xxh_number, xxh_number_p1, xxh_number_p3, xxh_number_p4, xxh_number_p5, xxh_number_p6, xxh_number_p7, xxh_number_p8, xxh_number_p9, Stp, Same, stepR_value, stepR_skip, r_add, r_sub, r_mul, r_quo, r_rem, r_and, r_or, r_xor, r_andNot, r_shl, r_shr, r_eql, r_neq, r_lss, r_leq, r_gtr, r_geq, r_neg, r_cpl, r_not, r_pick, r_min, r_max, r_nil, x20, x21, x30, x31, x32, x40, x41, x42, x43, ldC_some, Result.ok.injEq, Next.value.injEq, true_and, and_true, w_i64, w_u64, w_i32, w_u32, w_u16, w_u8, Int.toNat_natCast, isB_tt, isB_tf, isB_ft, isB_ff, Gd_true, Gd_false, Cnd_true, Cnd_false, if_true, if_false, Bool.false_eq_true, Nat.zero_add, Option.isNone_some, Option.isNone_none, Bool.not_true, Bool.not_false, List.getElem?_cons_succ, List.getElem?_cons_zero, ln_sl_sl_uint8, ia_sl_sl_uint8, ld_sl_uint8, ln_sl_uint8, cv_uint16_int, cv_int_uint8, ia_sl_uint8, ln_sl_uint16, ia_sl_uint16, ld_uint16, sl_sl_uint8_lohi, sl_sl_uint8_hi, sl_sl_uint8_lo, cv_uint8_int, bd_ar4_uint64_0_1_2_3, bd_xxh_Hash_0, peql_p_xxh_Hash, fa_xxh_Hash_all, ld_uint64, cv_int_uint64, fa_xxh_Hash_kept, fa_xxh_Hash_n, ld_int, sl_ar32_uint8_lo, fa_xxh_Hash_v, ia_ar4_uint64, sl_ar32_uint8_lohi, sl_ar32_uint8_hi, ld_uint8, cv_uint8_uint64, ln_string, ix_string, cv_int_uint, bd_ar4_int_0_1_2_3, ix_ar4_int, ix_ar4_uint64, sl_string_lo, bd_lightermanref01_R_0, fa_lightermanref01_R_E, ld_api_Errno, fa_lightermanref01_R_B, ld_string, sl_string_hi]
  refine LoopD.rule (fun n t w' => ∃ k : Nat, n = l.length - k ∧ k ≤ l.length ∧ t = (.int .u64 (numLE (l.take k)), .int .i64 (k : Int)) ∧ w' = w) l.length ⟨0, rfl, Nat.zero_le _, rfl, rfl⟩ ?_
  rintro n t w' ⟨k, rfl, hk, rfl, rfl⟩
  by_cases hlt : k < l.length
  · obtain ⟨b, off, rfl, hcell'⟩ := hcell (by omega)
    have hcl := hcell' k hlt
    rw [List.getElem?_map, List.getElem?_eq_getElem hlt, Option.map_some] at hcl
    have hb : (l[k].toNat) < 256 := l[k].toNat_lt
    have hd : decide ((k : Int) < (l.length : Int)) = true := by simpa using hlt
    have e1 : min (8 * (k : Int)).toNat IntKind.u64.bits = 8 * k := by simp only [IntKind.bits]; omega
    simp (disch := omega) only [xxh_number_p2, Stp, Same, stepR_value, stepR_skip, r_add, r_sub, r_mul, r_quo, r_rem, r_and, r_or, r_xor, r_andNot, r_shl, r_shr, r_eql, r_neq, r_lss, r_leq, r_gtr, r_geq, r_neg, r_cpl, r_not, r_pick, r_min, r_max, r_nil, x20, x21, x30, x31, x32, x40, x41, x42, x43, ldC_some, Result.ok.injEq, Next.value.injEq, true_and, and_true, w_i64, w_u64, w_i32, w_u32, w_u16, w_u8, Int.toNat_natCast, isB_tt, isB_tf, isB_ft, isB_ff, Gd_true, Gd_false, Cnd_true, Cnd_false, if_true, if_false, Bool.false_eq_true, Nat.zero_add, Option.isNone_some, Option.isNone_none, Bool.not_true, Bool.not_false, List.getElem?_cons_succ, List.getElem?_cons_zero, ln_sl_sl_uint8, ia_sl_sl_uint8, ld_sl_uint8, ln_sl_uint8, cv_uint16_int, cv_int_uint8, ia_sl_uint8, ln_sl_uint16, ia_sl_uint16, ld_uint16, sl_sl_uint8_lohi, sl_sl_uint8_hi, sl_sl_uint8_lo, cv_uint8_int, bd_ar4_uint64_0_1_2_3, bd_xxh_Hash_0, peql_p_xxh_Hash, fa_xxh_Hash_all, ld_uint64, cv_int_uint64, fa_xxh_Hash_kept, fa_xxh_Hash_n, ld_int, sl_ar32_uint8_lo, fa_xxh_Hash_v, ia_ar4_uint64, sl_ar32_uint8_lohi, sl_ar32_uint8_hi, ld_uint8, cv_uint8_uint64, ln_string, ix_string, cv_int_uint, bd_ar4_int_0_1_2_3, ix_ar4_int, ix_ar4_uint64, sl_string_lo, bd_lightermanref01_R_0, fa_lightermanref01_R_E, ld_api_Errno, fa_lightermanref01_R_B, ld_string, sl_string_hi, hd, Cnd_true, hcl, b2v, e1]
    have hlen : (l.take k).length = k := by simp; omega
    have hx := numLE_lt (l.take k)
    rw [hlen] at hx
    refine ⟨l.length - (k + 1), by omega, k + 1, rfl, by omega, ?_⟩
    rw [or_above (by omega) (numLE_nonneg _) hx hb, take_succ_get hlt, numLE_snoc, hlen]
    rfl
  · have hd : decide ((k : Int) < (l.length : Int)) = false := by simpa using hlt
    simp (disch := omega) only [xxh_number_p2, Stp, Same, stepR_value, stepR_skip, r_add, r_sub, r_mul, r_quo, r_rem, r_and, r_or, r_xor, r_andNot, r_shl, r_shr, r_eql, r_neq, r_lss, r_leq, r_gtr, r_geq, r_neg, r_cpl, r_not, r_pick, r_min, r_max, r_nil, x20, x21, x30, x31, x32, x40, x41, x42, x43, ldC_some, Result.ok.injEq, Next.value.injEq, true_and, and_true, w_i64, w_u64, w_i32, w_u32, w_u16, w_u8, Int.toNat_natCast, isB_tt, isB_tf, isB_ft, isB_ff, Gd_true, Gd_false, Cnd_true, Cnd_false, if_true, if_false, Bool.false_eq_true, Nat.zero_add, Option.isNone_some, Option.isNone_none, Bool.not_true, Bool.not_false, List.getElem?_cons_succ, List.getElem?_cons_zero, ln_sl_sl_uint8, ia_sl_sl_uint8, ld_sl_uint8, ln_sl_uint8, cv_uint16_int, cv_int_uint8, ia_sl_uint8, ln_sl_uint16, ia_sl_uint16, ld_uint16, sl_sl_uint8_lohi, sl_sl_uint8_hi, sl_sl_uint8_lo, cv_uint8_int, bd_ar4_uint64_0_1_2_3, bd_xxh_Hash_0, peql_p_xxh_Hash, fa_xxh_Hash_all, ld_uint64, cv_int_uint64, fa_xxh_Hash_kept, fa_xxh_Hash_n, ld_int, sl_ar32_uint8_lo, fa_xxh_Hash_v, ia_ar4_uint64, sl_ar32_uint8_lohi, sl_ar32_uint8_hi, ld_uint8, cv_uint8_uint64, ln_string, ix_string, cv_int_uint, bd_ar4_int_0_1_2_3, ix_ar4_int, ix_ar4_uint64, sl_string_lo, bd_lightermanref01_R_0, fa_lightermanref01_R_E, ld_api_Errno, fa_lightermanref01_R_B, ld_string, sl_string_hi, hd, Cnd_false]
    rw [List.take_of_length_le (by omega)]

end Go.Proofs.Ytblljiohpcbieaa
