/- Contracts: a finder of copies. -/
import Derived.Test.YtoobkaojepgnjaaT
namespace Go.Proofs.Ytoobkaojepgnjaa
open Go Go.En
set_option maxRecDepth 4000
set_option linter.unusedSimpArgs false

/-- A finder over bytes, up to a place. -/
structure Fnd (w : World) (p mb ab : Nat) (bv : Value) (B : List UInt8) (to tries : Nat) (es : List (Vec 4 × Value)) (A : List Int) : Prop where
  own : Own w p [bv, .int .i64 to, .map (some mb), .slice (some ⟨ab, 0, none⟩) to to, .int .i64 tries]
  bs : Bs w bv B
  map : Mp w mb encV es
  ah : Own w ab (A.map (Value.int .i64))
  len : A.length = to
  le : to ≤ B.length
  big : B.length ≤ 1099511627776

theorem Fnd.ext {w w' : World} {p mb ab : Nat} {bv : Value} {B : List UInt8} {to tries : Nat} {es : List (Vec 4 × Value)} {A : List Int} {M : Nat → Prop} (h : Fnd w p mb ab bv B to tries es A) (hx : Ext w w' M)
    (h1 : ¬ M p) (h2 : ¬ M mb) (h3 : ¬ M ab) (h4 : ¬ inB bv M) : Fnd w' p mb ab bv B to tries es A :=
  ⟨h.own.ext hx h1, h.bs.ext hx h4, h.map.ext hx h2, h.ah.ext hx h3, h.len, h.le, h.big⟩
theorem Fnd.same {w w' : World} {p mb ab : Nat} {bv : Value} {B : List UInt8} {to tries : Nat} {es : List (Vec 4 × Value)} {A : List Int} (h : Fnd w p mb ab bv B to tries es A) (hx : Ext w w' nob) : Fnd w' p mb ab bv B to tries es A :=
  h.ext hx (fun h => h) (fun h => h) (fun h => h) (inB_nob _)
theorem Fnd.dr {w : World} {p mb ab : Nat} {bv : Value} {B : List UInt8} {to tries : Nat} {es : List (Vec 4 × Value)} {A : List Int} (h : Fnd w p mb ab bv B to tries es A) : Fnd (dr w) p mb ab bv B to tries es A :=
  h.same (Ext.dr _ _)

/-- how long bytes are alike at two places -/
structure Lng (B : List UInt8) (to old at_ n : Nat) : Prop where
  le : at_ + n ≤ to ∨ n = 0
  most : n ≤ 131074
  same : ∀ j, j < n → B[old + j]? = B[at_ + j]?
  full : n = 131074 ∨ to ≤ at_ + n ∨ B[old + n]? ≠ B[at_ + n]?

theorem long_c {w : World} {p mb ab : Nat} {bv : Value} {B : List UInt8} {to tries : Nat} {es : List (Vec 4 × Value)} {A : List Int} (hf : Fnd w p mb ab bv B to tries es A) (old at_ : Nat) (ho : old < at_) (ha : at_ ≤ to + 1) :
    Does pg F_match_finder_long #[.pointer (some ⟨p, 0, none⟩), .int .i64 old, .int .i64 at_] w (fun r w' => ∃ n : Nat, r = .int .i64 n ∧ Lng B to old at_ n ∧ Ext w w' nob) := by
  have hle := hf.le
  have hbig := hf.big
  refine match_finder_long_does ?_
  simp (disch := omega) only [match_finder_long_p1, match_finder_long_p3, match_finder_long_p4, match_finder_long_p5, match_finder_long_p6, match_finder_long_p7, match_finder_long, Stp, Same, stepR_value, stepR_skip, r_add, r_sub, r_mul, r_quo, r_rem, r_and, r_or, r_xor, r_andNot, r_shl, r_shr, r_eql, r_neq, r_lss, r_leq, r_gtr, r_geq, r_neg, r_cpl, r_not, r_pick, r_min, r_max, r_nil, x20, x21, x30, x31, x32, x40, x41, x42, x43, ldC_some, Result.ok.injEq, Next.value.injEq, true_and, and_true, w_i64, w_u64, w_i32, w_u32, w_u16, w_u8, Int.toNat_natCast, isB_tt, isB_tf, isB_ft, isB_ff, Gd_true, Gd_false, Cnd_true, Cnd_false, if_true, if_false, Bool.false_eq_true, Nat.zero_add, Option.isNone_some, Option.isNone_none, Bool.not_true, Bool.not_false, List.getElem?_cons_succ, List.getElem?_cons_zero, ln_sl_uint8, ln_sl_api_Sequence, cv_uint16_int, ia_sl_uint8, cv_uint8_int, ln_string, sl_sl_uint8_hi, bd_match_finder_0_1_2_3_4, cv_int_uint32, bd_api_Sequence_0_1_2, ia_sl_api_Sequence, fa_api_Sequence_Literals, ld_uint32, cv_uint32_int, fa_api_Sequence_Match, fa_api_Sequence_Offset, ix_string, fa_match_finder_last, ld_map_ar4_uint8_int, fa_match_finder_ahead, ld_sl_int, ia_sl_int, fa_match_finder_tries, ld_int, fa_match_finder_b, ld_sl_uint8, bd_ar4_uint8_, sl_sl_uint8_lohi, sa_ar4_uint8, fa_match_finder_to, ld_uint8]
  refine LoopD.rule (fun m t w' => ∃ n : Nat, m = 131074 - n ∧ t = .int .i64 n ∧ (at_ + n ≤ to ∨ n = 0) ∧ n ≤ 131074 ∧ (∀ j, j < n → B[old + j]? = B[at_ + j]?) ∧ Ext w w' nob) 131074 ⟨0, rfl, rfl, .inr rfl, by omega, fun j h => by omega, Ext.refl _ _⟩ ?_
  rintro m t w1 ⟨n, rfl, rfl, h1, h2, h3, hx⟩
  have hf := (hf.same hx).dr
  have c1 := hf.own.cell (off := 1)
  have c0 := hf.own.cell (off := 0)
  simp only [List.getElem?_cons_zero, List.getElem?_cons_succ] at c0 c1
  by_cases hlt : at_ + n < to
  · have d1 : decide ((at_ : Int) + (n : Int) < (to : Int)) = true := by simp; omega
    by_cases hm : n < 131074
    · have d2 : decide ((n : Int) < 131074) = true := by simp; omega
      obtain ⟨b, off, c, rfl, hc, hb⟩ := hf.bs.open (by omega)
      have e1 : ((old : Int) + (n : Int)).toNat = old + n := by omega
      have e2 : ((at_ : Int) + (n : Int)).toNat = at_ + n := by omega
      have g1 := hb (old + n) (by omega)
      have g2 := hb (at_ + n) (by omega)
      by_cases hq : B[old + n]'(by omega) = B[at_ + n]'(by omega)
      · have d3 : ((((B[old + n]'(by omega)).toNat : Int)) == (((B[at_ + n]'(by omega)).toNat : Nat) : Int)) = true := by rw [hq]; simp
        simp (disch := omega) only [match_finder_long_p2, Stp, Same, stepR_value, stepR_skip, r_add, r_sub, r_mul, r_quo, r_rem, r_and, r_or, r_xor, r_andNot, r_shl, r_shr, r_eql, r_neq, r_lss, r_leq, r_gtr, r_geq, r_neg, r_cpl, r_not, r_pick, r_min, r_max, r_nil, x20, x21, x30, x31, x32, x40, x41, x42, x43, ldC_some, Result.ok.injEq, Next.value.injEq, true_and, and_true, w_i64, w_u64, w_i32, w_u32, w_u16, w_u8, Int.toNat_natCast, isB_tt, isB_tf, isB_ft, isB_ff, Gd_true, Gd_false, Cnd_true, Cnd_false, if_true, if_false, Bool.false_eq_true, Nat.zero_add, Option.isNone_some, Option.isNone_none, Bool.not_true, Bool.not_false, List.getElem?_cons_succ, List.getElem?_cons_zero, ln_sl_uint8, ln_sl_api_Sequence, cv_uint16_int, ia_sl_uint8, cv_uint8_int, ln_string, sl_sl_uint8_hi, bd_match_finder_0_1_2_3_4, cv_int_uint32, bd_api_Sequence_0_1_2, ia_sl_api_Sequence, fa_api_Sequence_Literals, ld_uint32, cv_uint32_int, fa_api_Sequence_Match, fa_api_Sequence_Offset, ix_string, fa_match_finder_last, ld_map_ar4_uint8_int, fa_match_finder_ahead, ld_sl_int, ia_sl_int, fa_match_finder_tries, ld_int, fa_match_finder_b, ld_sl_uint8, bd_ar4_uint8_, sl_sl_uint8_lohi, sa_ar4_uint8, fa_match_finder_to, ld_uint8, d1, d2, c0, c1, e1, e2, g1, g2, b2v, d3]
        refine ⟨131074 - (n + 1), by omega, n + 1, rfl, rfl, .inl (by omega), by omega, fun j hj => ?_, hx.seq (Ext.dr _ _)⟩
        by_cases hjn : j = n
        · subst hjn
          rw [List.getElem?_eq_getElem (by omega), List.getElem?_eq_getElem (by omega), hq]
        · exact h3 j (by omega)
      · have d3 : ((((B[old + n]'(by omega)).toNat : Int)) == (((B[at_ + n]'(by omega)).toNat : Nat) : Int)) = false := by
          rw [b2v_inj]; simpa using hq
        simp (disch := omega) only [match_finder_long_p2, Stp, Same, stepR_value, stepR_skip, r_add, r_sub, r_mul, r_quo, r_rem, r_and, r_or, r_xor, r_andNot, r_shl, r_shr, r_eql, r_neq, r_lss, r_leq, r_gtr, r_geq, r_neg, r_cpl, r_not, r_pick, r_min, r_max, r_nil, x20, x21, x30, x31, x32, x40, x41, x42, x43, ldC_some, Result.ok.injEq, Next.value.injEq, true_and, and_true, w_i64, w_u64, w_i32, w_u32, w_u16, w_u8, Int.toNat_natCast, isB_tt, isB_tf, isB_ft, isB_ff, Gd_true, Gd_false, Cnd_true, Cnd_false, if_true, if_false, Bool.false_eq_true, Nat.zero_add, Option.isNone_some, Option.isNone_none, Bool.not_true, Bool.not_false, List.getElem?_cons_succ, List.getElem?_cons_zero, ln_sl_uint8, ln_sl_api_Sequence, cv_uint16_int, ia_sl_uint8, cv_uint8_int, ln_string, sl_sl_uint8_hi, bd_match_finder_0_1_2_3_4, cv_int_uint32, bd_api_Sequence_0_1_2, ia_sl_api_Sequence, fa_api_Sequence_Literals, ld_uint32, cv_uint32_int, fa_api_Sequence_Match, fa_api_Sequence_Offset, ix_string, fa_match_finder_last, ld_map_ar4_uint8_int, fa_match_finder_ahead, ld_sl_int, ia_sl_int, fa_match_finder_tries, ld_int, fa_match_finder_b, ld_sl_uint8, bd_ar4_uint8_, sl_sl_uint8_lohi, sa_ar4_uint8, fa_match_finder_to, ld_uint8, d1, d2, c0, c1, e1, e2, g1, g2, b2v, d3]
        refine ⟨n, rfl, ⟨h1, h2, h3, .inr (.inr ?_)⟩, hx.seq (Ext.dr _ _)⟩
        rw [List.getElem?_eq_getElem (by omega), List.getElem?_eq_getElem (by omega)]
        exact fun h => hq (Option.some.inj h)
    · have d2 : decide ((n : Int) < 131074) = false := by simp; omega
      simp (disch := omega) only [match_finder_long_p2, Stp, Same, stepR_value, stepR_skip, r_add, r_sub, r_mul, r_quo, r_rem, r_and, r_or, r_xor, r_andNot, r_shl, r_shr, r_eql, r_neq, r_lss, r_leq, r_gtr, r_geq, r_neg, r_cpl, r_not, r_pick, r_min, r_max, r_nil, x20, x21, x30, x31, x32, x40, x41, x42, x43, ldC_some, Result.ok.injEq, Next.value.injEq, true_and, and_true, w_i64, w_u64, w_i32, w_u32, w_u16, w_u8, Int.toNat_natCast, isB_tt, isB_tf, isB_ft, isB_ff, Gd_true, Gd_false, Cnd_true, Cnd_false, if_true, if_false, Bool.false_eq_true, Nat.zero_add, Option.isNone_some, Option.isNone_none, Bool.not_true, Bool.not_false, List.getElem?_cons_succ, List.getElem?_cons_zero, ln_sl_uint8, ln_sl_api_Sequence, cv_uint16_int, ia_sl_uint8, cv_uint8_int, ln_string, sl_sl_uint8_hi, bd_match_finder_0_1_2_3_4, cv_int_uint32, bd_api_Sequence_0_1_2, ia_sl_api_Sequence, fa_api_Sequence_Literals, ld_uint32, cv_uint32_int, fa_api_Sequence_Match, fa_api_Sequence_Offset, ix_string, fa_match_finder_last, ld_map_ar4_uint8_int, fa_match_finder_ahead, ld_sl_int, ia_sl_int, fa_match_finder_tries, ld_int, fa_match_finder_b, ld_sl_uint8, bd_ar4_uint8_, sl_sl_uint8_lohi, sa_ar4_uint8, fa_match_finder_to, ld_uint8, d1, d2, c0, c1]
      exact ⟨n, rfl, ⟨h1, h2, h3, .inl (by omega)⟩, hx.seq (Ext.dr _ _)⟩
  · have d1 : decide ((at_ : Int) + (n : Int) < (to : Int)) = false := by simp; omega
    simp (disch := omega) only [match_finder_long_p2, Stp, Same, stepR_value, stepR_skip, r_add, r_sub, r_mul, r_quo, r_rem, r_and, r_or, r_xor, r_andNot, r_shl, r_shr, r_eql, r_neq, r_lss, r_leq, r_gtr, r_geq, r_neg, r_cpl, r_not, r_pick, r_min, r_max, r_nil, x20, x21, x30, x31, x32, x40, x41, x42, x43, ldC_some, Result.ok.injEq, Next.value.injEq, true_and, and_true, w_i64, w_u64, w_i32, w_u32, w_u16, w_u8, Int.toNat_natCast, isB_tt, isB_tf, isB_ft, isB_ff, Gd_true, Gd_false, Cnd_true, Cnd_false, if_true, if_false, Bool.false_eq_true, Nat.zero_add, Option.isNone_some, Option.isNone_none, Bool.not_true, Bool.not_false, List.getElem?_cons_succ, List.getElem?_cons_zero, ln_sl_uint8, ln_sl_api_Sequence, cv_uint16_int, ia_sl_uint8, cv_uint8_int, ln_string, sl_sl_uint8_hi, bd_match_finder_0_1_2_3_4, cv_int_uint32, bd_api_Sequence_0_1_2, ia_sl_api_Sequence, fa_api_Sequence_Literals, ld_uint32, cv_uint32_int, fa_api_Sequence_Match, fa_api_Sequence_Offset, ix_string, fa_match_finder_last, ld_map_ar4_uint8_int, fa_match_finder_ahead, ld_sl_int, ia_sl_int, fa_match_finder_tries, ld_int, fa_match_finder_b, ld_sl_uint8, bd_ar4_uint8_, sl_sl_uint8_lohi, sa_ar4_uint8, fa_match_finder_to, ld_uint8, d1, c0, c1]
    exact ⟨n, rfl, ⟨h1, h2, h3, .inr (.inl (by omega))⟩, hx.seq (Ext.dr _ _)⟩
end Go.Proofs.Ytoobkaojepgnjaa
