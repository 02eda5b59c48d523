/- Contracts: Find, whole. -/
import Derived.Test.YtoobkaojepgnjaaMatchD
namespace Go.Proofs.Ytoobkaojepgnjaa
open Go Go.En
set_option maxRecDepth 4000
set_option linter.unusedSimpArgs false

/-- bytes all alike, at least eight, taken whole -/
def All8 (B : List UInt8) (a0 to : Nat) : Prop := (∃ c, ∀ i, i < B.length → B[i]? = some c) ∧ a0 = 0 ∧ to = B.length ∧ 8 ≤ to
def Ex8 (B : List UInt8) (a0 to at_ : Nat) (es : List (Vec 4 × Value)) (L : List Sq) : Prop :=
  All8 B a0 to → (at_ = 0 ∧ es = []) ∨ (at_ = 1 ∧ assoc (keyAt B 0) es = some (.int .i64 (0 : Nat))) ∨ L ≠ []

theorem all8_key {B : List UInt8} {a0 to : Nat} (h : All8 B a0 to) : keyAt B 1 = keyAt B 0 := by
  obtain ⟨⟨c, hc⟩, _, h1, h2⟩ := h
  unfold keyAt
  rw [dif_pos (by omega), dif_pos (by omega)]
  apply Subtype.ext
  simp only
  apply List.ext_getElem?
  intro i
  by_cases hi : i < 4
  · rw [List.getElem?_take_of_lt hi, List.getElem?_take_of_lt hi, List.getElem?_drop, List.getElem?_drop, hc _ (by omega), hc _ (by omega)]
  · rw [List.getElem?_eq_none (by simp; omega), List.getElem?_eq_none (by simp; omega)]
theorem all8_lng {B : List UInt8} {a0 to : Nat} (h : All8 B a0 to) : Lng B to 0 1 (min (to - 1) 131074) := by
  obtain ⟨⟨c, hc⟩, _, h1, h2⟩ := h
  refine ⟨.inl (by omega), by omega, fun j hj => by rw [hc _ (by omega), hc _ (by omega)], ?_⟩
  by_cases hh : to - 1 ≤ 131074
  · exact .inr (.inl (by omega))
  · exact .inl (by omega)

theorem main_c {w0 w : World} {p mb ab base : Nat} {bv : Value} {B : List UInt8} {to lvl : Nat} {es : List (Vec 4 × Value)} {A : List Int} {a0 : Nat} (hlv : lvl ≤ 9) (h0 : a0 ≤ to) (hb : B.length ≤ 4294967295)
    (D : Dst w0 p mb ab base bv) (h : Fst w0 w p mb ab base bv B to (2 ^ lvl) es A (.slice none 0 0) [] a0 a0) (hk : Kept a0 es A) (hE : Ex8 B a0 to a0 es [])
    {k : Value → Value → Value → World → Prop}
    (hR : ∀ w' out L b, OSl w' base 3 out L.length (flat L) → plan B to a0 L b → b ≤ to → Ext w0 w' nob → (All8 B a0 to → L ≠ []) → k (.int .i64 to) out (.int .i64 b) w') :
    match_Find_p16 k (.int .i64 to) (.int .i64 lvl) (.pointer (some ⟨p, 0, none⟩)) (.slice none 0 0) (.int .i64 a0) (.int .i64 a0) w := by
  have htr1 : 1 ≤ 2 ^ lvl := Nat.one_le_two_pow
  have htr2 : 2 ^ lvl ≤ 1048576 := Nat.le_trans (Nat.pow_le_pow_right (by omega) hlv) (by decide)
  have hle := h.f.le
  unfold match_Find_p16
  refine LoopD.rule (fun m t w' => ∃ (out : Value) (L : List Sq) (begun at_ : Nat) (es : List (Vec 4 × Value)) (A : List Int), m = to - at_ ∧ t = (out, .int .i64 begun, .int .i64 at_) ∧ begun ≤ at_ ∧ at_ ≤ to ∧ Fst w0 w' p mb ab base bv B to (2 ^ lvl) es A out L a0 begun ∧ Kept at_ es A ∧ Ex8 B a0 to at_ es L) (to - a0)
    ⟨_, [], a0, a0, es, A, rfl, rfl, Nat.le_refl _, h0, h, hk, hE⟩ ?_
  clear h hk hE
  rintro m t w1 ⟨out, L, begun, at_, es, A, rfl, rfl, hbe, hat, h, hk, hE⟩
  have hpl := plan_le h.pl h0
  by_cases hlt : at_ < to
  · have d1 : decide ((at_ : Int) < (to : Int)) = true := by simp; omega
    unfold match_Find_p15 match_Find_p14 match_Find_p13 match_Find_p12 match_Find_p11
    simp (disch := omega) only [Stp, Same, stepR_value, stepR_skip, r_add, r_sub, r_mul, r_quo, r_rem, r_and, r_or, r_xor, r_andNot, r_shl, r_shr, r_eql, r_neq, r_lss, r_leq, r_gtr, r_geq, r_neg, r_cpl, r_not, r_pick, r_min, r_max, r_nil, x20, x21, x30, x31, x32, x40, x41, x42, x43, ldC_some, Result.ok.injEq, Next.value.injEq, true_and, and_true, w_i64, w_u64, w_i32, w_u32, w_u16, w_u8, Int.toNat_natCast, isB_tt, isB_tf, isB_ft, isB_ff, Gd_true, Gd_false, Cnd_true, Cnd_false, if_true, if_false, Bool.false_eq_true, Nat.zero_add, Option.isNone_some, Option.isNone_none, Bool.not_true, Bool.not_false, List.getElem?_cons_succ, List.getElem?_cons_zero, ln_sl_uint8, ln_sl_api_Sequence, cv_uint16_int, ia_sl_uint8, cv_uint8_int, ln_string, sl_sl_uint8_hi, bd_match_finder_0_1_2_3_4, cv_int_uint32, bd_api_Sequence_0_1_2, ia_sl_api_Sequence, fa_api_Sequence_Literals, ld_uint32, cv_uint32_int, fa_api_Sequence_Match, fa_api_Sequence_Offset, ix_string, fa_match_finder_last, ld_map_ar4_uint8_int, fa_match_finder_ahead, ld_sl_int, ia_sl_int, fa_match_finder_tries, ld_int, fa_match_finder_b, ld_sl_uint8, bd_ar4_uint8_, sl_sl_uint8_lohi, sa_ar4_uint8, fa_match_finder_to, ld_uint8, d1]
    refine (best_c h.f hk hat htr2).mono ?_
    rintro r w2 ⟨n, off, rfl, hbst, hlong, x2⟩
    have h2 := h.same x2
    have fin : ∀ {w3 : World} {es3 : List (Vec 4 × Value)} {A3 : List Int} {at3 n3 off3 : Nat}, Fst w0 w3 p mb ab base bv B to (2 ^ lvl) es3 A3 out L a0 begun → Kept at3 es3 A3 ∨ Kept (at3 + 1) es3 A3 → begun ≤ at3 → at_ ≤ at3 → Bst B to at3 n3 off3 → 4 ≤ n3 →
        match_Find_p10 (fun _ _ _ out_13 begun_14 at_15 w => ∃ m, m < to - at_ ∧ ∃ (out : Value) (L : List Sq) (begun at_ : Nat) (es : List (Vec 4 × Value)) (A : List Int), m = to - at_ ∧ (out_13, begun_14, at_15) = (out, .int .i64 begun, .int .i64 at_) ∧ begun ≤ at_ ∧ at_ ≤ to ∧ Fst w0 w p mb ab base bv B to (2 ^ lvl) es A out L a0 begun ∧ Kept at_ es A ∧ Ex8 B a0 to at_ es L)
          (.int .i64 to) (.int .i64 lvl) (.pointer (some ⟨p, 0, none⟩)) out (.int .i64 begun) (.int .i64 at3) (.int .i64 n3) (.int .i64 off3) w3 := by
      intro w3 es3 A3 at3 n3 off3 F K hb3 ha3 hbst3 hn3
      have K : Kept (at3 + 1) es3 A3 := by
        rcases K with K | K
        · exact K.mono (by omega)
        · exact K
      refine take_c D F h0 K (Nat.le_refl _) hb3 hbst3 hn3 hb fun w' es' A' out' s F' hto K' => ?_
      exact ⟨to - (at3 + n3), by omega, out', L ++ [s], at3 + n3, at3 + n3, es', A', rfl, rfl, Nat.le_refl _, hto, F', K', fun _ => .inr (.inr (by simp))⟩
    by_cases hn : n < 4
    · have d2 : decide ((n : Int) < 4) = true := by simp; omega
      simp (disch := omega) only [Stp, Same, stepR_value, stepR_skip, r_add, r_sub, r_mul, r_quo, r_rem, r_and, r_or, r_xor, r_andNot, r_shl, r_shr, r_eql, r_neq, r_lss, r_leq, r_gtr, r_geq, r_neg, r_cpl, r_not, r_pick, r_min, r_max, r_nil, x20, x21, x30, x31, x32, x40, x41, x42, x43, ldC_some, Result.ok.injEq, Next.value.injEq, true_and, and_true, w_i64, w_u64, w_i32, w_u32, w_u16, w_u8, Int.toNat_natCast, isB_tt, isB_tf, isB_ft, isB_ff, Gd_true, Gd_false, Cnd_true, Cnd_false, if_true, if_false, Bool.false_eq_true, Nat.zero_add, Option.isNone_some, Option.isNone_none, Bool.not_true, Bool.not_false, List.getElem?_cons_succ, List.getElem?_cons_zero, ln_sl_uint8, ln_sl_api_Sequence, cv_uint16_int, ia_sl_uint8, cv_uint8_int, ln_string, sl_sl_uint8_hi, bd_match_finder_0_1_2_3_4, cv_int_uint32, bd_api_Sequence_0_1_2, ia_sl_api_Sequence, fa_api_Sequence_Literals, ld_uint32, cv_uint32_int, fa_api_Sequence_Match, fa_api_Sequence_Offset, ix_string, fa_match_finder_last, ld_map_ar4_uint8_int, fa_match_finder_ahead, ld_sl_int, ia_sl_int, fa_match_finder_tries, ld_int, fa_match_finder_b, ld_sl_uint8, bd_ar4_uint8_, sl_sl_uint8_lohi, sa_ar4_uint8, fa_match_finder_to, ld_uint8, d2]
      refine (fnote_c D h2 (hk.mono (by omega)) hlt).mono ?_
      rintro r w3 ⟨A3, h3, k3⟩
      refine ⟨to - (at_ + 1), by omega, out, L, begun, at_ + 1, _, A3, rfl, rfl, by omega, by omega, h3, k3, fun h8 => ?_⟩
      rcases hE h8 with ⟨e1, e2⟩ | ⟨e1, e2⟩ | e
      · subst e1 e2
        refine .inr (.inl ⟨rfl, ?_⟩)
        obtain ⟨_, _, h81, h82⟩ := h8
        unfold noted
        rw [if_pos (by omega), assoc_upd, if_pos rfl]
      · exfalso
        subst e1
        have hl := all8_lng h8
        have hky := all8_key h8
        obtain ⟨_, _, h81, h82⟩ := h8
        have := hlong (by omega) htr1 0 (by rw [hky]; exact e2) _ hl
        omega
      · exact .inr (.inr e)
    · have d2 : decide ((n : Int) < 4) = false := by simp; omega
      by_cases hl4 : 4 < lvl
      · have d3 : decide ((4 : Int) < (lvl : Int)) = true := by simp; omega
        by_cases ha1 : at_ + 1 < to
        · have d4 : decide ((at_ : Int) + 1 < (to : Int)) = true := by simp; omega
          simp (disch := omega) only [Stp, Same, stepR_value, stepR_skip, r_add, r_sub, r_mul, r_quo, r_rem, r_and, r_or, r_xor, r_andNot, r_shl, r_shr, r_eql, r_neq, r_lss, r_leq, r_gtr, r_geq, r_neg, r_cpl, r_not, r_pick, r_min, r_max, r_nil, x20, x21, x30, x31, x32, x40, x41, x42, x43, ldC_some, Result.ok.injEq, Next.value.injEq, true_and, and_true, w_i64, w_u64, w_i32, w_u32, w_u16, w_u8, Int.toNat_natCast, isB_tt, isB_tf, isB_ft, isB_ff, Gd_true, Gd_false, Cnd_true, Cnd_false, if_true, if_false, Bool.false_eq_true, Nat.zero_add, Option.isNone_some, Option.isNone_none, Bool.not_true, Bool.not_false, List.getElem?_cons_succ, List.getElem?_cons_zero, ln_sl_uint8, ln_sl_api_Sequence, cv_uint16_int, ia_sl_uint8, cv_uint8_int, ln_string, sl_sl_uint8_hi, bd_match_finder_0_1_2_3_4, cv_int_uint32, bd_api_Sequence_0_1_2, ia_sl_api_Sequence, fa_api_Sequence_Literals, ld_uint32, cv_uint32_int, fa_api_Sequence_Match, fa_api_Sequence_Offset, ix_string, fa_match_finder_last, ld_map_ar4_uint8_int, fa_match_finder_ahead, ld_sl_int, ia_sl_int, fa_match_finder_tries, ld_int, fa_match_finder_b, ld_sl_uint8, bd_ar4_uint8_, sl_sl_uint8_lohi, sa_ar4_uint8, fa_match_finder_to, ld_uint8, d2, d3, d4]
          refine (fnote_c D h2 (hk.mono (by omega)) hlt).mono ?_
          rintro r w3 ⟨A3, h3, k3⟩
          have e1 : (at_ : Int) + 1 = ((at_ + 1 : Nat) : Int) := by omega
          rw [e1]
          refine (best_c h3.f k3 (by omega) htr2).mono ?_
          rintro r w4 ⟨n4, off4, rfl, hbst4, _, x4⟩
          have h4 := h3.same x4
          have hm4 : n4 ≤ 131074 ∧ n ≤ 131074 := by
            refine ⟨?_, ?_⟩
            · rcases hbst4.one with ⟨rfl, _⟩ | ⟨_, _, _, hl⟩
              · omega
              · exact hl.most
            · rcases hbst.one with ⟨rfl, _⟩ | ⟨_, _, _, hl⟩
              · omega
              · exact hl.most
          by_cases hg : n + 1 < n4
          · have d5 : decide ((n : Int) + 1 < (n4 : Int)) = true := by simp; omega
            simp (disch := omega) only [Stp, Same, stepR_value, stepR_skip, r_add, r_sub, r_mul, r_quo, r_rem, r_and, r_or, r_xor, r_andNot, r_shl, r_shr, r_eql, r_neq, r_lss, r_leq, r_gtr, r_geq, r_neg, r_cpl, r_not, r_pick, r_min, r_max, r_nil, x20, x21, x30, x31, x32, x40, x41, x42, x43, ldC_some, Result.ok.injEq, Next.value.injEq, true_and, and_true, w_i64, w_u64, w_i32, w_u32, w_u16, w_u8, Int.toNat_natCast, isB_tt, isB_tf, isB_ft, isB_ff, Gd_true, Gd_false, Cnd_true, Cnd_false, if_true, if_false, Bool.false_eq_true, Nat.zero_add, Option.isNone_some, Option.isNone_none, Bool.not_true, Bool.not_false, List.getElem?_cons_succ, List.getElem?_cons_zero, ln_sl_uint8, ln_sl_api_Sequence, cv_uint16_int, ia_sl_uint8, cv_uint8_int, ln_string, sl_sl_uint8_hi, bd_match_finder_0_1_2_3_4, cv_int_uint32, bd_api_Sequence_0_1_2, ia_sl_api_Sequence, fa_api_Sequence_Literals, ld_uint32, cv_uint32_int, fa_api_Sequence_Match, fa_api_Sequence_Offset, ix_string, fa_match_finder_last, ld_map_ar4_uint8_int, fa_match_finder_ahead, ld_sl_int, ia_sl_int, fa_match_finder_tries, ld_int, fa_match_finder_b, ld_sl_uint8, bd_ar4_uint8_, sl_sl_uint8_lohi, sa_ar4_uint8, fa_match_finder_to, ld_uint8, d5]
            exact fin h4 (.inl k3) (by omega) (by omega) hbst4 (by omega)
          · have d5 : decide ((n : Int) + 1 < (n4 : Int)) = false := by simp; omega
            simp (disch := omega) only [Stp, Same, stepR_value, stepR_skip, r_add, r_sub, r_mul, r_quo, r_rem, r_and, r_or, r_xor, r_andNot, r_shl, r_shr, r_eql, r_neq, r_lss, r_leq, r_gtr, r_geq, r_neg, r_cpl, r_not, r_pick, r_min, r_max, r_nil, x20, x21, x30, x31, x32, x40, x41, x42, x43, ldC_some, Result.ok.injEq, Next.value.injEq, true_and, and_true, w_i64, w_u64, w_i32, w_u32, w_u16, w_u8, Int.toNat_natCast, isB_tt, isB_tf, isB_ft, isB_ff, Gd_true, Gd_false, Cnd_true, Cnd_false, if_true, if_false, Bool.false_eq_true, Nat.zero_add, Option.isNone_some, Option.isNone_none, Bool.not_true, Bool.not_false, List.getElem?_cons_succ, List.getElem?_cons_zero, ln_sl_uint8, ln_sl_api_Sequence, cv_uint16_int, ia_sl_uint8, cv_uint8_int, ln_string, sl_sl_uint8_hi, bd_match_finder_0_1_2_3_4, cv_int_uint32, bd_api_Sequence_0_1_2, ia_sl_api_Sequence, fa_api_Sequence_Literals, ld_uint32, cv_uint32_int, fa_api_Sequence_Match, fa_api_Sequence_Offset, ix_string, fa_match_finder_last, ld_map_ar4_uint8_int, fa_match_finder_ahead, ld_sl_int, ia_sl_int, fa_match_finder_tries, ld_int, fa_match_finder_b, ld_sl_uint8, bd_ar4_uint8_, sl_sl_uint8_lohi, sa_ar4_uint8, fa_match_finder_to, ld_uint8, d5]
            exact fin h4 (.inr k3) (by omega) (by omega) hbst (by omega)
        · have d4 : decide ((at_ : Int) + 1 < (to : Int)) = false := by simp; omega
          simp (disch := omega) only [Stp, Same, stepR_value, stepR_skip, r_add, r_sub, r_mul, r_quo, r_rem, r_and, r_or, r_xor, r_andNot, r_shl, r_shr, r_eql, r_neq, r_lss, r_leq, r_gtr, r_geq, r_neg, r_cpl, r_not, r_pick, r_min, r_max, r_nil, x20, x21, x30, x31, x32, x40, x41, x42, x43, ldC_some, Result.ok.injEq, Next.value.injEq, true_and, and_true, w_i64, w_u64, w_i32, w_u32, w_u16, w_u8, Int.toNat_natCast, isB_tt, isB_tf, isB_ft, isB_ff, Gd_true, Gd_false, Cnd_true, Cnd_false, if_true, if_false, Bool.false_eq_true, Nat.zero_add, Option.isNone_some, Option.isNone_none, Bool.not_true, Bool.not_false, List.getElem?_cons_succ, List.getElem?_cons_zero, ln_sl_uint8, ln_sl_api_Sequence, cv_uint16_int, ia_sl_uint8, cv_uint8_int, ln_string, sl_sl_uint8_hi, bd_match_finder_0_1_2_3_4, cv_int_uint32, bd_api_Sequence_0_1_2, ia_sl_api_Sequence, fa_api_Sequence_Literals, ld_uint32, cv_uint32_int, fa_api_Sequence_Match, fa_api_Sequence_Offset, ix_string, fa_match_finder_last, ld_map_ar4_uint8_int, fa_match_finder_ahead, ld_sl_int, ia_sl_int, fa_match_finder_tries, ld_int, fa_match_finder_b, ld_sl_uint8, bd_ar4_uint8_, sl_sl_uint8_lohi, sa_ar4_uint8, fa_match_finder_to, ld_uint8, d2, d3, d4]
          exact fin h2 (.inl hk) hbe (Nat.le_refl _) hbst (by omega)
      · have d3 : decide ((4 : Int) < (lvl : Int)) = false := by simp; omega
        simp (disch := omega) only [Stp, Same, stepR_value, stepR_skip, r_add, r_sub, r_mul, r_quo, r_rem, r_and, r_or, r_xor, r_andNot, r_shl, r_shr, r_eql, r_neq, r_lss, r_leq, r_gtr, r_geq, r_neg, r_cpl, r_not, r_pick, r_min, r_max, r_nil, x20, x21, x30, x31, x32, x40, x41, x42, x43, ldC_some, Result.ok.injEq, Next.value.injEq, true_and, and_true, w_i64, w_u64, w_i32, w_u32, w_u16, w_u8, Int.toNat_natCast, isB_tt, isB_tf, isB_ft, isB_ff, Gd_true, Gd_false, Cnd_true, Cnd_false, if_true, if_false, Bool.false_eq_true, Nat.zero_add, Option.isNone_some, Option.isNone_none, Bool.not_true, Bool.not_false, List.getElem?_cons_succ, List.getElem?_cons_zero, ln_sl_uint8, ln_sl_api_Sequence, cv_uint16_int, ia_sl_uint8, cv_uint8_int, ln_string, sl_sl_uint8_hi, bd_match_finder_0_1_2_3_4, cv_int_uint32, bd_api_Sequence_0_1_2, ia_sl_api_Sequence, fa_api_Sequence_Literals, ld_uint32, cv_uint32_int, fa_api_Sequence_Match, fa_api_Sequence_Offset, ix_string, fa_match_finder_last, ld_map_ar4_uint8_int, fa_match_finder_ahead, ld_sl_int, ia_sl_int, fa_match_finder_tries, ld_int, fa_match_finder_b, ld_sl_uint8, bd_ar4_uint8_, sl_sl_uint8_lohi, sa_ar4_uint8, fa_match_finder_to, ld_uint8, d2, d3]
        exact fin h2 (.inl hk) hbe (Nat.le_refl _) hbst (by omega)
  · have d1 : decide ((at_ : Int) < (to : Int)) = false := by simp; omega
    unfold match_Find_p15 match_Find_p14
    simp (disch := omega) only [Stp, Same, stepR_value, stepR_skip, r_add, r_sub, r_mul, r_quo, r_rem, r_and, r_or, r_xor, r_andNot, r_shl, r_shr, r_eql, r_neq, r_lss, r_leq, r_gtr, r_geq, r_neg, r_cpl, r_not, r_pick, r_min, r_max, r_nil, x20, x21, x30, x31, x32, x40, x41, x42, x43, ldC_some, Result.ok.injEq, Next.value.injEq, true_and, and_true, w_i64, w_u64, w_i32, w_u32, w_u16, w_u8, Int.toNat_natCast, isB_tt, isB_tf, isB_ft, isB_ff, Gd_true, Gd_false, Cnd_true, Cnd_false, if_true, if_false, Bool.false_eq_true, Nat.zero_add, Option.isNone_some, Option.isNone_none, Bool.not_true, Bool.not_false, List.getElem?_cons_succ, List.getElem?_cons_zero, ln_sl_uint8, ln_sl_api_Sequence, cv_uint16_int, ia_sl_uint8, cv_uint8_int, ln_string, sl_sl_uint8_hi, bd_match_finder_0_1_2_3_4, cv_int_uint32, bd_api_Sequence_0_1_2, ia_sl_api_Sequence, fa_api_Sequence_Literals, ld_uint32, cv_uint32_int, fa_api_Sequence_Match, fa_api_Sequence_Offset, ix_string, fa_match_finder_last, ld_map_ar4_uint8_int, fa_match_finder_ahead, ld_sl_int, ia_sl_int, fa_match_finder_tries, ld_int, fa_match_finder_b, ld_sl_uint8, bd_ar4_uint8_, sl_sl_uint8_lohi, sa_ar4_uint8, fa_match_finder_to, ld_uint8, d1]
    refine hR _ _ _ _ h.o h.pl hpl.2 h.x fun h8 => ?_
    rcases hE h8 with ⟨e1, e2⟩ | ⟨e1, e2⟩ | e
    · obtain ⟨_, _, h81, h82⟩ := h8; omega
    · obtain ⟨_, _, h81, h82⟩ := h8; omega
    · exact e

/-- what Find gives -/
structure Found (w0 w : World) (B : List UInt8) (a0 to lvl : Nat) (r : Value) : Prop where
  ex : ∃ (v : Value) (L : List Sq) (b : Nat), r = .tuple #[v, .int .i64 ((to - b : Nat) : Int), .int .i64 0] ∧ OSl w w0.heap.size 3 v L.length (flat L) ∧ plan B to a0 L b ∧ b ≤ to ∧ (lvl = 0 → L = []) ∧ (1 ≤ lvl → All8 B a0 to → L ≠ [])
  x : Ext w0 w nob

theorem OSl.lower {w : World} {a b sz n : Nat} {v : Value} {l : List Value} (h : OSl w b sz v n l) (hab : a ≤ b) : OSl w a sz v n l := by
  refine ⟨h.1, ?_⟩
  rcases h.2 with h | ⟨x, c, r, h1, h2, h3⟩
  · exact .inl h
  · exact .inr ⟨x, c, r, h1, by omega, h3⟩

theorem shl_fit (lvl : Nat) (h : lvl ≤ 9) : IntKind.i64.wrap (1 * 2 ^ (min lvl IntKind.i64.bits)) = ((2 ^ lvl : Nat) : Int) := by
  have : ∀ k : Fin 10, IntKind.i64.wrap (1 * 2 ^ (min k.val IntKind.i64.bits)) = ((2 ^ k.val : Nat) : Int) := by decide
  exact this ⟨lvl, by omega⟩

theorem find_rest {w0 w : World} {p mb ab : Nat} {bv : Value} {B : List UInt8} {to lvl a0 : Nat} (hl1 : 1 ≤ lvl) (hlv : lvl ≤ 9) (h0 : a0 ≤ to) (hto : to ≤ B.length) (hb : B.length ≤ 4294967295) (hbv : Bs w0 bv B)
    (hx : Ext w0 w nob) (o : Own w p [bv, .int .i64 to, .map (some mb), .slice (some ⟨ab, 0, none⟩) to to, .int .i64 ((2 ^ lvl : Nat) : Int)]) (m : Mp w mb encV ([] : List (Vec 4 × Value))) (oa : Own w ab (List.replicate to (.int .i64 0)))
    (hne : p ≠ mb ∧ p ≠ ab ∧ mb ≠ ab) (hlo : w0.heap.size ≤ p ∧ w0.heap.size ≤ mb ∧ w0.heap.size ≤ ab) :
    match_Find_p28 (fun r w' => Found w0 w' B a0 to lvl r) (.int .i64 a0) (.int .i64 to) (.int .i64 lvl) (.pointer (some ⟨p, 0, none⟩)) w := by
  have D : Dst w0 p mb ab w.heap.size bv := ⟨hne, hlo, ⟨o.lt, m.lt, oa.lt⟩, hbv.old⟩
  have F : Fst w0 w p mb ab w.heap.size bv B to (2 ^ lvl) [] (List.replicate to 0) (.slice none 0 0) [] a0 a0 :=
    ⟨⟨o, hbv.ext hx (inB_nob _), m, by simpa using oa, by simp, hto, by omega⟩, OSl.nil _ _ _, rfl, hx, Nat.le_refl _⟩
  have K : Kept 0 ([] : List (Vec 4 × Value)) (List.replicate to (0 : Int)) := ⟨fun q hq => absurd hq (by simp), fun i hi => by simp⟩
  unfold match_Find_p28 match_Find_p27 match_Find_p26 match_Find_p25 match_Find_p24
  refine LoopD.rule (fun m t w' => ∃ (j : Nat) (es : List (Vec 4 × Value)) (A : List Int), m = a0 - j ∧ t = .int .i64 j ∧ j ≤ a0 ∧ Fst w0 w' p mb ab w.heap.size bv B to (2 ^ lvl) es A (.slice none 0 0) [] a0 a0 ∧ Kept j es A ∧ (j = 0 → es = [])) a0
    ⟨0, [], _, rfl, rfl, by omega, F, K, fun _ => rfl⟩ ?_
  rintro m t w1 ⟨j, es, A, rfl, rfl, hj, h, hk, he⟩
  by_cases hlt : j < a0
  · have d1 : decide ((j : Int) < (a0 : Int)) = true := by simp; omega
    simp (disch := omega) only [match_Find_p23, Stp, Same, stepR_value, stepR_skip, r_add, r_sub, r_mul, r_quo, r_rem, r_and, r_or, r_xor, r_andNot, r_shl, r_shr, r_eql, r_neq, r_lss, r_leq, r_gtr, r_geq, r_neg, r_cpl, r_not, r_pick, r_min, r_max, r_nil, x20, x21, x30, x31, x32, x40, x41, x42, x43, ldC_some, Result.ok.injEq, Next.value.injEq, true_and, and_true, w_i64, w_u64, w_i32, w_u32, w_u16, w_u8, Int.toNat_natCast, isB_tt, isB_tf, isB_ft, isB_ff, Gd_true, Gd_false, Cnd_true, Cnd_false, if_true, if_false, Bool.false_eq_true, Nat.zero_add, Option.isNone_some, Option.isNone_none, Bool.not_true, Bool.not_false, List.getElem?_cons_succ, List.getElem?_cons_zero, ln_sl_uint8, ln_sl_api_Sequence, cv_uint16_int, ia_sl_uint8, cv_uint8_int, ln_string, sl_sl_uint8_hi, bd_match_finder_0_1_2_3_4, cv_int_uint32, bd_api_Sequence_0_1_2, ia_sl_api_Sequence, fa_api_Sequence_Literals, ld_uint32, cv_uint32_int, fa_api_Sequence_Match, fa_api_Sequence_Offset, ix_string, fa_match_finder_last, ld_map_ar4_uint8_int, fa_match_finder_ahead, ld_sl_int, ia_sl_int, fa_match_finder_tries, ld_int, fa_match_finder_b, ld_sl_uint8, bd_ar4_uint8_, sl_sl_uint8_lohi, sa_ar4_uint8, fa_match_finder_to, ld_uint8, d1]
    refine (fnote_c D h (hk.mono (by omega)) (by omega)).mono ?_
    rintro r w2 ⟨A2, f2, k2⟩
    exact ⟨a0 - (j + 1), by omega, j + 1, _, A2, rfl, rfl, by omega, f2, k2, fun h => by omega⟩
  · have d1 : decide ((j : Int) < (a0 : Int)) = false := by simp; omega
    have : j = a0 := by omega
    subst this
    simp (disch := omega) only [match_Find_p23, Stp, Same, stepR_value, stepR_skip, r_add, r_sub, r_mul, r_quo, r_rem, r_and, r_or, r_xor, r_andNot, r_shl, r_shr, r_eql, r_neq, r_lss, r_leq, r_gtr, r_geq, r_neg, r_cpl, r_not, r_pick, r_min, r_max, r_nil, x20, x21, x30, x31, x32, x40, x41, x42, x43, ldC_some, Result.ok.injEq, Next.value.injEq, true_and, and_true, w_i64, w_u64, w_i32, w_u32, w_u16, w_u8, Int.toNat_natCast, isB_tt, isB_tf, isB_ft, isB_ff, Gd_true, Gd_false, Cnd_true, Cnd_false, if_true, if_false, Bool.false_eq_true, Nat.zero_add, Option.isNone_some, Option.isNone_none, Bool.not_true, Bool.not_false, List.getElem?_cons_succ, List.getElem?_cons_zero, ln_sl_uint8, ln_sl_api_Sequence, cv_uint16_int, ia_sl_uint8, cv_uint8_int, ln_string, sl_sl_uint8_hi, bd_match_finder_0_1_2_3_4, cv_int_uint32, bd_api_Sequence_0_1_2, ia_sl_api_Sequence, fa_api_Sequence_Literals, ld_uint32, cv_uint32_int, fa_api_Sequence_Match, fa_api_Sequence_Offset, ix_string, fa_match_finder_last, ld_map_ar4_uint8_int, fa_match_finder_ahead, ld_sl_int, ia_sl_int, fa_match_finder_tries, ld_int, fa_match_finder_b, ld_sl_uint8, bd_ar4_uint8_, sl_sl_uint8_lohi, sa_ar4_uint8, fa_match_finder_to, ld_uint8, d1]
    unfold match_Find_p22 match_Find_p21 match_Find_p20 match_Find_p19 match_Find_p18 match_Find_p17
    refine main_c hlv h0 hb D h hk (fun h8 => .inl ⟨h8.2.1, he h8.2.1⟩) fun w' out L b ho hpl hbt hx' h8 => ?_
    unfold match_Find_p1
    have e : (to : Int) - (b : Int) = ((to - b : Nat) : Int) := by omega
    simp (disch := omega) only [Stp, Same, stepR_value, stepR_skip, r_add, r_sub, r_mul, r_quo, r_rem, r_and, r_or, r_xor, r_andNot, r_shl, r_shr, r_eql, r_neq, r_lss, r_leq, r_gtr, r_geq, r_neg, r_cpl, r_not, r_pick, r_min, r_max, r_nil, x20, x21, x30, x31, x32, x40, x41, x42, x43, ldC_some, Result.ok.injEq, Next.value.injEq, true_and, and_true, w_i64, w_u64, w_i32, w_u32, w_u16, w_u8, Int.toNat_natCast, isB_tt, isB_tf, isB_ft, isB_ff, Gd_true, Gd_false, Cnd_true, Cnd_false, if_true, if_false, Bool.false_eq_true, Nat.zero_add, Option.isNone_some, Option.isNone_none, Bool.not_true, Bool.not_false, List.getElem?_cons_succ, List.getElem?_cons_zero, ln_sl_uint8, ln_sl_api_Sequence, cv_uint16_int, ia_sl_uint8, cv_uint8_int, ln_string, sl_sl_uint8_hi, bd_match_finder_0_1_2_3_4, cv_int_uint32, bd_api_Sequence_0_1_2, ia_sl_api_Sequence, fa_api_Sequence_Literals, ld_uint32, cv_uint32_int, fa_api_Sequence_Match, fa_api_Sequence_Offset, ix_string, fa_match_finder_last, ld_map_ar4_uint8_int, fa_match_finder_ahead, ld_sl_int, ia_sl_int, fa_match_finder_tries, ld_int, fa_match_finder_b, ld_sl_uint8, bd_ar4_uint8_, sl_sl_uint8_lohi, sa_ar4_uint8, fa_match_finder_to, ld_uint8, e]
    exact ⟨⟨out, L, b, rfl, OSl.lower ho hx.size, hpl, hbt, fun h => by omega, fun _ => h8⟩, hx'⟩

theorem find_c {w : World} {bv : Value} {B : List UInt8} {to lvl a0 : Nat} (hlv : lvl ≤ 9) (h0 : a0 ≤ to) (hto : to ≤ B.length) (hb : B.length ≤ 4294967295) (hbv : Bs w bv B) :
    Does pg F_match_Find #[bv, .int .i64 a0, .int .i64 to, .int .i64 lvl] w (fun r w' => Found w w' B a0 to lvl r) := by
  refine match_Find_does ?_
  obtain ⟨a, c, hv, hc⟩ := hbv.len
  simp only [List.length_map] at hv hc
  unfold match_Find match_Find_p30 match_Find_p29
  have d1 : decide ((a0 : Int) < 0) = false := by simp
  have d2 : decide ((to : Int) < (a0 : Int)) = false := by simp; omega
  have d3 : decide ((B.length : Int) < (to : Int)) = false := by simp; omega
  have d4 : decide ((lvl : Int) < 0) = false := by simp
  have d5 : decide ((9 : Int) < (lvl : Int)) = false := by simp; omega
  subst hv
  have ln := ln_sl_uint8 (ty := 3) a B.length c w
  by_cases hl : lvl = 0
  · subst hl
    have d6 : (((0 : Nat) : Int) == 0) = true := by simp
    have e : (to : Int) - (a0 : Int) = ((to - a0 : Nat) : Int) := by omega
    simp (disch := omega) only [Stp, Same, stepR_value, stepR_skip, r_add, r_sub, r_mul, r_quo, r_rem, r_and, r_or, r_xor, r_andNot, r_shl, r_shr, r_eql, r_neq, r_lss, r_leq, r_gtr, r_geq, r_neg, r_cpl, r_not, r_pick, r_min, r_max, r_nil, x20, x21, x30, x31, x32, x40, x41, x42, x43, ldC_some, Result.ok.injEq, Next.value.injEq, true_and, and_true, w_i64, w_u64, w_i32, w_u32, w_u16, w_u8, Int.toNat_natCast, isB_tt, isB_tf, isB_ft, isB_ff, Gd_true, Gd_false, Cnd_true, Cnd_false, if_true, if_false, Bool.false_eq_true, Nat.zero_add, Option.isNone_some, Option.isNone_none, Bool.not_true, Bool.not_false, List.getElem?_cons_succ, List.getElem?_cons_zero, ln_sl_uint8, ln_sl_api_Sequence, cv_uint16_int, ia_sl_uint8, cv_uint8_int, ln_string, sl_sl_uint8_hi, bd_match_finder_0_1_2_3_4, cv_int_uint32, bd_api_Sequence_0_1_2, ia_sl_api_Sequence, fa_api_Sequence_Literals, ld_uint32, cv_uint32_int, fa_api_Sequence_Match, fa_api_Sequence_Offset, ix_string, fa_match_finder_last, ld_map_ar4_uint8_int, fa_match_finder_ahead, ld_sl_int, ia_sl_int, fa_match_finder_tries, ld_int, fa_match_finder_b, ld_sl_uint8, bd_ar4_uint8_, sl_sl_uint8_lohi, sa_ar4_uint8, fa_match_finder_to, ld_uint8, ln, d1, d2, d3, d4, d5, d6, e]
    exact ⟨⟨_, [], a0, rfl, OSl.nil _ _ _, rfl, h0, fun _ => rfl, fun h => by omega⟩, Ext.refl _ _⟩
  · have d6 : ((lvl : Int) == 0) = false := by simpa using hl
    have e1 := shl_fit lvl hlv
    have hbd := hbv.dr
    simp (disch := omega) only [Stp, Same, stepR_value, stepR_skip, r_add, r_sub, r_mul, r_quo, r_rem, r_and, r_or, r_xor, r_andNot, r_shl, r_shr, r_eql, r_neq, r_lss, r_leq, r_gtr, r_geq, r_neg, r_cpl, r_not, r_pick, r_min, r_max, r_nil, x20, x21, x30, x31, x32, x40, x41, x42, x43, ldC_some, Result.ok.injEq, Next.value.injEq, true_and, and_true, w_i64, w_u64, w_i32, w_u32, w_u16, w_u8, Int.toNat_natCast, isB_tt, isB_tf, isB_ft, isB_ff, Gd_true, Gd_false, Cnd_true, Cnd_false, if_true, if_false, Bool.false_eq_true, Nat.zero_add, Option.isNone_some, Option.isNone_none, Bool.not_true, Bool.not_false, List.getElem?_cons_succ, List.getElem?_cons_zero, ln_sl_uint8, ln_sl_api_Sequence, cv_uint16_int, ia_sl_uint8, cv_uint8_int, ln_string, sl_sl_uint8_hi, bd_match_finder_0_1_2_3_4, cv_int_uint32, bd_api_Sequence_0_1_2, ia_sl_api_Sequence, fa_api_Sequence_Literals, ld_uint32, cv_uint32_int, fa_api_Sequence_Match, fa_api_Sequence_Offset, ix_string, fa_match_finder_last, ld_map_ar4_uint8_int, fa_match_finder_ahead, ld_sl_int, ia_sl_int, fa_match_finder_tries, ld_int, fa_match_finder_b, ld_sl_uint8, bd_ar4_uint8_, sl_sl_uint8_lohi, sa_ar4_uint8, fa_match_finder_to, ld_uint8, ln, d1, d2, d3, d4, d5, d6]
    refine Ord_both ?_ ?_
    · refine mm_map_ar4_uint8_int fun w1 m1 x1 s1 => ?_
      refine mk_sl_int (by omega) (by omega) fun w2 o2 x2 s2 => ?_
      simp (disch := omega) only [Stp, Same, stepR_value, stepR_skip, r_add, r_sub, r_mul, r_quo, r_rem, r_and, r_or, r_xor, r_andNot, r_shl, r_shr, r_eql, r_neq, r_lss, r_leq, r_gtr, r_geq, r_neg, r_cpl, r_not, r_pick, r_min, r_max, r_nil, x20, x21, x30, x31, x32, x40, x41, x42, x43, ldC_some, Result.ok.injEq, Next.value.injEq, true_and, and_true, w_i64, w_u64, w_i32, w_u32, w_u16, w_u8, Int.toNat_natCast, isB_tt, isB_tf, isB_ft, isB_ff, Gd_true, Gd_false, Cnd_true, Cnd_false, if_true, if_false, Bool.false_eq_true, Nat.zero_add, Option.isNone_some, Option.isNone_none, Bool.not_true, Bool.not_false, List.getElem?_cons_succ, List.getElem?_cons_zero, ln_sl_uint8, ln_sl_api_Sequence, cv_uint16_int, ia_sl_uint8, cv_uint8_int, ln_string, sl_sl_uint8_hi, bd_match_finder_0_1_2_3_4, cv_int_uint32, bd_api_Sequence_0_1_2, ia_sl_api_Sequence, fa_api_Sequence_Literals, ld_uint32, cv_uint32_int, fa_api_Sequence_Match, fa_api_Sequence_Offset, ix_string, fa_match_finder_last, ld_map_ar4_uint8_int, fa_match_finder_ahead, ld_sl_int, ia_sl_int, fa_match_finder_tries, ld_int, fa_match_finder_b, ld_sl_uint8, bd_ar4_uint8_, sl_sl_uint8_lohi, sa_ar4_uint8, fa_match_finder_to, ld_uint8, e1]
      refine stp_box fun w3 o3 x3 s3 => ?_
      refine find_rest (w0 := w) (by omega) hlv h0 hto hb hbv ((((Ext.dr w nob).seq x1).seq x2).seq x3) o3 ((m1.ext x2 fun h => h).ext x3 fun h => h) (o2.ext x3 fun h => h) ?_ ?_
      · have : (dr w).heap.size = w.heap.size := rfl
        refine ⟨?_, ?_, ?_⟩ <;> omega
      · have : (dr w).heap.size = w.heap.size := rfl
        refine ⟨?_, ?_, ?_⟩ <;> omega
    · refine mk_sl_int (by omega) (by omega) fun w1 o1 x1 s1 => ?_
      refine mm_map_ar4_uint8_int fun w2 m2 x2 s2 => ?_
      simp (disch := omega) only [Stp, Same, stepR_value, stepR_skip, r_add, r_sub, r_mul, r_quo, r_rem, r_and, r_or, r_xor, r_andNot, r_shl, r_shr, r_eql, r_neq, r_lss, r_leq, r_gtr, r_geq, r_neg, r_cpl, r_not, r_pick, r_min, r_max, r_nil, x20, x21, x30, x31, x32, x40, x41, x42, x43, ldC_some, Result.ok.injEq, Next.value.injEq, true_and, and_true, w_i64, w_u64, w_i32, w_u32, w_u16, w_u8, Int.toNat_natCast, isB_tt, isB_tf, isB_ft, isB_ff, Gd_true, Gd_false, Cnd_true, Cnd_false, if_true, if_false, Bool.false_eq_true, Nat.zero_add, Option.isNone_some, Option.isNone_none, Bool.not_true, Bool.not_false, List.getElem?_cons_succ, List.getElem?_cons_zero, ln_sl_uint8, ln_sl_api_Sequence, cv_uint16_int, ia_sl_uint8, cv_uint8_int, ln_string, sl_sl_uint8_hi, bd_match_finder_0_1_2_3_4, cv_int_uint32, bd_api_Sequence_0_1_2, ia_sl_api_Sequence, fa_api_Sequence_Literals, ld_uint32, cv_uint32_int, fa_api_Sequence_Match, fa_api_Sequence_Offset, ix_string, fa_match_finder_last, ld_map_ar4_uint8_int, fa_match_finder_ahead, ld_sl_int, ia_sl_int, fa_match_finder_tries, ld_int, fa_match_finder_b, ld_sl_uint8, bd_ar4_uint8_, sl_sl_uint8_lohi, sa_ar4_uint8, fa_match_finder_to, ld_uint8, e1]
      refine stp_box fun w3 o3 x3 s3 => ?_
      refine find_rest (w0 := w) (by omega) hlv h0 hto hb hbv ((((Ext.dr w nob).seq x1).seq x2).seq x3) o3 (m2.ext x3 fun h => h) ((o1.ext x2 fun h => h).ext x3 fun h => h) ?_ ?_
      · have : (dr w).heap.size = w.heap.size := rfl
        refine ⟨?_, ?_, ?_⟩ <;> omega
      · have : (dr w).heap.size = w.heap.size := rfl
        refine ⟨?_, ?_, ?_⟩ <;> omega

/-- arguments that may not be -/
theorem find_bad {w : World} {bv : Value} {B : List UInt8} {a0 to lvl : Int} (hbad : a0 < 0 ∨ to < a0 ∨ (B.length : Int) < to ∨ lvl < 0 ∨ 9 < lvl) (hbv : Bs w bv B) :
    Does pg F_match_Find #[bv, .int .i64 a0, .int .i64 to, .int .i64 lvl] w (fun r w' => r = .tuple #[.slice none 0 0, .int .i64 0, .int .i64 1] ∧ Ext w w' nob) := by
  refine match_Find_does ?_
  obtain ⟨a, c, hv, hc⟩ := hbv.len
  simp only [List.length_map] at hv hc
  unfold match_Find match_Find_p30 match_Find_p29
  subst hv
  have ln := ln_sl_uint8 (ty := 3) a B.length c w
  by_cases h1 : a0 < 0
  · have d1 : decide (a0 < 0) = true := by simpa using h1
    simp (disch := omega) only [Stp, Same, stepR_value, stepR_skip, r_add, r_sub, r_mul, r_quo, r_rem, r_and, r_or, r_xor, r_andNot, r_shl, r_shr, r_eql, r_neq, r_lss, r_leq, r_gtr, r_geq, r_neg, r_cpl, r_not, r_pick, r_min, r_max, r_nil, x20, x21, x30, x31, x32, x40, x41, x42, x43, ldC_some, Result.ok.injEq, Next.value.injEq, true_and, and_true, w_i64, w_u64, w_i32, w_u32, w_u16, w_u8, Int.toNat_natCast, isB_tt, isB_tf, isB_ft, isB_ff, Gd_true, Gd_false, Cnd_true, Cnd_false, if_true, if_false, Bool.false_eq_true, Nat.zero_add, Option.isNone_some, Option.isNone_none, Bool.not_true, Bool.not_false, List.getElem?_cons_succ, List.getElem?_cons_zero, ln_sl_uint8, ln_sl_api_Sequence, cv_uint16_int, ia_sl_uint8, cv_uint8_int, ln_string, sl_sl_uint8_hi, bd_match_finder_0_1_2_3_4, cv_int_uint32, bd_api_Sequence_0_1_2, ia_sl_api_Sequence, fa_api_Sequence_Literals, ld_uint32, cv_uint32_int, fa_api_Sequence_Match, fa_api_Sequence_Offset, ix_string, fa_match_finder_last, ld_map_ar4_uint8_int, fa_match_finder_ahead, ld_sl_int, ia_sl_int, fa_match_finder_tries, ld_int, fa_match_finder_b, ld_sl_uint8, bd_ar4_uint8_, sl_sl_uint8_lohi, sa_ar4_uint8, fa_match_finder_to, ld_uint8, ln, d1]
    exact Ext.refl _ _
  have d1 : decide (a0 < 0) = false := by simpa using h1
  by_cases h2 : to < a0
  · have d2 : decide (to < a0) = true := by simpa using h2
    simp (disch := omega) only [Stp, Same, stepR_value, stepR_skip, r_add, r_sub, r_mul, r_quo, r_rem, r_and, r_or, r_xor, r_andNot, r_shl, r_shr, r_eql, r_neq, r_lss, r_leq, r_gtr, r_geq, r_neg, r_cpl, r_not, r_pick, r_min, r_max, r_nil, x20, x21, x30, x31, x32, x40, x41, x42, x43, ldC_some, Result.ok.injEq, Next.value.injEq, true_and, and_true, w_i64, w_u64, w_i32, w_u32, w_u16, w_u8, Int.toNat_natCast, isB_tt, isB_tf, isB_ft, isB_ff, Gd_true, Gd_false, Cnd_true, Cnd_false, if_true, if_false, Bool.false_eq_true, Nat.zero_add, Option.isNone_some, Option.isNone_none, Bool.not_true, Bool.not_false, List.getElem?_cons_succ, List.getElem?_cons_zero, ln_sl_uint8, ln_sl_api_Sequence, cv_uint16_int, ia_sl_uint8, cv_uint8_int, ln_string, sl_sl_uint8_hi, bd_match_finder_0_1_2_3_4, cv_int_uint32, bd_api_Sequence_0_1_2, ia_sl_api_Sequence, fa_api_Sequence_Literals, ld_uint32, cv_uint32_int, fa_api_Sequence_Match, fa_api_Sequence_Offset, ix_string, fa_match_finder_last, ld_map_ar4_uint8_int, fa_match_finder_ahead, ld_sl_int, ia_sl_int, fa_match_finder_tries, ld_int, fa_match_finder_b, ld_sl_uint8, bd_ar4_uint8_, sl_sl_uint8_lohi, sa_ar4_uint8, fa_match_finder_to, ld_uint8, ln, d1, d2]
    exact Ext.refl _ _
  have d2 : decide (to < a0) = false := by simpa using h2
  by_cases h3 : (B.length : Int) < to
  · have d3 : decide ((B.length : Int) < to) = true := by simpa using h3
    simp (disch := omega) only [Stp, Same, stepR_value, stepR_skip, r_add, r_sub, r_mul, r_quo, r_rem, r_and, r_or, r_xor, r_andNot, r_shl, r_shr, r_eql, r_neq, r_lss, r_leq, r_gtr, r_geq, r_neg, r_cpl, r_not, r_pick, r_min, r_max, r_nil, x20, x21, x30, x31, x32, x40, x41, x42, x43, ldC_some, Result.ok.injEq, Next.value.injEq, true_and, and_true, w_i64, w_u64, w_i32, w_u32, w_u16, w_u8, Int.toNat_natCast, isB_tt, isB_tf, isB_ft, isB_ff, Gd_true, Gd_false, Cnd_true, Cnd_false, if_true, if_false, Bool.false_eq_true, Nat.zero_add, Option.isNone_some, Option.isNone_none, Bool.not_true, Bool.not_false, List.getElem?_cons_succ, List.getElem?_cons_zero, ln_sl_uint8, ln_sl_api_Sequence, cv_uint16_int, ia_sl_uint8, cv_uint8_int, ln_string, sl_sl_uint8_hi, bd_match_finder_0_1_2_3_4, cv_int_uint32, bd_api_Sequence_0_1_2, ia_sl_api_Sequence, fa_api_Sequence_Literals, ld_uint32, cv_uint32_int, fa_api_Sequence_Match, fa_api_Sequence_Offset, ix_string, fa_match_finder_last, ld_map_ar4_uint8_int, fa_match_finder_ahead, ld_sl_int, ia_sl_int, fa_match_finder_tries, ld_int, fa_match_finder_b, ld_sl_uint8, bd_ar4_uint8_, sl_sl_uint8_lohi, sa_ar4_uint8, fa_match_finder_to, ld_uint8, ln, d1, d2, d3]
    exact Ext.refl _ _
  have d3 : decide ((B.length : Int) < to) = false := by simpa using h3
  by_cases h4 : lvl < 0
  · have d4 : decide (lvl < 0) = true := by simpa using h4
    simp (disch := omega) only [Stp, Same, stepR_value, stepR_skip, r_add, r_sub, r_mul, r_quo, r_rem, r_and, r_or, r_xor, r_andNot, r_shl, r_shr, r_eql, r_neq, r_lss, r_leq, r_gtr, r_geq, r_neg, r_cpl, r_not, r_pick, r_min, r_max, r_nil, x20, x21, x30, x31, x32, x40, x41, x42, x43, ldC_some, Result.ok.injEq, Next.value.injEq, true_and, and_true, w_i64, w_u64, w_i32, w_u32, w_u16, w_u8, Int.toNat_natCast, isB_tt, isB_tf, isB_ft, isB_ff, Gd_true, Gd_false, Cnd_true, Cnd_false, if_true, if_false, Bool.false_eq_true, Nat.zero_add, Option.isNone_some, Option.isNone_none, Bool.not_true, Bool.not_false, List.getElem?_cons_succ, List.getElem?_cons_zero, ln_sl_uint8, ln_sl_api_Sequence, cv_uint16_int, ia_sl_uint8, cv_uint8_int, ln_string, sl_sl_uint8_hi, bd_match_finder_0_1_2_3_4, cv_int_uint32, bd_api_Sequence_0_1_2, ia_sl_api_Sequence, fa_api_Sequence_Literals, ld_uint32, cv_uint32_int, fa_api_Sequence_Match, fa_api_Sequence_Offset, ix_string, fa_match_finder_last, ld_map_ar4_uint8_int, fa_match_finder_ahead, ld_sl_int, ia_sl_int, fa_match_finder_tries, ld_int, fa_match_finder_b, ld_sl_uint8, bd_ar4_uint8_, sl_sl_uint8_lohi, sa_ar4_uint8, fa_match_finder_to, ld_uint8, ln, d1, d2, d3, d4]
    exact Ext.refl _ _
  have d4 : decide (lvl < 0) = false := by simpa using h4
  have d5 : decide ((9 : Int) < lvl) = true := by simp; omega
  simp (disch := omega) only [Stp, Same, stepR_value, stepR_skip, r_add, r_sub, r_mul, r_quo, r_rem, r_and, r_or, r_xor, r_andNot, r_shl, r_shr, r_eql, r_neq, r_lss, r_leq, r_gtr, r_geq, r_neg, r_cpl, r_not, r_pick, r_min, r_max, r_nil, x20, x21, x30, x31, x32, x40, x41, x42, x43, ldC_some, Result.ok.injEq, Next.value.injEq, true_and, and_true, w_i64, w_u64, w_i32, w_u32, w_u16, w_u8, Int.toNat_natCast, isB_tt, isB_tf, isB_ft, isB_ff, Gd_true, Gd_false, Cnd_true, Cnd_false, if_true, if_false, Bool.false_eq_true, Nat.zero_add, Option.isNone_some, Option.isNone_none, Bool.not_true, Bool.not_false, List.getElem?_cons_succ, List.getElem?_cons_zero, ln_sl_uint8, ln_sl_api_Sequence, cv_uint16_int, ia_sl_uint8, cv_uint8_int, ln_string, sl_sl_uint8_hi, bd_match_finder_0_1_2_3_4, cv_int_uint32, bd_api_Sequence_0_1_2, ia_sl_api_Sequence, fa_api_Sequence_Literals, ld_uint32, cv_uint32_int, fa_api_Sequence_Match, fa_api_Sequence_Offset, ix_string, fa_match_finder_last, ld_map_ar4_uint8_int, fa_match_finder_ahead, ld_sl_int, ia_sl_int, fa_match_finder_tries, ld_int, fa_match_finder_b, ld_sl_uint8, bd_ar4_uint8_, sl_sl_uint8_lohi, sa_ar4_uint8, fa_match_finder_to, ld_uint8, ln, d1, d2, d3, d4, d5]
  exact Ext.refl _ _
end Go.Proofs.Ytoobkaojepgnjaa
