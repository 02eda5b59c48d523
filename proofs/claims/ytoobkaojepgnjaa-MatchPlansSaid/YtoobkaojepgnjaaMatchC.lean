/- Contracts: the longest copy at a place. -/
import Derived.Test.YtoobkaojepgnjaaMatchB
namespace Go.Proofs.Ytoobkaojepgnjaa
open Go Go.En
set_option maxRecDepth 4000
set_option linter.unusedSimpArgs false

/-- a copy, or none -/
structure Bst (B : List UInt8) (to at_ n off : Nat) : Prop where
  one : (n = 0 ∧ off = 0) ∨ (0 < n ∧ 1 ≤ off ∧ off ≤ at_ ∧ Lng B to (at_ - off) at_ n)

theorem best_loop {w0 w : World} {p mb ab : Nat} {bv : Value} {B : List UInt8} {to tries at_ : Nat} {es : List (Vec 4 × Value)} {A : List Int} (hf : Fnd w0 p mb ab bv B to tries es A) (hk : Kept at_ es A) (ha : at_ ≤ to) (ht : tries ≤ 1048576) (old0 : Nat) (ho : old0 < at_)
    (hx : Ext w0 w nob) {k : Value → Value → World → Prop}
    (hR : ∀ (n off : Nat) w', Bst B to at_ n off → (1 ≤ tries → ∀ m, Lng B to old0 at_ m → m ≤ n) → Ext w0 w' nob → k (.int .i64 n) (.int .i64 off) w') :
    match_finder_best_p10 k (.pointer (some ⟨p, 0, none⟩)) (.int .i64 at_) (.int .i64 old0) (.int .i64 0) (.int .i64 0) (.int .i64 tries) (.int .i64 0) w := by
  have hle := hf.le
  have hbig := hf.big
  have hl := hf.len
  unfold match_finder_best_p10
  refine LoopD.rule (fun m t w' => ∃ old n off i : Nat, m = tries - i ∧ t = (.int .i64 old, .int .i64 n, .int .i64 off, .int .i64 i) ∧ i ≤ tries ∧ old < at_ ∧ Bst B to at_ n off ∧ (i = 0 → old = old0) ∧ (0 < i → ∀ m, Lng B to old0 at_ m → m ≤ n) ∧ n ≤ 131074 ∧ Ext w0 w' nob) tries
    ⟨old0, 0, 0, 0, rfl, rfl, by omega, ho, ⟨.inl ⟨rfl, rfl⟩⟩, fun _ => rfl, fun h => by omega, by omega, hx⟩ ?_
  rintro m t w1 ⟨old, n, off, i, rfl, rfl, hi, hold, hb, h0, h1, hn, hx⟩
  by_cases hlt : i < tries
  · have d1 : decide ((i : Int) < (tries : Int)) = true := by simp; omega
    simp (disch := omega) only [match_finder_best_p2, match_finder_best_p3, match_finder_best_p4, match_finder_best_p5, match_finder_best_p6, match_finder_best_p7, match_finder_best_p8, match_finder_best_p9, Stp, Same, stepR_value, stepR_skip, r_add, r_sub, r_mul, r_quo, r_rem, r_and, r_or, r_xor, r_andNot, r_shl, r_shr, r_eql, r_neq, r_lss, r_leq, r_gtr, r_geq, r_neg, r_cpl, r_not, r_pick, r_min, r_max, r_nil, x20, x21, x30, x31, x32, x40, x41, x42, x43, ldC_some, Result.ok.injEq, Next.value.injEq, true_and, and_true, w_i64, w_u64, w_i32, w_u32, w_u16, w_u8, Int.toNat_natCast, isB_tt, isB_tf, isB_ft, isB_ff, Gd_true, Gd_false, Cnd_true, Cnd_false, if_true, if_false, Bool.false_eq_true, Nat.zero_add, Option.isNone_some, Option.isNone_none, Bool.not_true, Bool.not_false, List.getElem?_cons_succ, List.getElem?_cons_zero, ln_sl_uint8, ln_sl_api_Sequence, cv_uint16_int, ia_sl_uint8, cv_uint8_int, ln_string, sl_sl_uint8_hi, bd_match_finder_0_1_2_3_4, cv_int_uint32, bd_api_Sequence_0_1_2, ia_sl_api_Sequence, fa_api_Sequence_Literals, ld_uint32, cv_uint32_int, fa_api_Sequence_Match, fa_api_Sequence_Offset, ix_string, fa_match_finder_last, ld_map_ar4_uint8_int, fa_match_finder_ahead, ld_sl_int, ia_sl_int, fa_match_finder_tries, ld_int, fa_match_finder_b, ld_sl_uint8, bd_ar4_uint8_, sl_sl_uint8_lohi, sa_ar4_uint8, fa_match_finder_to, ld_uint8, d1]
    refine (long_c (hf.same hx) old at_ hold (by omega)).mono ?_
    rintro r w2 ⟨n2, rfl, hl2, x2⟩
    have hx := hx.seq x2
    have hf2 := hf.same hx
    have c3 := hf2.own.cell (off := 3)
    simp only [List.getElem?_cons_zero, List.getElem?_cons_succ] at c3
    have hA := hk.ah old (by omega)
    have cA := hf2.ah.cell (off := old)
    rw [List.getElem?_map, List.getElem?_eq_getElem (by omega)] at cA
    simp only [Option.map_some] at cA
    have step : ∀ (n3 off3 : Nat), Bst B to at_ n3 off3 → (∀ m, Lng B to old at_ m → m ≤ n3) → n ≤ n3 → n3 ≤ 131074 → match_finder_best_p3 (fun _ _ old_8 long_10 off_11 _ t36 w => ∃ m', m' < tries - i ∧ ∃ old n off i : Nat, m' = tries - i ∧ (old_8, long_10, off_11, IntKind.i64 |> fun k => (match t36 with | .int _ x => Value.int k (k.wrap (x + 1)) | v => v)) = ((.int .i64 old : Value), (.int .i64 n : Value), (.int .i64 off : Value), (.int .i64 i : Value)) ∧ i ≤ tries ∧ old < at_ ∧ Bst B to at_ n off ∧ (i = 0 → old = old0) ∧ (0 < i → ∀ m, Lng B to old0 at_ m → m ≤ n) ∧ n ≤ 131074 ∧ Ext w0 w nob) k (.pointer (some ⟨p, 0, none⟩)) (.int .i64 at_) (.int .i64 old) (.int .i64 n3) (.int .i64 off3) (.int .i64 tries) (.int .i64 i) w2 := by
      intro n3 off3 hb3 hm3 hn3 h3m
      have hbest : ∀ m, Lng B to old0 at_ m → m ≤ n3 := fun m hm => by
        rcases Nat.eq_zero_or_pos i with h | h
        · rw [← h0 h] at hm; exact hm3 m hm
        · exact Nat.le_trans (h1 h m hm) hn3
      by_cases hneg : A[old] < 0
      · have d2 : decide (A[old] < 0) = true := by simpa using hneg
        simp (disch := omega) only [match_finder_best_p2, match_finder_best_p3, match_finder_best_p4, match_finder_best_p5, match_finder_best_p6, match_finder_best_p7, match_finder_best_p8, match_finder_best_p9, Stp, Same, stepR_value, stepR_skip, r_add, r_sub, r_mul, r_quo, r_rem, r_and, r_or, r_xor, r_andNot, r_shl, r_shr, r_eql, r_neq, r_lss, r_leq, r_gtr, r_geq, r_neg, r_cpl, r_not, r_pick, r_min, r_max, r_nil, x20, x21, x30, x31, x32, x40, x41, x42, x43, ldC_some, Result.ok.injEq, Next.value.injEq, true_and, and_true, w_i64, w_u64, w_i32, w_u32, w_u16, w_u8, Int.toNat_natCast, isB_tt, isB_tf, isB_ft, isB_ff, Gd_true, Gd_false, Cnd_true, Cnd_false, if_true, if_false, Bool.false_eq_true, Nat.zero_add, Option.isNone_some, Option.isNone_none, Bool.not_true, Bool.not_false, List.getElem?_cons_succ, List.getElem?_cons_zero, ln_sl_uint8, ln_sl_api_Sequence, cv_uint16_int, ia_sl_uint8, cv_uint8_int, ln_string, sl_sl_uint8_hi, bd_match_finder_0_1_2_3_4, cv_int_uint32, bd_api_Sequence_0_1_2, ia_sl_api_Sequence, fa_api_Sequence_Literals, ld_uint32, cv_uint32_int, fa_api_Sequence_Match, fa_api_Sequence_Offset, ix_string, fa_match_finder_last, ld_map_ar4_uint8_int, fa_match_finder_ahead, ld_sl_int, ia_sl_int, fa_match_finder_tries, ld_int, fa_match_finder_b, ld_sl_uint8, bd_ar4_uint8_, sl_sl_uint8_lohi, sa_ar4_uint8, fa_match_finder_to, ld_uint8, c3, cA, d2]
        exact hR _ _ _ hb3 (fun _ => hbest) hx
      · have d2 : decide (A[old] < 0) = false := by simpa using hneg
        simp (disch := omega) only [match_finder_best_p2, match_finder_best_p3, match_finder_best_p4, match_finder_best_p5, match_finder_best_p6, match_finder_best_p7, match_finder_best_p8, match_finder_best_p9, Stp, Same, stepR_value, stepR_skip, r_add, r_sub, r_mul, r_quo, r_rem, r_and, r_or, r_xor, r_andNot, r_shl, r_shr, r_eql, r_neq, r_lss, r_leq, r_gtr, r_geq, r_neg, r_cpl, r_not, r_pick, r_min, r_max, r_nil, x20, x21, x30, x31, x32, x40, x41, x42, x43, ldC_some, Result.ok.injEq, Next.value.injEq, true_and, and_true, w_i64, w_u64, w_i32, w_u32, w_u16, w_u8, Int.toNat_natCast, isB_tt, isB_tf, isB_ft, isB_ff, Gd_true, Gd_false, Cnd_true, Cnd_false, if_true, if_false, Bool.false_eq_true, Nat.zero_add, Option.isNone_some, Option.isNone_none, Bool.not_true, Bool.not_false, List.getElem?_cons_succ, List.getElem?_cons_zero, ln_sl_uint8, ln_sl_api_Sequence, cv_uint16_int, ia_sl_uint8, cv_uint8_int, ln_string, sl_sl_uint8_hi, bd_match_finder_0_1_2_3_4, cv_int_uint32, bd_api_Sequence_0_1_2, ia_sl_api_Sequence, fa_api_Sequence_Literals, ld_uint32, cv_uint32_int, fa_api_Sequence_Match, fa_api_Sequence_Offset, ix_string, fa_match_finder_last, ld_map_ar4_uint8_int, fa_match_finder_ahead, ld_sl_int, ia_sl_int, fa_match_finder_tries, ld_int, fa_match_finder_b, ld_sl_uint8, bd_ar4_uint8_, sl_sl_uint8_lohi, sa_ar4_uint8, fa_match_finder_to, ld_uint8, c3, cA, d2]
        have e : A[old] = ((A[old].toNat : Nat) : Int) := by omega
        refine ⟨tries - (i + 1), by omega, A[old].toNat, n3, off3, i + 1, rfl, ?_, by omega, by omega, hb3, fun h => by omega, fun _ => hbest, h3m, hx⟩
        rw [← e]
        rfl
    by_cases hg : n < n2
    · have d2 : decide ((n : Int) < (n2 : Int)) = true := by simp; omega
      have := step n2 (at_ - old) ⟨.inr ⟨by omega, by omega, by omega, by rw [show at_ - (at_ - old) = old from by omega]; exact hl2⟩⟩ (fun m hm => hm.le_of hl2) (by omega) hl2.most
      have e1 : ((at_ : Int) - (old : Int)) = ((at_ - old : Nat) : Int) := by omega
      unfold match_finder_best_p3 at this
      simp (disch := omega) only [Stp, Same, stepR_value, stepR_skip, r_add, r_sub, r_mul, r_quo, r_rem, r_and, r_or, r_xor, r_andNot, r_shl, r_shr, r_eql, r_neq, r_lss, r_leq, r_gtr, r_geq, r_neg, r_cpl, r_not, r_pick, r_min, r_max, r_nil, x20, x21, x30, x31, x32, x40, x41, x42, x43, ldC_some, Result.ok.injEq, Next.value.injEq, true_and, and_true, w_i64, w_u64, w_i32, w_u32, w_u16, w_u8, Int.toNat_natCast, isB_tt, isB_tf, isB_ft, isB_ff, Gd_true, Gd_false, Cnd_true, Cnd_false, if_true, if_false, Bool.false_eq_true, Nat.zero_add, Option.isNone_some, Option.isNone_none, Bool.not_true, Bool.not_false, List.getElem?_cons_succ, List.getElem?_cons_zero, ln_sl_uint8, ln_sl_api_Sequence, cv_uint16_int, ia_sl_uint8, cv_uint8_int, ln_string, sl_sl_uint8_hi, bd_match_finder_0_1_2_3_4, cv_int_uint32, bd_api_Sequence_0_1_2, ia_sl_api_Sequence, fa_api_Sequence_Literals, ld_uint32, cv_uint32_int, fa_api_Sequence_Match, fa_api_Sequence_Offset, ix_string, fa_match_finder_last, ld_map_ar4_uint8_int, fa_match_finder_ahead, ld_sl_int, ia_sl_int, fa_match_finder_tries, ld_int, fa_match_finder_b, ld_sl_uint8, bd_ar4_uint8_, sl_sl_uint8_lohi, sa_ar4_uint8, fa_match_finder_to, ld_uint8, d2, e1, c3, cA]
      simp (disch := omega) only [Stp, Same, stepR_value, stepR_skip, r_add, r_sub, r_mul, r_quo, r_rem, r_and, r_or, r_xor, r_andNot, r_shl, r_shr, r_eql, r_neq, r_lss, r_leq, r_gtr, r_geq, r_neg, r_cpl, r_not, r_pick, r_min, r_max, r_nil, x20, x21, x30, x31, x32, x40, x41, x42, x43, ldC_some, Result.ok.injEq, Next.value.injEq, true_and, and_true, w_i64, w_u64, w_i32, w_u32, w_u16, w_u8, Int.toNat_natCast, isB_tt, isB_tf, isB_ft, isB_ff, Gd_true, Gd_false, Cnd_true, Cnd_false, if_true, if_false, Bool.false_eq_true, Nat.zero_add, Option.isNone_some, Option.isNone_none, Bool.not_true, Bool.not_false, List.getElem?_cons_succ, List.getElem?_cons_zero, ln_sl_uint8, ln_sl_api_Sequence, cv_uint16_int, ia_sl_uint8, cv_uint8_int, ln_string, sl_sl_uint8_hi, bd_match_finder_0_1_2_3_4, cv_int_uint32, bd_api_Sequence_0_1_2, ia_sl_api_Sequence, fa_api_Sequence_Literals, ld_uint32, cv_uint32_int, fa_api_Sequence_Match, fa_api_Sequence_Offset, ix_string, fa_match_finder_last, ld_map_ar4_uint8_int, fa_match_finder_ahead, ld_sl_int, ia_sl_int, fa_match_finder_tries, ld_int, fa_match_finder_b, ld_sl_uint8, bd_ar4_uint8_, sl_sl_uint8_lohi, sa_ar4_uint8, fa_match_finder_to, ld_uint8, c3, cA] at this
      exact this
    · have d2 : decide ((n : Int) < (n2 : Int)) = false := by simp; omega
      have := step n off hb (fun m hm => Nat.le_trans (hm.le_of hl2) (by omega)) (Nat.le_refl _) hn
      unfold match_finder_best_p3 at this
      simp (disch := omega) only [Stp, Same, stepR_value, stepR_skip, r_add, r_sub, r_mul, r_quo, r_rem, r_and, r_or, r_xor, r_andNot, r_shl, r_shr, r_eql, r_neq, r_lss, r_leq, r_gtr, r_geq, r_neg, r_cpl, r_not, r_pick, r_min, r_max, r_nil, x20, x21, x30, x31, x32, x40, x41, x42, x43, ldC_some, Result.ok.injEq, Next.value.injEq, true_and, and_true, w_i64, w_u64, w_i32, w_u32, w_u16, w_u8, Int.toNat_natCast, isB_tt, isB_tf, isB_ft, isB_ff, Gd_true, Gd_false, Cnd_true, Cnd_false, if_true, if_false, Bool.false_eq_true, Nat.zero_add, Option.isNone_some, Option.isNone_none, Bool.not_true, Bool.not_false, List.getElem?_cons_succ, List.getElem?_cons_zero, ln_sl_uint8, ln_sl_api_Sequence, cv_uint16_int, ia_sl_uint8, cv_uint8_int, ln_string, sl_sl_uint8_hi, bd_match_finder_0_1_2_3_4, cv_int_uint32, bd_api_Sequence_0_1_2, ia_sl_api_Sequence, fa_api_Sequence_Literals, ld_uint32, cv_uint32_int, fa_api_Sequence_Match, fa_api_Sequence_Offset, ix_string, fa_match_finder_last, ld_map_ar4_uint8_int, fa_match_finder_ahead, ld_sl_int, ia_sl_int, fa_match_finder_tries, ld_int, fa_match_finder_b, ld_sl_uint8, bd_ar4_uint8_, sl_sl_uint8_lohi, sa_ar4_uint8, fa_match_finder_to, ld_uint8, d2, c3, cA]
      simp (disch := omega) only [Stp, Same, stepR_value, stepR_skip, r_add, r_sub, r_mul, r_quo, r_rem, r_and, r_or, r_xor, r_andNot, r_shl, r_shr, r_eql, r_neq, r_lss, r_leq, r_gtr, r_geq, r_neg, r_cpl, r_not, r_pick, r_min, r_max, r_nil, x20, x21, x30, x31, x32, x40, x41, x42, x43, ldC_some, Result.ok.injEq, Next.value.injEq, true_and, and_true, w_i64, w_u64, w_i32, w_u32, w_u16, w_u8, Int.toNat_natCast, isB_tt, isB_tf, isB_ft, isB_ff, Gd_true, Gd_false, Cnd_true, Cnd_false, if_true, if_false, Bool.false_eq_true, Nat.zero_add, Option.isNone_some, Option.isNone_none, Bool.not_true, Bool.not_false, List.getElem?_cons_succ, List.getElem?_cons_zero, ln_sl_uint8, ln_sl_api_Sequence, cv_uint16_int, ia_sl_uint8, cv_uint8_int, ln_string, sl_sl_uint8_hi, bd_match_finder_0_1_2_3_4, cv_int_uint32, bd_api_Sequence_0_1_2, ia_sl_api_Sequence, fa_api_Sequence_Literals, ld_uint32, cv_uint32_int, fa_api_Sequence_Match, fa_api_Sequence_Offset, ix_string, fa_match_finder_last, ld_map_ar4_uint8_int, fa_match_finder_ahead, ld_sl_int, ia_sl_int, fa_match_finder_tries, ld_int, fa_match_finder_b, ld_sl_uint8, bd_ar4_uint8_, sl_sl_uint8_lohi, sa_ar4_uint8, fa_match_finder_to, ld_uint8, c3, cA] at this
      exact this
  · have d1 : decide ((i : Int) < (tries : Int)) = false := by simp; omega
    simp (disch := omega) only [match_finder_best_p2, match_finder_best_p3, match_finder_best_p4, match_finder_best_p5, match_finder_best_p6, match_finder_best_p7, match_finder_best_p8, match_finder_best_p9, Stp, Same, stepR_value, stepR_skip, r_add, r_sub, r_mul, r_quo, r_rem, r_and, r_or, r_xor, r_andNot, r_shl, r_shr, r_eql, r_neq, r_lss, r_leq, r_gtr, r_geq, r_neg, r_cpl, r_not, r_pick, r_min, r_max, r_nil, x20, x21, x30, x31, x32, x40, x41, x42, x43, ldC_some, Result.ok.injEq, Next.value.injEq, true_and, and_true, w_i64, w_u64, w_i32, w_u32, w_u16, w_u8, Int.toNat_natCast, isB_tt, isB_tf, isB_ft, isB_ff, Gd_true, Gd_false, Cnd_true, Cnd_false, if_true, if_false, Bool.false_eq_true, Nat.zero_add, Option.isNone_some, Option.isNone_none, Bool.not_true, Bool.not_false, List.getElem?_cons_succ, List.getElem?_cons_zero, ln_sl_uint8, ln_sl_api_Sequence, cv_uint16_int, ia_sl_uint8, cv_uint8_int, ln_string, sl_sl_uint8_hi, bd_match_finder_0_1_2_3_4, cv_int_uint32, bd_api_Sequence_0_1_2, ia_sl_api_Sequence, fa_api_Sequence_Literals, ld_uint32, cv_uint32_int, fa_api_Sequence_Match, fa_api_Sequence_Offset, ix_string, fa_match_finder_last, ld_map_ar4_uint8_int, fa_match_finder_ahead, ld_sl_int, ia_sl_int, fa_match_finder_tries, ld_int, fa_match_finder_b, ld_sl_uint8, bd_ar4_uint8_, sl_sl_uint8_lohi, sa_ar4_uint8, fa_match_finder_to, ld_uint8, d1]
    exact hR _ _ _ hb (fun ht => h1 (by omega)) hx

theorem best_c {w : World} {p mb ab : Nat} {bv : Value} {B : List UInt8} {to tries at_ : Nat} {es : List (Vec 4 × Value)} {A : List Int} (hf : Fnd w p mb ab bv B to tries es A) (hk : Kept at_ es A) (ha : at_ ≤ to) (ht : tries ≤ 1048576) :
    Does pg F_match_finder_best #[.pointer (some ⟨p, 0, none⟩), .int .i64 at_] w (fun r w' => ∃ n off : Nat, r = .tuple #[.int .i64 n, .int .i64 off] ∧ Bst B to at_ n off ∧
      (at_ + 4 ≤ B.length → 1 ≤ tries → ∀ old : Nat, assoc (keyAt B at_) es = some (.int .i64 old) → ∀ m, Lng B to old at_ m → m ≤ n) ∧ Ext w w' nob) := by
  have hle := hf.le
  have hbig := hf.big
  refine match_finder_best_does ?_
  unfold match_finder_best match_finder_best_p19 match_finder_best_p18 match_finder_best_p17 match_finder_best_p16 match_finder_best_p15
  refine (keyed_c hf at_ (by omega)).mono ?_
  rintro r w1 ⟨rfl, x1⟩
  have hf1 := hf.same x1
  have hlen := (keyAt B at_).2
  simp (disch := omega) only [Stp, Same, stepR_value, stepR_skip, r_add, r_sub, r_mul, r_quo, r_rem, r_and, r_or, r_xor, r_andNot, r_shl, r_shr, r_eql, r_neq, r_lss, r_leq, r_gtr, r_geq, r_neg, r_cpl, r_not, r_pick, r_min, r_max, r_nil, x20, x21, x30, x31, x32, x40, x41, x42, x43, ldC_some, Result.ok.injEq, Next.value.injEq, true_and, and_true, w_i64, w_u64, w_i32, w_u32, w_u16, w_u8, Int.toNat_natCast, isB_tt, isB_tf, isB_ft, isB_ff, Gd_true, Gd_false, Cnd_true, Cnd_false, if_true, if_false, Bool.false_eq_true, Nat.zero_add, Option.isNone_some, Option.isNone_none, Bool.not_true, Bool.not_false, List.getElem?_cons_succ, List.getElem?_cons_zero, ln_sl_uint8, ln_sl_api_Sequence, cv_uint16_int, ia_sl_uint8, cv_uint8_int, ln_string, sl_sl_uint8_hi, bd_match_finder_0_1_2_3_4, cv_int_uint32, bd_api_Sequence_0_1_2, ia_sl_api_Sequence, fa_api_Sequence_Literals, ld_uint32, cv_uint32_int, fa_api_Sequence_Match, fa_api_Sequence_Offset, ix_string, fa_match_finder_last, ld_map_ar4_uint8_int, fa_match_finder_ahead, ld_sl_int, ia_sl_int, fa_match_finder_tries, ld_int, fa_match_finder_b, ld_sl_uint8, bd_ar4_uint8_, sl_sl_uint8_lohi, sa_ar4_uint8, fa_match_finder_to, ld_uint8]
  refine al_ar4_uint8 fun w2 o2 x2 s2 => ?_
  refine sta_ar4_uint8 o2 (by simp [hlen]) (bs_one _) (by simp) fun w3 o3 x3 s3 => ?_
  have e3 : setAll [.int .u8 0, .int .u8 0, .int .u8 0, .int .u8 0] 0 ((keyAt B at_).1.map b2v) = (keyAt B at_).1.map b2v := by
    generalize (keyAt B at_).1.map b2v = l, (show ((keyAt B at_).1.map b2v).length = 4 by simp [hlen]) = hl
    match l, hl with
    | [a, b, c, d], _ => rfl
  simp only [List.toList_toArray] at o3
  rw [e3] at o3
  have x3 : Ext w w3 nob := x1.seq (x2.new x3 (Nat.le_refl _))
  by_cases h4 : at_ + 4 ≤ B.length
  · rw [decide_eq_true h4]
    have hf3 := (hf.same x3).dr
    have hkb := own_dr o3
    have c2 := hf3.own.cell (off := 2)
    have c4 := hf3.own.cell (off := 4)
    simp only [List.getElem?_cons_zero, List.getElem?_cons_succ] at c2 c4
    have l1 := lda_ar4_uint8 (off := 0) hkb (by simp [hlen])
    have l2 : (((keyAt B at_).1.map b2v).drop 0).take 4 = (keyAt B at_).1.map b2v := by rw [List.drop_zero, List.take_of_length_le (by simp [hlen])]
    rw [l2] at l1
    have l3 := lk_map_ar4_uint8_int hf3.map (keyAt B at_)
    unfold encV at l3
    cases has : En.assoc (keyAt B at_) es with
    | none =>
      rw [has] at l3
      simp only [Option.getD_none, Option.isSome_none] at l3
      simp (disch := omega) only [Stp, Same, stepR_value, stepR_skip, r_add, r_sub, r_mul, r_quo, r_rem, r_and, r_or, r_xor, r_andNot, r_shl, r_shr, r_eql, r_neq, r_lss, r_leq, r_gtr, r_geq, r_neg, r_cpl, r_not, r_pick, r_min, r_max, r_nil, x20, x21, x30, x31, x32, x40, x41, x42, x43, ldC_some, Result.ok.injEq, Next.value.injEq, true_and, and_true, w_i64, w_u64, w_i32, w_u32, w_u16, w_u8, Int.toNat_natCast, isB_tt, isB_tf, isB_ft, isB_ff, Gd_true, Gd_false, Cnd_true, Cnd_false, if_true, if_false, Bool.false_eq_true, Nat.zero_add, Option.isNone_some, Option.isNone_none, Bool.not_true, Bool.not_false, List.getElem?_cons_succ, List.getElem?_cons_zero, ln_sl_uint8, ln_sl_api_Sequence, cv_uint16_int, ia_sl_uint8, cv_uint8_int, ln_string, sl_sl_uint8_hi, bd_match_finder_0_1_2_3_4, cv_int_uint32, bd_api_Sequence_0_1_2, ia_sl_api_Sequence, fa_api_Sequence_Literals, ld_uint32, cv_uint32_int, fa_api_Sequence_Match, fa_api_Sequence_Offset, ix_string, fa_match_finder_last, ld_map_ar4_uint8_int, fa_match_finder_ahead, ld_sl_int, ia_sl_int, fa_match_finder_tries, ld_int, fa_match_finder_b, ld_sl_uint8, bd_ar4_uint8_, sl_sl_uint8_lohi, sa_ar4_uint8, fa_match_finder_to, ld_uint8, c2, l1, l3]
      exact ⟨0, 0, rfl, ⟨.inl ⟨rfl, rfl⟩⟩, (by intro _ _ old h; cases h), x3.seq (Ext.dr _ _)⟩
    | some v =>
      obtain ⟨x, rfl, hxa⟩ := hk.assoc has
      rw [has] at l3
      simp only [Option.getD_some, Option.isSome_some] at l3
      simp (disch := omega) only [Stp, Same, stepR_value, stepR_skip, r_add, r_sub, r_mul, r_quo, r_rem, r_and, r_or, r_xor, r_andNot, r_shl, r_shr, r_eql, r_neq, r_lss, r_leq, r_gtr, r_geq, r_neg, r_cpl, r_not, r_pick, r_min, r_max, r_nil, x20, x21, x30, x31, x32, x40, x41, x42, x43, ldC_some, Result.ok.injEq, Next.value.injEq, true_and, and_true, w_i64, w_u64, w_i32, w_u32, w_u16, w_u8, Int.toNat_natCast, isB_tt, isB_tf, isB_ft, isB_ff, Gd_true, Gd_false, Cnd_true, Cnd_false, if_true, if_false, Bool.false_eq_true, Nat.zero_add, Option.isNone_some, Option.isNone_none, Bool.not_true, Bool.not_false, List.getElem?_cons_succ, List.getElem?_cons_zero, ln_sl_uint8, ln_sl_api_Sequence, cv_uint16_int, ia_sl_uint8, cv_uint8_int, ln_string, sl_sl_uint8_hi, bd_match_finder_0_1_2_3_4, cv_int_uint32, bd_api_Sequence_0_1_2, ia_sl_api_Sequence, fa_api_Sequence_Literals, ld_uint32, cv_uint32_int, fa_api_Sequence_Match, fa_api_Sequence_Offset, ix_string, fa_match_finder_last, ld_map_ar4_uint8_int, fa_match_finder_ahead, ld_sl_int, ia_sl_int, fa_match_finder_tries, ld_int, fa_match_finder_b, ld_sl_uint8, bd_ar4_uint8_, sl_sl_uint8_lohi, sa_ar4_uint8, fa_match_finder_to, ld_uint8, c2, l1, l3]
      unfold match_finder_best_p14 match_finder_best_p13 match_finder_best_p12
      simp (disch := omega) only [Stp, Same, stepR_value, stepR_skip, r_add, r_sub, r_mul, r_quo, r_rem, r_and, r_or, r_xor, r_andNot, r_shl, r_shr, r_eql, r_neq, r_lss, r_leq, r_gtr, r_geq, r_neg, r_cpl, r_not, r_pick, r_min, r_max, r_nil, x20, x21, x30, x31, x32, x40, x41, x42, x43, ldC_some, Result.ok.injEq, Next.value.injEq, true_and, and_true, w_i64, w_u64, w_i32, w_u32, w_u16, w_u8, Int.toNat_natCast, isB_tt, isB_tf, isB_ft, isB_ff, Gd_true, Gd_false, Cnd_true, Cnd_false, if_true, if_false, Bool.false_eq_true, Nat.zero_add, Option.isNone_some, Option.isNone_none, Bool.not_true, Bool.not_false, List.getElem?_cons_succ, List.getElem?_cons_zero, ln_sl_uint8, ln_sl_api_Sequence, cv_uint16_int, ia_sl_uint8, cv_uint8_int, ln_string, sl_sl_uint8_hi, bd_match_finder_0_1_2_3_4, cv_int_uint32, bd_api_Sequence_0_1_2, ia_sl_api_Sequence, fa_api_Sequence_Literals, ld_uint32, cv_uint32_int, fa_api_Sequence_Match, fa_api_Sequence_Offset, ix_string, fa_match_finder_last, ld_map_ar4_uint8_int, fa_match_finder_ahead, ld_sl_int, ia_sl_int, fa_match_finder_tries, ld_int, fa_match_finder_b, ld_sl_uint8, bd_ar4_uint8_, sl_sl_uint8_lohi, sa_ar4_uint8, fa_match_finder_to, ld_uint8, c4]
      refine best_loop hf hk ha ht x hxa (x3.seq (Ext.dr _ _)) fun n off w' hb hm hx => ?_
      exact ⟨n, off, rfl, hb, fun _ ht old h m hl => (by cases h; exact hm ht m hl), hx⟩
  · rw [decide_eq_false h4]
    simp (disch := omega) only [Stp, Same, stepR_value, stepR_skip, r_add, r_sub, r_mul, r_quo, r_rem, r_and, r_or, r_xor, r_andNot, r_shl, r_shr, r_eql, r_neq, r_lss, r_leq, r_gtr, r_geq, r_neg, r_cpl, r_not, r_pick, r_min, r_max, r_nil, x20, x21, x30, x31, x32, x40, x41, x42, x43, ldC_some, Result.ok.injEq, Next.value.injEq, true_and, and_true, w_i64, w_u64, w_i32, w_u32, w_u16, w_u8, Int.toNat_natCast, isB_tt, isB_tf, isB_ft, isB_ff, Gd_true, Gd_false, Cnd_true, Cnd_false, if_true, if_false, Bool.false_eq_true, Nat.zero_add, Option.isNone_some, Option.isNone_none, Bool.not_true, Bool.not_false, List.getElem?_cons_succ, List.getElem?_cons_zero, ln_sl_uint8, ln_sl_api_Sequence, cv_uint16_int, ia_sl_uint8, cv_uint8_int, ln_string, sl_sl_uint8_hi, bd_match_finder_0_1_2_3_4, cv_int_uint32, bd_api_Sequence_0_1_2, ia_sl_api_Sequence, fa_api_Sequence_Literals, ld_uint32, cv_uint32_int, fa_api_Sequence_Match, fa_api_Sequence_Offset, ix_string, fa_match_finder_last, ld_map_ar4_uint8_int, fa_match_finder_ahead, ld_sl_int, ia_sl_int, fa_match_finder_tries, ld_int, fa_match_finder_b, ld_sl_uint8, bd_ar4_uint8_, sl_sl_uint8_lohi, sa_ar4_uint8, fa_match_finder_to, ld_uint8]
    exact ⟨0, 0, rfl, ⟨.inl ⟨rfl, rfl⟩⟩, fun h => absurd h h4, x3⟩
end Go.Proofs.Ytoobkaojepgnjaa
