/- Contracts: the reference lays its rare symbols. -/
import Derived.Test.YtcbkdccobhkbpaaFseJ
namespace Go.Proofs.Ytcbkdccobhkbpaa
open Go Go.En Go.Pu
set_option maxRecDepth 4000
set_option linter.unusedSimpArgs false
set_option linter.unusedVariables false

theorem m3_storeR {k : IntKind} {L : List Int} {rest : List Value} {i : Nat} (h : i < L.length) (x : Int) : (fe k (m3 L) ++ rest).set (i * 3) (.int k x) = fe k (m3 (L.set i x)) ++ rest := by
  rw [List.set_append_left _ _ (by rw [fe_length]; simp [m3]; omega), m3_store h]

theorem refTops_c {log N high cc p1 p6 b : Nat} {ps : List Int} {sv t2 : Value} {arr arr' : List Int} {rest : List Value} {w0 w : World} (hm : May log ps) (hs : Sl w0 sv (ps.map (Value.int .i64))) (hx : Ext w0 w nob)
    (hN2 : N ≤ 32768) (hcc : N ≤ cc) (harr : arr.length = N) (hng : (negs ps 0).length ≤ N) (ht : tops ps 0 N arr = (high, arr')) (hlo : w0.heap.size ≤ b) (hne : p1 ≠ b ∧ p6 ≠ b)
    (o1 : Own w p1 [.int .i64 log, sv]) (o6 : Own w p6 [.int .i64 log, .slice (some ⟨b, 0, none⟩) N cc]) (ob : Own w b (fe .i64 (m3 arr) ++ rest))
    {k2 : Value → Value → Value → Value → Value → World → Prop}
    (hR : ∀ w', Own w' b (fe .i64 (m3 arr') ++ rest) → Ext w w' (fun y => y = b) → k2 (.pointer (some ⟨p1, 0, none⟩)) t2 (.int .i64 N) (.pointer (some ⟨p6, 0, none⟩)) (.int .i64 ((high : Int) - 1)) w') :
    ref07_Build_p54 k2 (.pointer (some ⟨p1, 0, none⟩)) t2 (.int .i64 N) (.pointer (some ⟨p6, 0, none⟩)) (.int .i64 ((N : Int) - 1)) (.int .i64 0) w := by
  have hlen := hm.len256
  obtain ⟨a, c, rfl, hc⟩ := hs.lenI
  unfold ref07_Build_p54
  refine LoopD.rule (fun m t w' => ∃ (i hg : Nat) (ar : List Int), m = ps.length - i ∧ t = (.int .i64 ((hg : Int) - 1), .int .i64 i) ∧ i ≤ ps.length ∧ (negs (ps.drop i) i).length ≤ hg ∧ hg ≤ N ∧ ar.length = N ∧ tops (ps.drop i) i hg ar = (high, arr') ∧ Own w' b (fe .i64 (m3 ar) ++ rest) ∧ Ext w w' (fun y => y = b)) ps.length
    ⟨0, N, arr, rfl, rfl, by omega, by rw [List.drop_zero]; exact hng, by omega, harr, by rw [List.drop_zero]; exact ht, ob, Ext.refl _ _⟩ ?_
  rintro m t w3 ⟨i, hg, ar, rfl, rfl, hi, hng, hgN, harr, htop, o3, x3⟩
  have c1 := (o1.ext x3 hne.1).cell (off := 1)
  have c6 := (o6.ext x3 hne.2).cell (off := 1)
  simp only [List.getElem?_cons_zero, List.getElem?_cons_succ] at c1 c6
  unfold ref07_Build_p53 ref07_Build_p52
  by_cases hlt : i < ps.length
  · have d1 : decide ((i : Int) < (ps.length : Int)) = true := by simp; omega
    obtain ⟨b', off', c', e, _, hcell⟩ := (hs.ext (hx.new x3 hlo) (inB_nob _)).openI (by omega)
    cases e
    have g1 := hcell i hlt
    have hd : ps.drop i = ps[i] :: ps.drop (i + 1) := List.drop_eq_getElem_cons hlt
    have hlow := hm.low _ (List.getElem_mem hlt)
    rw [hd, negs] at hng
    rw [hd, tops] at htop
    by_cases hp : ps[i] = -1
    · have d2 : decide (ps[i] < 0) = true := by simp; omega
      rw [if_pos hp] at hng htop
      simp only [List.length_cons] at hng
      have e1 : (hg : Int) - 1 = ((hg - 1 : Nat) : Int) := by omega
      have e2 : IntKind.i64.wrap (((hg - 1 : Nat) : Int) - 1) = ((hg - 1 : Nat) : Int) - 1 := w_i64 (by omega) (by omega)
      rw [e1]
      simp (disch := omega) only [Stp, Same, stepR_value, stepR_skip, r_add, r_sub, r_mul, r_quo, r_rem, r_and, r_or, r_xor, r_andNot, r_shl, r_shr, r_eql, r_neq, r_lss, r_leq, r_gtr, r_geq, r_neg, r_cpl, r_not, r_pick, r_min, r_max, r_nil, x20, x21, x30, x31, x32, x40, x41, x42, x43, ldC_some, Result.ok.injEq, Next.value.injEq, true_and, and_true, w_i64, w_u64, w_i32, w_u32, w_u16, w_u8, Int.toNat_natCast, isB_tt, isB_tf, isB_ft, isB_ff, Gd_true, Gd_false, Gs_true, Gs_false, Cnd_true, Cnd_false, if_true, if_false, Bool.false_eq_true, Nat.zero_add, Option.isNone_some, Option.isNone_none, Bool.not_true, Bool.not_false, List.getElem?_cons_succ, List.getElem?_cons_zero, fa_normal_Counts_Part, ld_sl_int, ln_sl_int, fa_normal_Counts_Log, ld_int, fa_fse_Table_Entries, ld_sl_fse_Entry, ln_sl_fse_Entry, ia_sl_fse_Entry, fa_fse_Entry_Symbol, ld_uint8, ia_ar256_int, ia_sl_int, cv_uint8_int, fa_fse_Entry_Bits, fa_fse_Table_Log, fa_fse_Entry_Base, cv_uint16_int, cv_int_uint, bneq_bool, cv_uint64_int, bd_normal_Counts_0_1, bd_normal_Counts_, bd_fse_Table_, bd_fse_Table_0_1, bd_lightermanref07_T_, fa_lightermanref06_C_Log, bd_lightermanref07_T_0, fa_lightermanref07_T_L, ld_sl_lightermanref07_E, bd_lightermanref07_E_0, fa_lightermanref06_C_Part, ia_sl_lightermanref07_E, fa_lightermanref07_E_Symbol, fa_lightermanref07_E_Bits, fa_lightermanref07_E_Base, bd_lightermanref06_C_0_1, fa_lightermanref07_T_Log, ln_sl_lightermanref07_E, cv_int_uint64, bd_fse_Entry_0, bd_fse_Table_1, cv_int_uint8, cv_uint_uint32, cv_uint32_uint8, ix_string, cv_uint64_uint8, c1, c6, d1, g1, d2]
      refine st_int o3 rfl (by rw [List.length_append, fe_length]; simp [m3]; omega) fun w4 o4 x4 s4 => ?_
      rw [m3_storeR (by omega)] at o4
      unfold ref07_Build_p51
      simp (disch := omega) only [Stp, Same, stepR_value, stepR_skip, r_add, r_sub, r_mul, r_quo, r_rem, r_and, r_or, r_xor, r_andNot, r_shl, r_shr, r_eql, r_neq, r_lss, r_leq, r_gtr, r_geq, r_neg, r_cpl, r_not, r_pick, r_min, r_max, r_nil, x20, x21, x30, x31, x32, x40, x41, x42, x43, ldC_some, Result.ok.injEq, Next.value.injEq, true_and, and_true, w_i64, w_u64, w_i32, w_u32, w_u16, w_u8, Int.toNat_natCast, isB_tt, isB_tf, isB_ft, isB_ff, Gd_true, Gd_false, Gs_true, Gs_false, Cnd_true, Cnd_false, if_true, if_false, Bool.false_eq_true, Nat.zero_add, Option.isNone_some, Option.isNone_none, Bool.not_true, Bool.not_false, List.getElem?_cons_succ, List.getElem?_cons_zero, fa_normal_Counts_Part, ld_sl_int, ln_sl_int, fa_normal_Counts_Log, ld_int, fa_fse_Table_Entries, ld_sl_fse_Entry, ln_sl_fse_Entry, ia_sl_fse_Entry, fa_fse_Entry_Symbol, ld_uint8, ia_ar256_int, ia_sl_int, cv_uint8_int, fa_fse_Entry_Bits, fa_fse_Table_Log, fa_fse_Entry_Base, cv_uint16_int, cv_int_uint, bneq_bool, cv_uint64_int, bd_normal_Counts_0_1, bd_normal_Counts_, bd_fse_Table_, bd_fse_Table_0_1, bd_lightermanref07_T_, fa_lightermanref06_C_Log, bd_lightermanref07_T_0, fa_lightermanref07_T_L, ld_sl_lightermanref07_E, bd_lightermanref07_E_0, fa_lightermanref06_C_Part, ia_sl_lightermanref07_E, fa_lightermanref07_E_Symbol, fa_lightermanref07_E_Bits, fa_lightermanref07_E_Base, bd_lightermanref06_C_0_1, fa_lightermanref07_T_Log, ln_sl_lightermanref07_E, cv_int_uint64, bd_fse_Entry_0, bd_fse_Table_1, cv_int_uint8, cv_uint_uint32, cv_uint32_uint8, ix_string, cv_uint64_uint8, e2]
      exact ⟨ps.length - (i + 1), by omega, i + 1, hg - 1, _, rfl, rfl, by omega, by omega, by omega, by simp [harr], htop, o4, x3.trans x4 (fun _ _ h => h)⟩
    · have d2 : decide (ps[i] < 0) = false := by simp; omega
      rw [if_neg hp] at hng htop
      unfold ref07_Build_p51
      simp (disch := omega) only [Stp, Same, stepR_value, stepR_skip, r_add, r_sub, r_mul, r_quo, r_rem, r_and, r_or, r_xor, r_andNot, r_shl, r_shr, r_eql, r_neq, r_lss, r_leq, r_gtr, r_geq, r_neg, r_cpl, r_not, r_pick, r_min, r_max, r_nil, x20, x21, x30, x31, x32, x40, x41, x42, x43, ldC_some, Result.ok.injEq, Next.value.injEq, true_and, and_true, w_i64, w_u64, w_i32, w_u32, w_u16, w_u8, Int.toNat_natCast, isB_tt, isB_tf, isB_ft, isB_ff, Gd_true, Gd_false, Gs_true, Gs_false, Cnd_true, Cnd_false, if_true, if_false, Bool.false_eq_true, Nat.zero_add, Option.isNone_some, Option.isNone_none, Bool.not_true, Bool.not_false, List.getElem?_cons_succ, List.getElem?_cons_zero, fa_normal_Counts_Part, ld_sl_int, ln_sl_int, fa_normal_Counts_Log, ld_int, fa_fse_Table_Entries, ld_sl_fse_Entry, ln_sl_fse_Entry, ia_sl_fse_Entry, fa_fse_Entry_Symbol, ld_uint8, ia_ar256_int, ia_sl_int, cv_uint8_int, fa_fse_Entry_Bits, fa_fse_Table_Log, fa_fse_Entry_Base, cv_uint16_int, cv_int_uint, bneq_bool, cv_uint64_int, bd_normal_Counts_0_1, bd_normal_Counts_, bd_fse_Table_, bd_fse_Table_0_1, bd_lightermanref07_T_, fa_lightermanref06_C_Log, bd_lightermanref07_T_0, fa_lightermanref07_T_L, ld_sl_lightermanref07_E, bd_lightermanref07_E_0, fa_lightermanref06_C_Part, ia_sl_lightermanref07_E, fa_lightermanref07_E_Symbol, fa_lightermanref07_E_Bits, fa_lightermanref07_E_Base, bd_lightermanref06_C_0_1, fa_lightermanref07_T_Log, ln_sl_lightermanref07_E, cv_int_uint64, bd_fse_Entry_0, bd_fse_Table_1, cv_int_uint8, cv_uint_uint32, cv_uint32_uint8, ix_string, cv_uint64_uint8, c1, c6, d1, g1, d2]
      exact ⟨ps.length - (i + 1), by omega, i + 1, hg, ar, rfl, rfl, by omega, by omega, by omega, harr, htop, o3, x3⟩
  · have d1 : decide ((i : Int) < (ps.length : Int)) = false := by simp; omega
    rw [List.drop_of_length_le (by omega), tops] at htop
    obtain ⟨rfl, rfl⟩ : hg = high ∧ ar = arr' := by simpa using htop
    simp (disch := omega) only [Stp, Same, stepR_value, stepR_skip, r_add, r_sub, r_mul, r_quo, r_rem, r_and, r_or, r_xor, r_andNot, r_shl, r_shr, r_eql, r_neq, r_lss, r_leq, r_gtr, r_geq, r_neg, r_cpl, r_not, r_pick, r_min, r_max, r_nil, x20, x21, x30, x31, x32, x40, x41, x42, x43, ldC_some, Result.ok.injEq, Next.value.injEq, true_and, and_true, w_i64, w_u64, w_i32, w_u32, w_u16, w_u8, Int.toNat_natCast, isB_tt, isB_tf, isB_ft, isB_ff, Gd_true, Gd_false, Gs_true, Gs_false, Cnd_true, Cnd_false, if_true, if_false, Bool.false_eq_true, Nat.zero_add, Option.isNone_some, Option.isNone_none, Bool.not_true, Bool.not_false, List.getElem?_cons_succ, List.getElem?_cons_zero, fa_normal_Counts_Part, ld_sl_int, ln_sl_int, fa_normal_Counts_Log, ld_int, fa_fse_Table_Entries, ld_sl_fse_Entry, ln_sl_fse_Entry, ia_sl_fse_Entry, fa_fse_Entry_Symbol, ld_uint8, ia_ar256_int, ia_sl_int, cv_uint8_int, fa_fse_Entry_Bits, fa_fse_Table_Log, fa_fse_Entry_Base, cv_uint16_int, cv_int_uint, bneq_bool, cv_uint64_int, bd_normal_Counts_0_1, bd_normal_Counts_, bd_fse_Table_, bd_fse_Table_0_1, bd_lightermanref07_T_, fa_lightermanref06_C_Log, bd_lightermanref07_T_0, fa_lightermanref07_T_L, ld_sl_lightermanref07_E, bd_lightermanref07_E_0, fa_lightermanref06_C_Part, ia_sl_lightermanref07_E, fa_lightermanref07_E_Symbol, fa_lightermanref07_E_Bits, fa_lightermanref07_E_Base, bd_lightermanref06_C_0_1, fa_lightermanref07_T_Log, ln_sl_lightermanref07_E, cv_int_uint64, bd_fse_Entry_0, bd_fse_Table_1, cv_int_uint8, cv_uint_uint32, cv_uint32_uint8, ix_string, cv_uint64_uint8, c1, d1]
    exact hR _ o3 x3
end Go.Proofs.Ytcbkdccobhkbpaa
