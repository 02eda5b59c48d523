/- Contract: the reference's table, whole. -/
import Derived.Test.YtcbkdccobhkbpaaFseO
namespace Go.Proofs.Ytcbkdccobhkbpaa
open Go Go.En Go.Pu
set_option maxRecDepth 4000
set_option linter.unusedSimpArgs false
set_option linter.unusedVariables false

theorem refBuild_c {log : Nat} {sv : Value} {ps : List Int} {w : World} (hm : May log ps) (hs : Sl w sv (ps.map (Value.int .i64))) :
    Does pg F_ref07_Build #[.agg #[.int .i64 log, sv]] w (fun r w' => ∃ b cc rest, r = .tuple #[.agg #[.int .i64 log, .slice (some ⟨b, 0, none⟩) (2 ^ log) cc], .int .i64 0] ∧ w.heap.size ≤ b ∧ Own w' b (fe .i64 (buildL log ps) ++ rest) ∧ Ext w w' nob) := by
  refine ref07_Build_does ?_
  have hlen := hm.len256
  have h15 := hm.log15
  have hN2 : 2 ^ log ≤ 2 ^ 15 := Nat.pow_le_pow_right (by omega) h15
  have hN1 : 2 ^ 5 ≤ 2 ^ log := Nat.pow_le_pow_right (by omega) hm.log5
  unfold ref07_Build ref07_Build_p68 ref07_Build_p67
  refine stp_box fun w1 o1 x1 s1 => ?_
  refine al_lightermanref07_T fun w2 o2 x2 s2 => ?_
  have o1 := o1.ext x2 (fun h => h)
  have l1 := lda_lightermanref06_C (off := 0) o1 (by simp [Value.cells])
  simp only [Value.cells, List.drop_zero, List.take_succ_cons, List.take_zero] at l1
  simp (disch := omega) only [Stp, Same, stepR_value, stepR_skip, r_add, r_sub, r_mul, r_quo, r_rem, r_and, r_or, r_xor, r_andNot, r_shl, r_shr, r_eql, r_neq, r_lss, r_leq, r_gtr, r_geq, r_neg, r_cpl, r_not, r_pick, r_min, r_max, r_nil, x20, x21, x30, x31, x32, x40, x41, x42, x43, ldC_some, Result.ok.injEq, Next.value.injEq, true_and, and_true, w_i64, w_u64, w_i32, w_u32, w_u16, w_u8, Int.toNat_natCast, isB_tt, isB_tf, isB_ft, isB_ff, Gd_true, Gd_false, Gs_true, Gs_false, Cnd_true, Cnd_false, if_true, if_false, Bool.false_eq_true, Nat.zero_add, Option.isNone_some, Option.isNone_none, Bool.not_true, Bool.not_false, List.getElem?_cons_succ, List.getElem?_cons_zero, fa_normal_Counts_Part, ld_sl_int, ln_sl_int, fa_normal_Counts_Log, ld_int, fa_fse_Table_Entries, ld_sl_fse_Entry, ln_sl_fse_Entry, ia_sl_fse_Entry, fa_fse_Entry_Symbol, ld_uint8, ia_ar256_int, ia_sl_int, cv_uint8_int, fa_fse_Entry_Bits, fa_fse_Table_Log, fa_fse_Entry_Base, cv_uint16_int, cv_int_uint, bneq_bool, cv_uint64_int, bd_normal_Counts_0_1, bd_normal_Counts_, bd_fse_Table_, bd_fse_Table_0_1, bd_lightermanref07_T_, fa_lightermanref06_C_Log, bd_lightermanref07_T_0, fa_lightermanref07_T_L, ld_sl_lightermanref07_E, bd_lightermanref07_E_0, fa_lightermanref06_C_Part, ia_sl_lightermanref07_E, fa_lightermanref07_E_Symbol, fa_lightermanref07_E_Bits, fa_lightermanref07_E_Base, bd_lightermanref06_C_0_1, fa_lightermanref07_T_Log, ln_sl_lightermanref07_E, cv_int_uint64, bd_fse_Entry_0, bd_fse_Table_1, cv_int_uint8, cv_uint_uint32, cv_uint32_uint8, ix_string, cv_uint64_uint8, l1]
  refine (refCheck_c (most := 15) ((hs.ext x1 (inB_nob _)).ext x2 (inB_nob _)) (by omega)).mono ?_
  rintro r w3 ⟨rfl, x3⟩
  have hce := chkE_ok (most := 15) hm hm.log15
  rw [show (((15 : Nat) : Int)) = 15 from rfl] at hce
  rw [hce]
  have e0 : ((0 : Int) != 0) = false := rfl
  have o1 := o1.ext x3 (fun h => h)
  have o2 := o2.ext x3 (fun h => h)
  have c0 := o1.cell (off := 0)
  simp only [Value.cells, List.getElem?_cons_zero] at c0
  simp (disch := omega) only [Stp, Same, stepR_value, stepR_skip, r_add, r_sub, r_mul, r_quo, r_rem, r_and, r_or, r_xor, r_andNot, r_shl, r_shr, r_eql, r_neq, r_lss, r_leq, r_gtr, r_geq, r_neg, r_cpl, r_not, r_pick, r_min, r_max, r_nil, x20, x21, x30, x31, x32, x40, x41, x42, x43, ldC_some, Result.ok.injEq, Next.value.injEq, true_and, and_true, w_i64, w_u64, w_i32, w_u32, w_u16, w_u8, Int.toNat_natCast, isB_tt, isB_tf, isB_ft, isB_ff, Gd_true, Gd_false, Gs_true, Gs_false, Cnd_true, Cnd_false, if_true, if_false, Bool.false_eq_true, Nat.zero_add, Option.isNone_some, Option.isNone_none, Bool.not_true, Bool.not_false, List.getElem?_cons_succ, List.getElem?_cons_zero, fa_normal_Counts_Part, ld_sl_int, ln_sl_int, fa_normal_Counts_Log, ld_int, fa_fse_Table_Entries, ld_sl_fse_Entry, ln_sl_fse_Entry, ia_sl_fse_Entry, fa_fse_Entry_Symbol, ld_uint8, ia_ar256_int, ia_sl_int, cv_uint8_int, fa_fse_Entry_Bits, fa_fse_Table_Log, fa_fse_Entry_Base, cv_uint16_int, cv_int_uint, bneq_bool, cv_uint64_int, bd_normal_Counts_0_1, bd_normal_Counts_, bd_fse_Table_, bd_fse_Table_0_1, bd_lightermanref07_T_, fa_lightermanref06_C_Log, bd_lightermanref07_T_0, fa_lightermanref07_T_L, ld_sl_lightermanref07_E, bd_lightermanref07_E_0, fa_lightermanref06_C_Part, ia_sl_lightermanref07_E, fa_lightermanref07_E_Symbol, fa_lightermanref07_E_Bits, fa_lightermanref07_E_Base, bd_lightermanref06_C_0_1, fa_lightermanref07_T_Log, ln_sl_lightermanref07_E, cv_int_uint64, bd_fse_Entry_0, bd_fse_Table_1, cv_int_uint8, cv_uint_uint32, cv_uint32_uint8, ix_string, cv_uint64_uint8, e0, c0]
  refine (power_c log (by omega) _).mono ?_
  rintro r w4 ⟨rfl, rfl⟩
  have hpow : ((2 ^ log : Nat) : Int) = (2 : Int) ^ log := by simp
  rw [← hpow]
  simp (disch := omega) only [Stp, Same, stepR_value, stepR_skip, r_add, r_sub, r_mul, r_quo, r_rem, r_and, r_or, r_xor, r_andNot, r_shl, r_shr, r_eql, r_neq, r_lss, r_leq, r_gtr, r_geq, r_neg, r_cpl, r_not, r_pick, r_min, r_max, r_nil, x20, x21, x30, x31, x32, x40, x41, x42, x43, ldC_some, Result.ok.injEq, Next.value.injEq, true_and, and_true, w_i64, w_u64, w_i32, w_u32, w_u16, w_u8, Int.toNat_natCast, isB_tt, isB_tf, isB_ft, isB_ff, Gd_true, Gd_false, Gs_true, Gs_false, Cnd_true, Cnd_false, if_true, if_false, Bool.false_eq_true, Nat.zero_add, Option.isNone_some, Option.isNone_none, Bool.not_true, Bool.not_false, List.getElem?_cons_succ, List.getElem?_cons_zero, fa_normal_Counts_Part, ld_sl_int, ln_sl_int, fa_normal_Counts_Log, ld_int, fa_fse_Table_Entries, ld_sl_fse_Entry, ln_sl_fse_Entry, ia_sl_fse_Entry, fa_fse_Entry_Symbol, ld_uint8, ia_ar256_int, ia_sl_int, cv_uint8_int, fa_fse_Entry_Bits, fa_fse_Table_Log, fa_fse_Entry_Base, cv_uint16_int, cv_int_uint, bneq_bool, cv_uint64_int, bd_normal_Counts_0_1, bd_normal_Counts_, bd_fse_Table_, bd_fse_Table_0_1, bd_lightermanref07_T_, fa_lightermanref06_C_Log, bd_lightermanref07_T_0, fa_lightermanref07_T_L, ld_sl_lightermanref07_E, bd_lightermanref07_E_0, fa_lightermanref06_C_Part, ia_sl_lightermanref07_E, fa_lightermanref07_E_Symbol, fa_lightermanref07_E_Bits, fa_lightermanref07_E_Base, bd_lightermanref06_C_0_1, fa_lightermanref07_T_Log, ln_sl_lightermanref07_E, cv_int_uint64, bd_fse_Entry_0, bd_fse_Table_1, cv_int_uint8, cv_uint_uint32, cv_uint32_uint8, ix_string, cv_uint64_uint8, c0]
  refine al_lightermanref07_T fun w5 o5 x5 s5 => ?_
  refine sta_lightermanref07_T o5 rfl (by simp [one]) (by simp) fun w6 o6 x6 s6 => ?_
  simp only [setAll, List.set_cons_zero, List.set_cons_succ] at o6
  have l1 := o1.lt
  have l2 := o2.lt
  have l6 := o6.lt
  have z1 := x1.size
  have z2 := x2.size
  have z3 := x3.size
  have z5 := x5.size
  have z6 := x6.size
  have o1 := (o1.ext x5 (fun h => h)).ext x6 (by omega)
  have o2 := (o2.ext x5 (fun h => h)).ext x6 (by omega)
  have x06 : Ext w w6 nob := ((((x1.seq x2).seq x3).seq x5)).new x6 (by omega)
  have hne : w.heap.size ≠ w1.heap.size ∧ w.heap.size ≠ w4.heap.size ∧ w1.heap.size ≠ w4.heap.size := by omega
  have hp12 : w.heap.size ≤ w1.heap.size ∧ w1.heap.size ≤ w4.heap.size := by omega
  obtain ⟨p1, hp1⟩ : ∃ p1, p1 = w.heap.size := ⟨_, rfl⟩
  generalize w1.heap.size = p2 at *
  generalize w4.heap.size = p6 at *
  rw [← hp1] at o1 ⊢
  obtain ⟨arr, ht, harr, hneg, hsp⟩ := spread_spec hm (-1)
  have hlay := spread_lay hm (-1)
  have hEs := Es_all log ps
  rw [spread_x0 hm 0 (-1)] at hEs
  rw [hsp] at hlay hEs
  generalize hN : 2 ^ log = N at *
  unfold ref07_Build_p66 ref07_Build_p65 ref07_Build_p64 ref07_Build_p63
  refine refInit_c (by omega) (by omega) o6 fun w7 b cc rest o67 ob hcc hb x7 => ?_
  have o17 := o1.ext x7 (by omega)
  have o27 := o2.ext x7 (by omega)
  have x07 : Ext w w7 nob := x06.trans x7 (fun y hy hh => by omega)
  unfold ref07_Build_p60 ref07_Build_p59
  simp (disch := omega) only [Stp, Same, stepR_value, stepR_skip, r_add, r_sub, r_mul, r_quo, r_rem, r_and, r_or, r_xor, r_andNot, r_shl, r_shr, r_eql, r_neq, r_lss, r_leq, r_gtr, r_geq, r_neg, r_cpl, r_not, r_pick, r_min, r_max, r_nil, x20, x21, x30, x31, x32, x40, x41, x42, x43, ldC_some, Result.ok.injEq, Next.value.injEq, true_and, and_true, w_i64, w_u64, w_i32, w_u32, w_u16, w_u8, Int.toNat_natCast, isB_tt, isB_tf, isB_ft, isB_ff, Gd_true, Gd_false, Gs_true, Gs_false, Cnd_true, Cnd_false, if_true, if_false, Bool.false_eq_true, Nat.zero_add, Option.isNone_some, Option.isNone_none, Bool.not_true, Bool.not_false, List.getElem?_cons_succ, List.getElem?_cons_zero, fa_normal_Counts_Part, ld_sl_int, ln_sl_int, fa_normal_Counts_Log, ld_int, fa_fse_Table_Entries, ld_sl_fse_Entry, ln_sl_fse_Entry, ia_sl_fse_Entry, fa_fse_Entry_Symbol, ld_uint8, ia_ar256_int, ia_sl_int, cv_uint8_int, fa_fse_Entry_Bits, fa_fse_Table_Log, fa_fse_Entry_Base, cv_uint16_int, cv_int_uint, bneq_bool, cv_uint64_int, bd_normal_Counts_0_1, bd_normal_Counts_, bd_fse_Table_, bd_fse_Table_0_1, bd_lightermanref07_T_, fa_lightermanref06_C_Log, bd_lightermanref07_T_0, fa_lightermanref07_T_L, ld_sl_lightermanref07_E, bd_lightermanref07_E_0, fa_lightermanref06_C_Part, ia_sl_lightermanref07_E, fa_lightermanref07_E_Symbol, fa_lightermanref07_E_Bits, fa_lightermanref07_E_Base, bd_lightermanref06_C_0_1, fa_lightermanref07_T_Log, ln_sl_lightermanref07_E, cv_int_uint64, bd_fse_Entry_0, bd_fse_Table_1, cv_int_uint8, cv_uint_uint32, cv_uint32_uint8, ix_string, cv_uint64_uint8]
  unfold ref07_Build_p58 ref07_Build_p57 ref07_Build_p56 ref07_Build_p55
  refine refTops_c hm hs x07 (by omega) hcc (by simp) (by omega) ht (by omega) (by omega) o17 o67 ob fun w8 ob8 x8 => ?_
  have x08 := x07.new x8 (by omega)
  have o18 := o17.ext x8 (by omega)
  have o28 := o27.ext x8 (by omega)
  have o68 := o67.ext x8 (by omega)
  unfold ref07_Build_p50 ref07_Build_p49 ref07_Build_p48 ref07_Build_p47 ref07_Build_p46 ref07_Build_p45
  refine refPlace_c hm hs x08 (by omega) (by omega) hcc harr rfl (by omega) (by omega) (by omega) o18 o68 ob8 fun w9 ob9 x9 => ?_
  have x09 := x08.new x9 (by omega)
  refine refFill_c hm hlay hN hs x09 hcc (by omega) (by omega) (o18.ext x9 (by omega)) (o28.ext x9 (by omega)) (o68.ext x9 (by omega)) ob9 fun w10 ob10 x10 => ?_
  rw [hEs] at ob10
  exact ⟨b, cc, rest, rfl, by omega, ob10, x10⟩
end Go.Proofs.Ytcbkdccobhkbpaa
