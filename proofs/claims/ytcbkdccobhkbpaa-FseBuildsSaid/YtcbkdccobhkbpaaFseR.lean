/- The law FseBuilds: the program's table and the reference's are one. -/
import Derived.Test.YtcbkdccobhkbpaaFseQ
import Derived.Test.YtcbkdccobhkbpaaFseH
namespace Go.Proofs.Ytcbkdccobhkbpaa
open Go Go.En Go.Pu
set_option maxRecDepth 4000
set_option linter.unusedSimpArgs false
set_option linter.unusedVariables false

theorem refBuild_bad {log : Int} {sv : Value} {ps : List Int} {w : World} (hm : mayB log ps = false) (hs : Sl w sv (ps.map (Value.int .i64))) (hl : ps.length ≤ 9223372036854775807) :
    Does pg F_ref07_Build #[.agg #[.int .i64 log, sv]] w (fun r w' => r = .tuple #[.agg #[.int .i64 0, .slice none 0 0], .int .i64 1] ∧ Ext w w' nob) := by
  refine ref07_Build_does ?_
  unfold ref07_Build ref07_Build_p68 ref07_Build_p67
  refine stp_box fun w1 o1 x1 s1 => ?_
  refine al_lightermanref07_T fun w2 o2 x2 s2 => ?_
  have o1 := o1.ext x2 (fun h => h)
  have l1 := lda_lightermanref06_C (off := 0) o1 (by simp [Value.cells])
  simp only [Value.cells, List.drop_zero, List.take_succ_cons, List.take_zero] at l1
  simp (disch := omega) only [Stp, Same, stepR_value, stepR_skip, r_add, r_sub, r_mul, r_quo, r_rem, r_and, r_or, r_xor, r_andNot, r_shl, r_shr, r_eql, r_neq, r_lss, r_leq, r_gtr, r_geq, r_neg, r_cpl, r_not, r_pick, r_min, r_max, r_nil, x20, x21, x30, x31, x32, x40, x41, x42, x43, ldC_some, Result.ok.injEq, Next.value.injEq, true_and, and_true, w_i64, w_u64, w_i32, w_u32, w_u16, w_u8, Int.toNat_natCast, isB_tt, isB_tf, isB_ft, isB_ff, Gd_true, Gd_false, Gs_true, Gs_false, Cnd_true, Cnd_false, if_true, if_false, Bool.false_eq_true, Nat.zero_add, Option.isNone_some, Option.isNone_none, Bool.not_true, Bool.not_false, List.getElem?_cons_succ, List.getElem?_cons_zero, fa_normal_Counts_Part, ld_sl_int, ln_sl_int, fa_normal_Counts_Log, ld_int, fa_fse_Table_Entries, ld_sl_fse_Entry, ln_sl_fse_Entry, ia_sl_fse_Entry, fa_fse_Entry_Symbol, ld_uint8, ia_ar256_int, ia_sl_int, cv_uint8_int, fa_fse_Entry_Bits, fa_fse_Table_Log, fa_fse_Entry_Base, cv_uint16_int, cv_int_uint, bneq_bool, cv_uint64_int, bd_normal_Counts_0_1, bd_normal_Counts_, bd_fse_Table_, bd_fse_Table_0_1, bd_lightermanref07_T_, fa_lightermanref06_C_Log, bd_lightermanref07_T_0, fa_lightermanref07_T_L, ld_sl_lightermanref07_E, bd_lightermanref07_E_0, fa_lightermanref06_C_Part, ia_sl_lightermanref07_E, fa_lightermanref07_E_Symbol, fa_lightermanref07_E_Bits, fa_lightermanref07_E_Base, bd_lightermanref06_C_0_1, fa_lightermanref07_T_Log, ln_sl_lightermanref07_E, cv_int_uint64, bd_fse_Entry_0, bd_fse_Table_1, cv_int_uint8, cv_uint_uint32, cv_uint32_uint8, ix_string, cv_uint64_uint8, l1]
  refine (refCheck_c (most := 15) ((hs.ext x1 (inB_nob _)).ext x2 (inB_nob _)) (by omega)).mono ?_
  rintro r w3 ⟨rfl, x3⟩
  have hce : chkE log ps 15 = 1 := by unfold chkE; rw [hm]; rfl
  rw [hce]
  have e0 : ((1 : Int) != 0) = true := rfl
  simp (disch := omega) only [Stp, Same, stepR_value, stepR_skip, r_add, r_sub, r_mul, r_quo, r_rem, r_and, r_or, r_xor, r_andNot, r_shl, r_shr, r_eql, r_neq, r_lss, r_leq, r_gtr, r_geq, r_neg, r_cpl, r_not, r_pick, r_min, r_max, r_nil, x20, x21, x30, x31, x32, x40, x41, x42, x43, ldC_some, Result.ok.injEq, Next.value.injEq, true_and, and_true, w_i64, w_u64, w_i32, w_u32, w_u16, w_u8, Int.toNat_natCast, isB_tt, isB_tf, isB_ft, isB_ff, Gd_true, Gd_false, Gs_true, Gs_false, Cnd_true, Cnd_false, if_true, if_false, Bool.false_eq_true, Nat.zero_add, Option.isNone_some, Option.isNone_none, Bool.not_true, Bool.not_false, List.getElem?_cons_succ, List.getElem?_cons_zero, fa_normal_Counts_Part, ld_sl_int, ln_sl_int, fa_normal_Counts_Log, ld_int, fa_fse_Table_Entries, ld_sl_fse_Entry, ln_sl_fse_Entry, ia_sl_fse_Entry, fa_fse_Entry_Symbol, ld_uint8, ia_ar256_int, ia_sl_int, cv_uint8_int, fa_fse_Entry_Bits, fa_fse_Table_Log, fa_fse_Entry_Base, cv_uint16_int, cv_int_uint, bneq_bool, cv_uint64_int, bd_normal_Counts_0_1, bd_normal_Counts_, bd_fse_Table_, bd_fse_Table_0_1, bd_lightermanref07_T_, fa_lightermanref06_C_Log, bd_lightermanref07_T_0, fa_lightermanref07_T_L, ld_sl_lightermanref07_E, bd_lightermanref07_E_0, fa_lightermanref06_C_Part, ia_sl_lightermanref07_E, fa_lightermanref07_E_Symbol, fa_lightermanref07_E_Bits, fa_lightermanref07_E_Base, bd_lightermanref06_C_0_1, fa_lightermanref07_T_Log, ln_sl_lightermanref07_E, cv_int_uint64, bd_fse_Entry_0, bd_fse_Table_1, cv_int_uint8, cv_uint_uint32, cv_uint32_uint8, ix_string, cv_uint64_uint8, e0]
  refine sta_lightermanref07_T (o2.ext x3 (fun h => h)) rfl (by simp [one]) (by simp) fun w6 o6 x6 s6 => ?_
  refine ldr_lightermanref07_T o6 (by simp [setAll]) ⟨rfl, ?_⟩
  exact ((x1.seq x2).seq x3).new x6 (by omega)

theorem sameTable_nil (w : World) : Does pg F_law07_sameTable #[.agg #[.int .i64 0, .slice none 0 0], .agg #[.int .i64 0, .slice none 0 0]] w (fun r w' => r = .bool true ∧ Ext w w' nob) := by
  refine law07_sameTable_does ?_
  unfold law07_sameTable law07_sameTable_p9 law07_sameTable_p8
  refine stp_box fun w1 o1 x1 s1 => ?_
  refine stp_box fun w2 o2 x2 s2 => ?_
  have o1 := o1.ext x2 (fun h => h)
  have c10 := o1.cell (off := 0)
  have c11 := o1.cell (off := 1)
  have c20 := o2.cell (off := 0)
  have c21 := o2.cell (off := 1)
  simp only [Value.cells, List.getElem?_cons_zero, List.getElem?_cons_succ] at c10 c11 c20 c21
  have e1 : ((0 : Int) != 0) = false := rfl
  have e2 : (((0 : Nat) : Int) != ((0 : Nat) : Int)) = false := rfl
  simp (disch := omega) only [Stp, Same, stepR_value, stepR_skip, r_add, r_sub, r_mul, r_quo, r_rem, r_and, r_or, r_xor, r_andNot, r_shl, r_shr, r_eql, r_neq, r_lss, r_leq, r_gtr, r_geq, r_neg, r_cpl, r_not, r_pick, r_min, r_max, r_nil, x20, x21, x30, x31, x32, x40, x41, x42, x43, ldC_some, Result.ok.injEq, Next.value.injEq, true_and, and_true, w_i64, w_u64, w_i32, w_u32, w_u16, w_u8, Int.toNat_natCast, isB_tt, isB_tf, isB_ft, isB_ff, Gd_true, Gd_false, Gs_true, Gs_false, Cnd_true, Cnd_false, if_true, if_false, Bool.false_eq_true, Nat.zero_add, Option.isNone_some, Option.isNone_none, Bool.not_true, Bool.not_false, List.getElem?_cons_succ, List.getElem?_cons_zero, fa_normal_Counts_Part, ld_sl_int, ln_sl_int, fa_normal_Counts_Log, ld_int, fa_fse_Table_Entries, ld_sl_fse_Entry, ln_sl_fse_Entry, ia_sl_fse_Entry, fa_fse_Entry_Symbol, ld_uint8, ia_ar256_int, ia_sl_int, cv_uint8_int, fa_fse_Entry_Bits, fa_fse_Table_Log, fa_fse_Entry_Base, cv_uint16_int, cv_int_uint, bneq_bool, cv_uint64_int, bd_normal_Counts_0_1, bd_normal_Counts_, bd_fse_Table_, bd_fse_Table_0_1, bd_lightermanref07_T_, fa_lightermanref06_C_Log, bd_lightermanref07_T_0, fa_lightermanref07_T_L, ld_sl_lightermanref07_E, bd_lightermanref07_E_0, fa_lightermanref06_C_Part, ia_sl_lightermanref07_E, fa_lightermanref07_E_Symbol, fa_lightermanref07_E_Bits, fa_lightermanref07_E_Base, bd_lightermanref06_C_0_1, fa_lightermanref07_T_Log, ln_sl_lightermanref07_E, cv_int_uint64, bd_fse_Entry_0, bd_fse_Table_1, cv_int_uint8, cv_uint_uint32, cv_uint32_uint8, ix_string, cv_uint64_uint8, c10, c11, c20, c21, e1, e2]
  unfold law07_sameTable_p7 law07_sameTable_p6 law07_sameTable_p5 law07_sameTable_p4 law07_sameTable_p3
  refine LoopD.rule (fun m (t : Value) w' => m = 0 ∧ t = .int .i64 0 ∧ w' = w2) 0 ⟨rfl, rfl, rfl⟩ ?_
  rintro m t w3 ⟨rfl, rfl, rfl⟩
  unfold law07_sameTable_p2 law07_sameTable_p1
  have d1 : decide ((0 : Int) < ((0 : Nat) : Int)) = false := rfl
  simp (disch := omega) only [Stp, Same, stepR_value, stepR_skip, r_add, r_sub, r_mul, r_quo, r_rem, r_and, r_or, r_xor, r_andNot, r_shl, r_shr, r_eql, r_neq, r_lss, r_leq, r_gtr, r_geq, r_neg, r_cpl, r_not, r_pick, r_min, r_max, r_nil, x20, x21, x30, x31, x32, x40, x41, x42, x43, ldC_some, Result.ok.injEq, Next.value.injEq, true_and, and_true, w_i64, w_u64, w_i32, w_u32, w_u16, w_u8, Int.toNat_natCast, isB_tt, isB_tf, isB_ft, isB_ff, Gd_true, Gd_false, Gs_true, Gs_false, Cnd_true, Cnd_false, if_true, if_false, Bool.false_eq_true, Nat.zero_add, Option.isNone_some, Option.isNone_none, Bool.not_true, Bool.not_false, List.getElem?_cons_succ, List.getElem?_cons_zero, fa_normal_Counts_Part, ld_sl_int, ln_sl_int, fa_normal_Counts_Log, ld_int, fa_fse_Table_Entries, ld_sl_fse_Entry, ln_sl_fse_Entry, ia_sl_fse_Entry, fa_fse_Entry_Symbol, ld_uint8, ia_ar256_int, ia_sl_int, cv_uint8_int, fa_fse_Entry_Bits, fa_fse_Table_Log, fa_fse_Entry_Base, cv_uint16_int, cv_int_uint, bneq_bool, cv_uint64_int, bd_normal_Counts_0_1, bd_normal_Counts_, bd_fse_Table_, bd_fse_Table_0_1, bd_lightermanref07_T_, fa_lightermanref06_C_Log, bd_lightermanref07_T_0, fa_lightermanref07_T_L, ld_sl_lightermanref07_E, bd_lightermanref07_E_0, fa_lightermanref06_C_Part, ia_sl_lightermanref07_E, fa_lightermanref07_E_Symbol, fa_lightermanref07_E_Bits, fa_lightermanref07_E_Base, bd_lightermanref06_C_0_1, fa_lightermanref07_T_Log, ln_sl_lightermanref07_E, cv_int_uint64, bd_fse_Entry_0, bd_fse_Table_1, cv_int_uint8, cv_uint_uint32, cv_uint32_uint8, ix_string, cv_uint64_uint8, c21, d1]
  exact x1.seq x2

theorem sameTable_c {log b b2 cc : Nat} {L : List T3} {rest : List Value} {w : World} (hl : L.length ≤ 1000000) (hlog : log ≤ 1000) (hsy : ∀ e ∈ L, 0 ≤ e.1 ∧ e.1 < 256)
    (ob : Own w b (fe .u8 L)) (ob2 : Own w b2 (fe .i64 L ++ rest)) :
    Does pg F_law07_sameTable #[.agg #[.int .i64 log, .slice (some ⟨b, 0, none⟩) L.length L.length], .agg #[.int .i64 log, .slice (some ⟨b2, 0, none⟩) L.length cc]] w (fun r w' => r = .bool true ∧ Ext w w' nob) := by
  refine law07_sameTable_does ?_
  unfold law07_sameTable law07_sameTable_p9 law07_sameTable_p8
  refine stp_box fun w1 o1 x1 s1 => ?_
  refine stp_box fun w2 o2 x2 s2 => ?_
  have o1 := o1.ext x2 (fun h => h)
  have c10 := o1.cell (off := 0)
  have c11 := o1.cell (off := 1)
  have c20 := o2.cell (off := 0)
  have c21 := o2.cell (off := 1)
  simp only [Value.cells, List.getElem?_cons_zero, List.getElem?_cons_succ] at c10 c11 c20 c21
  have e1 : ((log : Int) != (log : Int)) = false := by simp
  have e2 : ((L.length : Int) != (L.length : Int)) = false := by simp
  simp (disch := omega) only [Stp, Same, stepR_value, stepR_skip, r_add, r_sub, r_mul, r_quo, r_rem, r_and, r_or, r_xor, r_andNot, r_shl, r_shr, r_eql, r_neq, r_lss, r_leq, r_gtr, r_geq, r_neg, r_cpl, r_not, r_pick, r_min, r_max, r_nil, x20, x21, x30, x31, x32, x40, x41, x42, x43, ldC_some, Result.ok.injEq, Next.value.injEq, true_and, and_true, w_i64, w_u64, w_i32, w_u32, w_u16, w_u8, Int.toNat_natCast, isB_tt, isB_tf, isB_ft, isB_ff, Gd_true, Gd_false, Gs_true, Gs_false, Cnd_true, Cnd_false, if_true, if_false, Bool.false_eq_true, Nat.zero_add, Option.isNone_some, Option.isNone_none, Bool.not_true, Bool.not_false, List.getElem?_cons_succ, List.getElem?_cons_zero, fa_normal_Counts_Part, ld_sl_int, ln_sl_int, fa_normal_Counts_Log, ld_int, fa_fse_Table_Entries, ld_sl_fse_Entry, ln_sl_fse_Entry, ia_sl_fse_Entry, fa_fse_Entry_Symbol, ld_uint8, ia_ar256_int, ia_sl_int, cv_uint8_int, fa_fse_Entry_Bits, fa_fse_Table_Log, fa_fse_Entry_Base, cv_uint16_int, cv_int_uint, bneq_bool, cv_uint64_int, bd_normal_Counts_0_1, bd_normal_Counts_, bd_fse_Table_, bd_fse_Table_0_1, bd_lightermanref07_T_, fa_lightermanref06_C_Log, bd_lightermanref07_T_0, fa_lightermanref07_T_L, ld_sl_lightermanref07_E, bd_lightermanref07_E_0, fa_lightermanref06_C_Part, ia_sl_lightermanref07_E, fa_lightermanref07_E_Symbol, fa_lightermanref07_E_Bits, fa_lightermanref07_E_Base, bd_lightermanref06_C_0_1, fa_lightermanref07_T_Log, ln_sl_lightermanref07_E, cv_int_uint64, bd_fse_Entry_0, bd_fse_Table_1, cv_int_uint8, cv_uint_uint32, cv_uint32_uint8, ix_string, cv_uint64_uint8, c10, c11, c20, c21, e1, e2]
  unfold law07_sameTable_p7 law07_sameTable_p6 law07_sameTable_p5 law07_sameTable_p4 law07_sameTable_p3
  have ob := (ob.ext x1 (fun h => h)).ext x2 (fun h => h)
  have ob2 := (ob2.ext x1 (fun h => h)).ext x2 (fun h => h)
  have x02 := x1.seq x2
  refine LoopD.rule (fun m t w' => ∃ i : Nat, m = L.length - i ∧ t = .int .i64 i ∧ i ≤ L.length ∧ Ext w2 w' nob) L.length ⟨0, rfl, rfl, by omega, Ext.refl _ _⟩ ?_
  rintro m t w3 ⟨i, rfl, rfl, hi, x3⟩
  have o13 := o1.ext x3 (fun h => h)
  have o23 := o2.ext x3 (fun h => h)
  have c11 := o13.cell (off := 1)
  have c21 := o23.cell (off := 1)
  simp only [Value.cells, List.getElem?_cons_zero, List.getElem?_cons_succ] at c11 c21
  unfold law07_sameTable_p2
  by_cases hlt : i < L.length
  · have d3 : decide ((i : Int) < (L.length : Int)) = true := by simp; omega
    have l1 := lda_fse_Entry (off := i * 3) (ob.ext x3 (fun h => h)) (by rw [fe_length]; omega)
    rw [fe_take hlt] at l1
    have hge : L[i]? = some L[i] := List.getElem?_eq_getElem hlt
    have hsy := hsy _ (List.getElem_mem hlt)
    obtain ⟨q1, q2, q3⟩ := fe_get' (k := .i64) hge
    have hq : i * 3 + 2 < (fe .i64 L).length := by rw [fe_length]; omega
    rw [← List.getElem?_append_left (l₂ := rest) (by omega)] at q1 q2 q3
    generalize L[i] = e at *
    obtain ⟨e1, e2, e3⟩ := e
    simp only at hsy l1 q1 q2 q3
    simp (disch := omega) only [Stp, Same, stepR_value, stepR_skip, r_add, r_sub, r_mul, r_quo, r_rem, r_and, r_or, r_xor, r_andNot, r_shl, r_shr, r_eql, r_neq, r_lss, r_leq, r_gtr, r_geq, r_neg, r_cpl, r_not, r_pick, r_min, r_max, r_nil, x20, x21, x30, x31, x32, x40, x41, x42, x43, ldC_some, Result.ok.injEq, Next.value.injEq, true_and, and_true, w_i64, w_u64, w_i32, w_u32, w_u16, w_u8, Int.toNat_natCast, isB_tt, isB_tf, isB_ft, isB_ff, Gd_true, Gd_false, Gs_true, Gs_false, Cnd_true, Cnd_false, if_true, if_false, Bool.false_eq_true, Nat.zero_add, Option.isNone_some, Option.isNone_none, Bool.not_true, Bool.not_false, List.getElem?_cons_succ, List.getElem?_cons_zero, fa_normal_Counts_Part, ld_sl_int, ln_sl_int, fa_normal_Counts_Log, ld_int, fa_fse_Table_Entries, ld_sl_fse_Entry, ln_sl_fse_Entry, ia_sl_fse_Entry, fa_fse_Entry_Symbol, ld_uint8, ia_ar256_int, ia_sl_int, cv_uint8_int, fa_fse_Entry_Bits, fa_fse_Table_Log, fa_fse_Entry_Base, cv_uint16_int, cv_int_uint, bneq_bool, cv_uint64_int, bd_normal_Counts_0_1, bd_normal_Counts_, bd_fse_Table_, bd_fse_Table_0_1, bd_lightermanref07_T_, fa_lightermanref06_C_Log, bd_lightermanref07_T_0, fa_lightermanref07_T_L, ld_sl_lightermanref07_E, bd_lightermanref07_E_0, fa_lightermanref06_C_Part, ia_sl_lightermanref07_E, fa_lightermanref07_E_Symbol, fa_lightermanref07_E_Bits, fa_lightermanref07_E_Base, bd_lightermanref06_C_0_1, fa_lightermanref07_T_Log, ln_sl_lightermanref07_E, cv_int_uint64, bd_fse_Entry_0, bd_fse_Table_1, cv_int_uint8, cv_uint_uint32, cv_uint32_uint8, ix_string, cv_uint64_uint8, c11, d3, c21, l1]
    refine al_fse_Entry fun w4 o4 x4 s4 => ?_
    refine sta_fse_Entry o4 rfl (by simp [one]) (by simp) fun w5 o5 x5 s5 => ?_
    simp only [setAll, List.set_cons_zero, List.set_cons_succ] at o5
    have x35 : Ext w2 w5 nob := (x3.seq x4).new x5 x3.size
    have k0 := o5.cell (off := 0)
    have k1 := o5.cell (off := 1)
    have k2 := o5.cell (off := 2)
    have od := own_dr o5
    have k0d := od.cell (off := 0)
    have k1d := od.cell (off := 1)
    have k2d := od.cell (off := 2)
    have o2d := own_dr (o2.ext x35 (fun h => h))
    have obd := own_dr (ob2.ext x35 (fun h => h))
    have c21' := (o2.ext x35 (fun h => h)).cell (off := 1)
    have c21d := o2d.cell (off := 1)
    have r1 := (ob2.ext x35 (fun h => h)).cell (off := i * 3)
    have r2 := (ob2.ext x35 (fun h => h)).cell (off := i * 3 + 1)
    have r3 := (ob2.ext x35 (fun h => h)).cell (off := i * 3 + 2)
    have r1d := obd.cell (off := i * 3)
    have r2d := obd.cell (off := i * 3 + 1)
    have r3d := obd.cell (off := i * 3 + 2)
    rw [q1] at r1 r1d
    rw [q2] at r2 r2d
    rw [q3] at r3 r3d
    simp only [Value.cells, List.getElem?_cons_zero, List.getElem?_cons_succ] at k0 k1 k2 k0d k1d k2d c21' c21d
    have hw : IntKind.i64.wrap e1 = e1 := w_i64 (by omega) (by omega)
    have f1 : (e1 != e1) = false := by simp
    have f2 : (e2 != e2) = false := by simp
    have f3 : (e3 != e3) = false := by simp
    simp (disch := omega) only [Stp, Same, stepR_value, stepR_skip, r_add, r_sub, r_mul, r_quo, r_rem, r_and, r_or, r_xor, r_andNot, r_shl, r_shr, r_eql, r_neq, r_lss, r_leq, r_gtr, r_geq, r_neg, r_cpl, r_not, r_pick, r_min, r_max, r_nil, x20, x21, x30, x31, x32, x40, x41, x42, x43, ldC_some, Result.ok.injEq, Next.value.injEq, true_and, and_true, w_i64, w_u64, w_i32, w_u32, w_u16, w_u8, Int.toNat_natCast, isB_tt, isB_tf, isB_ft, isB_ff, Gd_true, Gd_false, Gs_true, Gs_false, Cnd_true, Cnd_false, if_true, if_false, Bool.false_eq_true, Nat.zero_add, Option.isNone_some, Option.isNone_none, Bool.not_true, Bool.not_false, List.getElem?_cons_succ, List.getElem?_cons_zero, fa_normal_Counts_Part, ld_sl_int, ln_sl_int, fa_normal_Counts_Log, ld_int, fa_fse_Table_Entries, ld_sl_fse_Entry, ln_sl_fse_Entry, ia_sl_fse_Entry, fa_fse_Entry_Symbol, ld_uint8, ia_ar256_int, ia_sl_int, cv_uint8_int, fa_fse_Entry_Bits, fa_fse_Table_Log, fa_fse_Entry_Base, cv_uint16_int, cv_int_uint, bneq_bool, cv_uint64_int, bd_normal_Counts_0_1, bd_normal_Counts_, bd_fse_Table_, bd_fse_Table_0_1, bd_lightermanref07_T_, fa_lightermanref06_C_Log, bd_lightermanref07_T_0, fa_lightermanref07_T_L, ld_sl_lightermanref07_E, bd_lightermanref07_E_0, fa_lightermanref06_C_Part, ia_sl_lightermanref07_E, fa_lightermanref07_E_Symbol, fa_lightermanref07_E_Bits, fa_lightermanref07_E_Base, bd_lightermanref06_C_0_1, fa_lightermanref07_T_Log, ln_sl_lightermanref07_E, cv_int_uint64, bd_fse_Entry_0, bd_fse_Table_1, cv_int_uint8, cv_uint_uint32, cv_uint32_uint8, ix_string, cv_uint64_uint8, k0, k1, k2, k0d, k1d, k2d, c21', c21d, r1, r2, r3, r1d, r2d, r3d, hw, f1, f2, f3]
    exact ⟨L.length - (i + 1), by omega, i + 1, rfl, rfl, by omega, x35.seq (Ext.dr _ _)⟩
  · have d3 : decide ((i : Int) < (L.length : Int)) = false := by simp; omega
    unfold law07_sameTable_p1
    simp (disch := omega) only [Stp, Same, stepR_value, stepR_skip, r_add, r_sub, r_mul, r_quo, r_rem, r_and, r_or, r_xor, r_andNot, r_shl, r_shr, r_eql, r_neq, r_lss, r_leq, r_gtr, r_geq, r_neg, r_cpl, r_not, r_pick, r_min, r_max, r_nil, x20, x21, x30, x31, x32, x40, x41, x42, x43, ldC_some, Result.ok.injEq, Next.value.injEq, true_and, and_true, w_i64, w_u64, w_i32, w_u32, w_u16, w_u8, Int.toNat_natCast, isB_tt, isB_tf, isB_ft, isB_ff, Gd_true, Gd_false, Gs_true, Gs_false, Cnd_true, Cnd_false, if_true, if_false, Bool.false_eq_true, Nat.zero_add, Option.isNone_some, Option.isNone_none, Bool.not_true, Bool.not_false, List.getElem?_cons_succ, List.getElem?_cons_zero, fa_normal_Counts_Part, ld_sl_int, ln_sl_int, fa_normal_Counts_Log, ld_int, fa_fse_Table_Entries, ld_sl_fse_Entry, ln_sl_fse_Entry, ia_sl_fse_Entry, fa_fse_Entry_Symbol, ld_uint8, ia_ar256_int, ia_sl_int, cv_uint8_int, fa_fse_Entry_Bits, fa_fse_Table_Log, fa_fse_Entry_Base, cv_uint16_int, cv_int_uint, bneq_bool, cv_uint64_int, bd_normal_Counts_0_1, bd_normal_Counts_, bd_fse_Table_, bd_fse_Table_0_1, bd_lightermanref07_T_, fa_lightermanref06_C_Log, bd_lightermanref07_T_0, fa_lightermanref07_T_L, ld_sl_lightermanref07_E, bd_lightermanref07_E_0, fa_lightermanref06_C_Part, ia_sl_lightermanref07_E, fa_lightermanref07_E_Symbol, fa_lightermanref07_E_Bits, fa_lightermanref07_E_Base, bd_lightermanref06_C_0_1, fa_lightermanref07_T_Log, ln_sl_lightermanref07_E, cv_int_uint64, bd_fse_Entry_0, bd_fse_Table_1, cv_int_uint8, cv_uint_uint32, cv_uint32_uint8, ix_string, cv_uint64_uint8, c21, d3]
    exact x02.seq x3

theorem buildL_sy {log : Nat} {ps : List Int} (hm : May log ps) : ∀ e ∈ buildL log ps, 0 ≤ e.1 ∧ e.1 < 256 := by
  intro e he
  obtain ⟨i, hi, rfl⟩ := List.getElem_of_mem he
  have h2 : i < 2 ^ log := by rw [buildL_length] at hi; exact hi
  rw [buildL_fst log ps h2]
  obtain ⟨s, hs, e, _⟩ := kAt_bd hm (spread_lay hm 0) h2
  have := hm.len256
  rw [e]; omega

theorem fseBuilds_c {log : Int} {sv : Value} {ps : List Int} {w : World} (hs : Sl w sv (ps.map (Value.int .i64))) (hl : ps.length ≤ 9223372036854775807) :
    Does pg F_law07_FseBuilds #[.agg #[.int .i64 log, sv]] w (fun r w' => r = .bool true ∧ Ext w w' nob) := by
  refine law07_FseBuilds_does ?_
  unfold law07_FseBuilds law07_FseBuilds_p1
  obtain ⟨a, c, hv, hc⟩ := hs.lenI
  refine stp_box fun w1 o1 x1 s1 => ?_
  refine (awake7_c w1).mono ?_
  rintro r w2 ⟨rfl, x2⟩
  have o1 := o1.ext x2 (fun h => h)
  have x02 := x1.seq x2
  have hs2 := hs.ext x02 (inB_nob _)
  have c0 := o1.cell (off := 0)
  have c1 := o1.cell (off := 1)
  have l1 := lda_normal_Counts (off := 0) o1 (by simp [Value.cells])
  simp only [Value.cells, List.drop_zero, List.take_succ_cons, List.take_zero, List.getElem?_cons_zero, List.getElem?_cons_succ] at l1 c0 c1
  subst hv
  by_cases h1 : 300 < ps.length
  · have d1 : decide ((300 : Int) < (ps.length : Int)) = true := by simp; omega
    simp (disch := omega) only [Stp, Same, stepR_value, stepR_skip, r_add, r_sub, r_mul, r_quo, r_rem, r_and, r_or, r_xor, r_andNot, r_shl, r_shr, r_eql, r_neq, r_lss, r_leq, r_gtr, r_geq, r_neg, r_cpl, r_not, r_pick, r_min, r_max, r_nil, x20, x21, x30, x31, x32, x40, x41, x42, x43, ldC_some, Result.ok.injEq, Next.value.injEq, true_and, and_true, w_i64, w_u64, w_i32, w_u32, w_u16, w_u8, Int.toNat_natCast, isB_tt, isB_tf, isB_ft, isB_ff, Gd_true, Gd_false, Gs_true, Gs_false, Cnd_true, Cnd_false, if_true, if_false, Bool.false_eq_true, Nat.zero_add, Option.isNone_some, Option.isNone_none, Bool.not_true, Bool.not_false, List.getElem?_cons_succ, List.getElem?_cons_zero, fa_normal_Counts_Part, ld_sl_int, ln_sl_int, fa_normal_Counts_Log, ld_int, fa_fse_Table_Entries, ld_sl_fse_Entry, ln_sl_fse_Entry, ia_sl_fse_Entry, fa_fse_Entry_Symbol, ld_uint8, ia_ar256_int, ia_sl_int, cv_uint8_int, fa_fse_Entry_Bits, fa_fse_Table_Log, fa_fse_Entry_Base, cv_uint16_int, cv_int_uint, bneq_bool, cv_uint64_int, bd_normal_Counts_0_1, bd_normal_Counts_, bd_fse_Table_, bd_fse_Table_0_1, bd_lightermanref07_T_, fa_lightermanref06_C_Log, bd_lightermanref07_T_0, fa_lightermanref07_T_L, ld_sl_lightermanref07_E, bd_lightermanref07_E_0, fa_lightermanref06_C_Part, ia_sl_lightermanref07_E, fa_lightermanref07_E_Symbol, fa_lightermanref07_E_Bits, fa_lightermanref07_E_Base, bd_lightermanref06_C_0_1, fa_lightermanref07_T_Log, ln_sl_lightermanref07_E, cv_int_uint64, bd_fse_Entry_0, bd_fse_Table_1, cv_int_uint8, cv_uint_uint32, cv_uint32_uint8, ix_string, cv_uint64_uint8, c0, c1, d1]
    exact x02
  have d1 : decide ((300 : Int) < (ps.length : Int)) = false := by simp; omega
  by_cases h2 : 10 < log ∧ log ≤ 15
  · have d2 : decide ((10 : Int) < log) = true := by simpa using h2.1
    have d3 : decide (log ≤ 15) = true := by simpa using h2.2
    simp (disch := omega) only [Stp, Same, stepR_value, stepR_skip, r_add, r_sub, r_mul, r_quo, r_rem, r_and, r_or, r_xor, r_andNot, r_shl, r_shr, r_eql, r_neq, r_lss, r_leq, r_gtr, r_geq, r_neg, r_cpl, r_not, r_pick, r_min, r_max, r_nil, x20, x21, x30, x31, x32, x40, x41, x42, x43, ldC_some, Result.ok.injEq, Next.value.injEq, true_and, and_true, w_i64, w_u64, w_i32, w_u32, w_u16, w_u8, Int.toNat_natCast, isB_tt, isB_tf, isB_ft, isB_ff, Gd_true, Gd_false, Gs_true, Gs_false, Cnd_true, Cnd_false, if_true, if_false, Bool.false_eq_true, Nat.zero_add, Option.isNone_some, Option.isNone_none, Bool.not_true, Bool.not_false, List.getElem?_cons_succ, List.getElem?_cons_zero, fa_normal_Counts_Part, ld_sl_int, ln_sl_int, fa_normal_Counts_Log, ld_int, fa_fse_Table_Entries, ld_sl_fse_Entry, ln_sl_fse_Entry, ia_sl_fse_Entry, fa_fse_Entry_Symbol, ld_uint8, ia_ar256_int, ia_sl_int, cv_uint8_int, fa_fse_Entry_Bits, fa_fse_Table_Log, fa_fse_Entry_Base, cv_uint16_int, cv_int_uint, bneq_bool, cv_uint64_int, bd_normal_Counts_0_1, bd_normal_Counts_, bd_fse_Table_, bd_fse_Table_0_1, bd_lightermanref07_T_, fa_lightermanref06_C_Log, bd_lightermanref07_T_0, fa_lightermanref07_T_L, ld_sl_lightermanref07_E, bd_lightermanref07_E_0, fa_lightermanref06_C_Part, ia_sl_lightermanref07_E, fa_lightermanref07_E_Symbol, fa_lightermanref07_E_Bits, fa_lightermanref07_E_Base, bd_lightermanref06_C_0_1, fa_lightermanref07_T_Log, ln_sl_lightermanref07_E, cv_int_uint64, bd_fse_Entry_0, bd_fse_Table_1, cv_int_uint8, cv_uint_uint32, cv_uint32_uint8, ix_string, cv_uint64_uint8, c0, c1, d1, d2, d3]
    exact x02
  have hcase : decide ((10 : Int) < log) = false ∨ (decide ((10 : Int) < log) = true ∧ decide (log ≤ 15) = false) := by
    by_cases h : 10 < log
    · exact .inr ⟨by simpa using h, by simp; omega⟩
    · exact .inl (by simpa using h)
  cases hmay : mayB log ps with
  | false =>
    rcases hcase with d2 | ⟨d2, d3⟩
    case' inl => simp (disch := omega) only [Stp, Same, stepR_value, stepR_skip, r_add, r_sub, r_mul, r_quo, r_rem, r_and, r_or, r_xor, r_andNot, r_shl, r_shr, r_eql, r_neq, r_lss, r_leq, r_gtr, r_geq, r_neg, r_cpl, r_not, r_pick, r_min, r_max, r_nil, x20, x21, x30, x31, x32, x40, x41, x42, x43, ldC_some, Result.ok.injEq, Next.value.injEq, true_and, and_true, w_i64, w_u64, w_i32, w_u32, w_u16, w_u8, Int.toNat_natCast, isB_tt, isB_tf, isB_ft, isB_ff, Gd_true, Gd_false, Gs_true, Gs_false, Cnd_true, Cnd_false, if_true, if_false, Bool.false_eq_true, Nat.zero_add, Option.isNone_some, Option.isNone_none, Bool.not_true, Bool.not_false, List.getElem?_cons_succ, List.getElem?_cons_zero, fa_normal_Counts_Part, ld_sl_int, ln_sl_int, fa_normal_Counts_Log, ld_int, fa_fse_Table_Entries, ld_sl_fse_Entry, ln_sl_fse_Entry, ia_sl_fse_Entry, fa_fse_Entry_Symbol, ld_uint8, ia_ar256_int, ia_sl_int, cv_uint8_int, fa_fse_Entry_Bits, fa_fse_Table_Log, fa_fse_Entry_Base, cv_uint16_int, cv_int_uint, bneq_bool, cv_uint64_int, bd_normal_Counts_0_1, bd_normal_Counts_, bd_fse_Table_, bd_fse_Table_0_1, bd_lightermanref07_T_, fa_lightermanref06_C_Log, bd_lightermanref07_T_0, fa_lightermanref07_T_L, ld_sl_lightermanref07_E, bd_lightermanref07_E_0, fa_lightermanref06_C_Part, ia_sl_lightermanref07_E, fa_lightermanref07_E_Symbol, fa_lightermanref07_E_Bits, fa_lightermanref07_E_Base, bd_lightermanref06_C_0_1, fa_lightermanref07_T_Log, ln_sl_lightermanref07_E, cv_int_uint64, bd_fse_Entry_0, bd_fse_Table_1, cv_int_uint8, cv_uint_uint32, cv_uint32_uint8, ix_string, cv_uint64_uint8, c0, c1, d1, d2, l1]
    case' inr => simp (disch := omega) only [Stp, Same, stepR_value, stepR_skip, r_add, r_sub, r_mul, r_quo, r_rem, r_and, r_or, r_xor, r_andNot, r_shl, r_shr, r_eql, r_neq, r_lss, r_leq, r_gtr, r_geq, r_neg, r_cpl, r_not, r_pick, r_min, r_max, r_nil, x20, x21, x30, x31, x32, x40, x41, x42, x43, ldC_some, Result.ok.injEq, Next.value.injEq, true_and, and_true, w_i64, w_u64, w_i32, w_u32, w_u16, w_u8, Int.toNat_natCast, isB_tt, isB_tf, isB_ft, isB_ff, Gd_true, Gd_false, Gs_true, Gs_false, Cnd_true, Cnd_false, if_true, if_false, Bool.false_eq_true, Nat.zero_add, Option.isNone_some, Option.isNone_none, Bool.not_true, Bool.not_false, List.getElem?_cons_succ, List.getElem?_cons_zero, fa_normal_Counts_Part, ld_sl_int, ln_sl_int, fa_normal_Counts_Log, ld_int, fa_fse_Table_Entries, ld_sl_fse_Entry, ln_sl_fse_Entry, ia_sl_fse_Entry, fa_fse_Entry_Symbol, ld_uint8, ia_ar256_int, ia_sl_int, cv_uint8_int, fa_fse_Entry_Bits, fa_fse_Table_Log, fa_fse_Entry_Base, cv_uint16_int, cv_int_uint, bneq_bool, cv_uint64_int, bd_normal_Counts_0_1, bd_normal_Counts_, bd_fse_Table_, bd_fse_Table_0_1, bd_lightermanref07_T_, fa_lightermanref06_C_Log, bd_lightermanref07_T_0, fa_lightermanref07_T_L, ld_sl_lightermanref07_E, bd_lightermanref07_E_0, fa_lightermanref06_C_Part, ia_sl_lightermanref07_E, fa_lightermanref07_E_Symbol, fa_lightermanref07_E_Bits, fa_lightermanref07_E_Base, bd_lightermanref06_C_0_1, fa_lightermanref07_T_Log, ln_sl_lightermanref07_E, cv_int_uint64, bd_fse_Entry_0, bd_fse_Table_1, cv_int_uint8, cv_uint_uint32, cv_uint32_uint8, ix_string, cv_uint64_uint8, c0, c1, d1, d2, d3, l1]
    all_goals
      refine (build_bad hmay hs2 hl).mono ?_
      rintro r w3 ⟨rfl, x3⟩
      simp (disch := omega) only [Stp, Same, stepR_value, stepR_skip, r_add, r_sub, r_mul, r_quo, r_rem, r_and, r_or, r_xor, r_andNot, r_shl, r_shr, r_eql, r_neq, r_lss, r_leq, r_gtr, r_geq, r_neg, r_cpl, r_not, r_pick, r_min, r_max, r_nil, x20, x21, x30, x31, x32, x40, x41, x42, x43, ldC_some, Result.ok.injEq, Next.value.injEq, true_and, and_true, w_i64, w_u64, w_i32, w_u32, w_u16, w_u8, Int.toNat_natCast, isB_tt, isB_tf, isB_ft, isB_ff, Gd_true, Gd_false, Gs_true, Gs_false, Cnd_true, Cnd_false, if_true, if_false, Bool.false_eq_true, Nat.zero_add, Option.isNone_some, Option.isNone_none, Bool.not_true, Bool.not_false, List.getElem?_cons_succ, List.getElem?_cons_zero, fa_normal_Counts_Part, ld_sl_int, ln_sl_int, fa_normal_Counts_Log, ld_int, fa_fse_Table_Entries, ld_sl_fse_Entry, ln_sl_fse_Entry, ia_sl_fse_Entry, fa_fse_Entry_Symbol, ld_uint8, ia_ar256_int, ia_sl_int, cv_uint8_int, fa_fse_Entry_Bits, fa_fse_Table_Log, fa_fse_Entry_Base, cv_uint16_int, cv_int_uint, bneq_bool, cv_uint64_int, bd_normal_Counts_0_1, bd_normal_Counts_, bd_fse_Table_, bd_fse_Table_0_1, bd_lightermanref07_T_, fa_lightermanref06_C_Log, bd_lightermanref07_T_0, fa_lightermanref07_T_L, ld_sl_lightermanref07_E, bd_lightermanref07_E_0, fa_lightermanref06_C_Part, ia_sl_lightermanref07_E, fa_lightermanref07_E_Symbol, fa_lightermanref07_E_Bits, fa_lightermanref07_E_Base, bd_lightermanref06_C_0_1, fa_lightermanref07_T_Log, ln_sl_lightermanref07_E, cv_int_uint64, bd_fse_Entry_0, bd_fse_Table_1, cv_int_uint8, cv_uint_uint32, cv_uint32_uint8, ix_string, cv_uint64_uint8]
      refine al_fse_Table fun w4 o4 x4 s4 => ?_
      refine sta_fse_Table o4 rfl (by simp [one]) (by simp) fun w5 o5 x5 s5 => ?_
      simp only [setAll, List.set_cons_zero, List.set_cons_succ] at o5
      have z1 := o1.lt
      have z3 := x3.size
      have z02 := x02.size
      have x05 : Ext w w5 nob := ((x02.seq x3).seq x4).new x5 (by omega)
      have o15 := (((o1.ext x3 (fun h => h)).ext x4 (fun h => h))).ext x5 (by omega)
      have l15 := lda_normal_Counts (off := 0) o15 (by simp [Value.cells])
      simp only [Value.cells, List.drop_zero, List.take_succ_cons, List.take_zero] at l15
      simp (disch := omega) only [Stp, Same, stepR_value, stepR_skip, r_add, r_sub, r_mul, r_quo, r_rem, r_and, r_or, r_xor, r_andNot, r_shl, r_shr, r_eql, r_neq, r_lss, r_leq, r_gtr, r_geq, r_neg, r_cpl, r_not, r_pick, r_min, r_max, r_nil, x20, x21, x30, x31, x32, x40, x41, x42, x43, ldC_some, Result.ok.injEq, Next.value.injEq, true_and, and_true, w_i64, w_u64, w_i32, w_u32, w_u16, w_u8, Int.toNat_natCast, isB_tt, isB_tf, isB_ft, isB_ff, Gd_true, Gd_false, Gs_true, Gs_false, Cnd_true, Cnd_false, if_true, if_false, Bool.false_eq_true, Nat.zero_add, Option.isNone_some, Option.isNone_none, Bool.not_true, Bool.not_false, List.getElem?_cons_succ, List.getElem?_cons_zero, fa_normal_Counts_Part, ld_sl_int, ln_sl_int, fa_normal_Counts_Log, ld_int, fa_fse_Table_Entries, ld_sl_fse_Entry, ln_sl_fse_Entry, ia_sl_fse_Entry, fa_fse_Entry_Symbol, ld_uint8, ia_ar256_int, ia_sl_int, cv_uint8_int, fa_fse_Entry_Bits, fa_fse_Table_Log, fa_fse_Entry_Base, cv_uint16_int, cv_int_uint, bneq_bool, cv_uint64_int, bd_normal_Counts_0_1, bd_normal_Counts_, bd_fse_Table_, bd_fse_Table_0_1, bd_lightermanref07_T_, fa_lightermanref06_C_Log, bd_lightermanref07_T_0, fa_lightermanref07_T_L, ld_sl_lightermanref07_E, bd_lightermanref07_E_0, fa_lightermanref06_C_Part, ia_sl_lightermanref07_E, fa_lightermanref07_E_Symbol, fa_lightermanref07_E_Bits, fa_lightermanref07_E_Base, bd_lightermanref06_C_0_1, fa_lightermanref07_T_Log, ln_sl_lightermanref07_E, cv_int_uint64, bd_fse_Entry_0, bd_fse_Table_1, cv_int_uint8, cv_uint_uint32, cv_uint32_uint8, ix_string, cv_uint64_uint8, l15]
      refine (model7_c (hs.ext x05 (inB_nob _))).mono ?_
      rintro r w6 ⟨rfl, x6⟩
      refine (refBuild_bad hmay ((hs.ext x05 (inB_nob _)).ext x6 (inB_nob _)) hl).mono ?_
      rintro r w7 ⟨rfl, x7⟩
      simp (disch := omega) only [Stp, Same, stepR_value, stepR_skip, r_add, r_sub, r_mul, r_quo, r_rem, r_and, r_or, r_xor, r_andNot, r_shl, r_shr, r_eql, r_neq, r_lss, r_leq, r_gtr, r_geq, r_neg, r_cpl, r_not, r_pick, r_min, r_max, r_nil, x20, x21, x30, x31, x32, x40, x41, x42, x43, ldC_some, Result.ok.injEq, Next.value.injEq, true_and, and_true, w_i64, w_u64, w_i32, w_u32, w_u16, w_u8, Int.toNat_natCast, isB_tt, isB_tf, isB_ft, isB_ff, Gd_true, Gd_false, Gs_true, Gs_false, Cnd_true, Cnd_false, if_true, if_false, Bool.false_eq_true, Nat.zero_add, Option.isNone_some, Option.isNone_none, Bool.not_true, Bool.not_false, List.getElem?_cons_succ, List.getElem?_cons_zero, fa_normal_Counts_Part, ld_sl_int, ln_sl_int, fa_normal_Counts_Log, ld_int, fa_fse_Table_Entries, ld_sl_fse_Entry, ln_sl_fse_Entry, ia_sl_fse_Entry, fa_fse_Entry_Symbol, ld_uint8, ia_ar256_int, ia_sl_int, cv_uint8_int, fa_fse_Entry_Bits, fa_fse_Table_Log, fa_fse_Entry_Base, cv_uint16_int, cv_int_uint, bneq_bool, cv_uint64_int, bd_normal_Counts_0_1, bd_normal_Counts_, bd_fse_Table_, bd_fse_Table_0_1, bd_lightermanref07_T_, fa_lightermanref06_C_Log, bd_lightermanref07_T_0, fa_lightermanref07_T_L, ld_sl_lightermanref07_E, bd_lightermanref07_E_0, fa_lightermanref06_C_Part, ia_sl_lightermanref07_E, fa_lightermanref07_E_Symbol, fa_lightermanref07_E_Bits, fa_lightermanref07_E_Base, bd_lightermanref06_C_0_1, fa_lightermanref07_T_Log, ln_sl_lightermanref07_E, cv_int_uint64, bd_fse_Entry_0, bd_fse_Table_1, cv_int_uint8, cv_uint_uint32, cv_uint32_uint8, ix_string, cv_uint64_uint8]
      refine al_lightermanref07_T fun w8 o8 x8 s8 => ?_
      refine sta_lightermanref07_T o8 rfl (by simp [one]) (by simp) fun w9 o9 x9 s9 => ?_
      simp only [setAll, List.set_cons_zero, List.set_cons_succ] at o9
      have z6 := x6.size
      have z7 := x7.size
      have z5 := x05.size
      have l5 := o5.lt
      have o59 := (((o5.ext x6 (fun h => h)).ext x7 (fun h => h)).ext x8 (fun h => h)).ext x9 (by omega)
      have l59 := lda_fse_Table (off := 0) o59 (by simp [Value.cells])
      have l9 := lda_lightermanref07_T (off := 0) o9 (by simp [Value.cells])
      simp only [Value.cells, List.drop_zero, List.take_succ_cons, List.take_zero] at l59 l9
      have e1 : ((1 : Int) == (1 : Int)) = true := rfl
      simp (disch := omega) only [Stp, Same, stepR_value, stepR_skip, r_add, r_sub, r_mul, r_quo, r_rem, r_and, r_or, r_xor, r_andNot, r_shl, r_shr, r_eql, r_neq, r_lss, r_leq, r_gtr, r_geq, r_neg, r_cpl, r_not, r_pick, r_min, r_max, r_nil, x20, x21, x30, x31, x32, x40, x41, x42, x43, ldC_some, Result.ok.injEq, Next.value.injEq, true_and, and_true, w_i64, w_u64, w_i32, w_u32, w_u16, w_u8, Int.toNat_natCast, isB_tt, isB_tf, isB_ft, isB_ff, Gd_true, Gd_false, Gs_true, Gs_false, Cnd_true, Cnd_false, if_true, if_false, Bool.false_eq_true, Nat.zero_add, Option.isNone_some, Option.isNone_none, Bool.not_true, Bool.not_false, List.getElem?_cons_succ, List.getElem?_cons_zero, fa_normal_Counts_Part, ld_sl_int, ln_sl_int, fa_normal_Counts_Log, ld_int, fa_fse_Table_Entries, ld_sl_fse_Entry, ln_sl_fse_Entry, ia_sl_fse_Entry, fa_fse_Entry_Symbol, ld_uint8, ia_ar256_int, ia_sl_int, cv_uint8_int, fa_fse_Entry_Bits, fa_fse_Table_Log, fa_fse_Entry_Base, cv_uint16_int, cv_int_uint, bneq_bool, cv_uint64_int, bd_normal_Counts_0_1, bd_normal_Counts_, bd_fse_Table_, bd_fse_Table_0_1, bd_lightermanref07_T_, fa_lightermanref06_C_Log, bd_lightermanref07_T_0, fa_lightermanref07_T_L, ld_sl_lightermanref07_E, bd_lightermanref07_E_0, fa_lightermanref06_C_Part, ia_sl_lightermanref07_E, fa_lightermanref07_E_Symbol, fa_lightermanref07_E_Bits, fa_lightermanref07_E_Base, bd_lightermanref06_C_0_1, fa_lightermanref07_T_Log, ln_sl_lightermanref07_E, cv_int_uint64, bd_fse_Entry_0, bd_fse_Table_1, cv_int_uint8, cv_uint_uint32, cv_uint32_uint8, ix_string, cv_uint64_uint8, l59, l9, e1]
      refine (sameTable_nil _).mono ?_
      rintro r w10 ⟨rfl, x10⟩
      simp (disch := omega) only [Stp, Same, stepR_value, stepR_skip, r_add, r_sub, r_mul, r_quo, r_rem, r_and, r_or, r_xor, r_andNot, r_shl, r_shr, r_eql, r_neq, r_lss, r_leq, r_gtr, r_geq, r_neg, r_cpl, r_not, r_pick, r_min, r_max, r_nil, x20, x21, x30, x31, x32, x40, x41, x42, x43, ldC_some, Result.ok.injEq, Next.value.injEq, true_and, and_true, w_i64, w_u64, w_i32, w_u32, w_u16, w_u8, Int.toNat_natCast, isB_tt, isB_tf, isB_ft, isB_ff, Gd_true, Gd_false, Gs_true, Gs_false, Cnd_true, Cnd_false, if_true, if_false, Bool.false_eq_true, Nat.zero_add, Option.isNone_some, Option.isNone_none, Bool.not_true, Bool.not_false, List.getElem?_cons_succ, List.getElem?_cons_zero, fa_normal_Counts_Part, ld_sl_int, ln_sl_int, fa_normal_Counts_Log, ld_int, fa_fse_Table_Entries, ld_sl_fse_Entry, ln_sl_fse_Entry, ia_sl_fse_Entry, fa_fse_Entry_Symbol, ld_uint8, ia_ar256_int, ia_sl_int, cv_uint8_int, fa_fse_Entry_Bits, fa_fse_Table_Log, fa_fse_Entry_Base, cv_uint16_int, cv_int_uint, bneq_bool, cv_uint64_int, bd_normal_Counts_0_1, bd_normal_Counts_, bd_fse_Table_, bd_fse_Table_0_1, bd_lightermanref07_T_, fa_lightermanref06_C_Log, bd_lightermanref07_T_0, fa_lightermanref07_T_L, ld_sl_lightermanref07_E, bd_lightermanref07_E_0, fa_lightermanref06_C_Part, ia_sl_lightermanref07_E, fa_lightermanref07_E_Symbol, fa_lightermanref07_E_Bits, fa_lightermanref07_E_Base, bd_lightermanref06_C_0_1, fa_lightermanref07_T_Log, ln_sl_lightermanref07_E, cv_int_uint64, bd_fse_Entry_0, bd_fse_Table_1, cv_int_uint8, cv_uint_uint32, cv_uint32_uint8, ix_string, cv_uint64_uint8]
      exact (((((x05.seq x6).seq x7).seq x8).new x9 (by omega))).seq x10
  | true =>
    obtain ⟨l, rfl, hm⟩ := may_of hmay
    rcases hcase with d2 | ⟨d2, d3⟩
    rotate_left
    · have := hm.log15
      simp at d3 d2
      omega
    · simp (disch := omega) only [Stp, Same, stepR_value, stepR_skip, r_add, r_sub, r_mul, r_quo, r_rem, r_and, r_or, r_xor, r_andNot, r_shl, r_shr, r_eql, r_neq, r_lss, r_leq, r_gtr, r_geq, r_neg, r_cpl, r_not, r_pick, r_min, r_max, r_nil, x20, x21, x30, x31, x32, x40, x41, x42, x43, ldC_some, Result.ok.injEq, Next.value.injEq, true_and, and_true, w_i64, w_u64, w_i32, w_u32, w_u16, w_u8, Int.toNat_natCast, isB_tt, isB_tf, isB_ft, isB_ff, Gd_true, Gd_false, Gs_true, Gs_false, Cnd_true, Cnd_false, if_true, if_false, Bool.false_eq_true, Nat.zero_add, Option.isNone_some, Option.isNone_none, Bool.not_true, Bool.not_false, List.getElem?_cons_succ, List.getElem?_cons_zero, fa_normal_Counts_Part, ld_sl_int, ln_sl_int, fa_normal_Counts_Log, ld_int, fa_fse_Table_Entries, ld_sl_fse_Entry, ln_sl_fse_Entry, ia_sl_fse_Entry, fa_fse_Entry_Symbol, ld_uint8, ia_ar256_int, ia_sl_int, cv_uint8_int, fa_fse_Entry_Bits, fa_fse_Table_Log, fa_fse_Entry_Base, cv_uint16_int, cv_int_uint, bneq_bool, cv_uint64_int, bd_normal_Counts_0_1, bd_normal_Counts_, bd_fse_Table_, bd_fse_Table_0_1, bd_lightermanref07_T_, fa_lightermanref06_C_Log, bd_lightermanref07_T_0, fa_lightermanref07_T_L, ld_sl_lightermanref07_E, bd_lightermanref07_E_0, fa_lightermanref06_C_Part, ia_sl_lightermanref07_E, fa_lightermanref07_E_Symbol, fa_lightermanref07_E_Bits, fa_lightermanref07_E_Base, bd_lightermanref06_C_0_1, fa_lightermanref07_T_Log, ln_sl_lightermanref07_E, cv_int_uint64, bd_fse_Entry_0, bd_fse_Table_1, cv_int_uint8, cv_uint_uint32, cv_uint32_uint8, ix_string, cv_uint64_uint8, c0, c1, d1, d2, l1]
      refine (build_c hm hs2).mono ?_
      rintro r w3 ⟨b, v, rfl, ⟨rfl, hb, ob⟩, x3⟩
      simp (disch := omega) only [Stp, Same, stepR_value, stepR_skip, r_add, r_sub, r_mul, r_quo, r_rem, r_and, r_or, r_xor, r_andNot, r_shl, r_shr, r_eql, r_neq, r_lss, r_leq, r_gtr, r_geq, r_neg, r_cpl, r_not, r_pick, r_min, r_max, r_nil, x20, x21, x30, x31, x32, x40, x41, x42, x43, ldC_some, Result.ok.injEq, Next.value.injEq, true_and, and_true, w_i64, w_u64, w_i32, w_u32, w_u16, w_u8, Int.toNat_natCast, isB_tt, isB_tf, isB_ft, isB_ff, Gd_true, Gd_false, Gs_true, Gs_false, Cnd_true, Cnd_false, if_true, if_false, Bool.false_eq_true, Nat.zero_add, Option.isNone_some, Option.isNone_none, Bool.not_true, Bool.not_false, List.getElem?_cons_succ, List.getElem?_cons_zero, fa_normal_Counts_Part, ld_sl_int, ln_sl_int, fa_normal_Counts_Log, ld_int, fa_fse_Table_Entries, ld_sl_fse_Entry, ln_sl_fse_Entry, ia_sl_fse_Entry, fa_fse_Entry_Symbol, ld_uint8, ia_ar256_int, ia_sl_int, cv_uint8_int, fa_fse_Entry_Bits, fa_fse_Table_Log, fa_fse_Entry_Base, cv_uint16_int, cv_int_uint, bneq_bool, cv_uint64_int, bd_normal_Counts_0_1, bd_normal_Counts_, bd_fse_Table_, bd_fse_Table_0_1, bd_lightermanref07_T_, fa_lightermanref06_C_Log, bd_lightermanref07_T_0, fa_lightermanref07_T_L, ld_sl_lightermanref07_E, bd_lightermanref07_E_0, fa_lightermanref06_C_Part, ia_sl_lightermanref07_E, fa_lightermanref07_E_Symbol, fa_lightermanref07_E_Bits, fa_lightermanref07_E_Base, bd_lightermanref06_C_0_1, fa_lightermanref07_T_Log, ln_sl_lightermanref07_E, cv_int_uint64, bd_fse_Entry_0, bd_fse_Table_1, cv_int_uint8, cv_uint_uint32, cv_uint32_uint8, ix_string, cv_uint64_uint8]
      refine al_fse_Table fun w4 o4 x4 s4 => ?_
      refine sta_fse_Table o4 rfl (by simp [one]) (by simp) fun w5 o5 x5 s5 => ?_
      simp only [setAll, List.set_cons_zero, List.set_cons_succ] at o5
      have z1 := o1.lt
      have z3 := x3.size
      have z4 := x4.size
      have z02 := x02.size
      have lb := ob.lt
      have x05 : Ext w w5 nob := ((x02.seq x3).seq x4).new x5 (by omega)
      have o15 := (((o1.ext x3 (fun h => h)).ext x4 (fun h => h))).ext x5 (by omega)
      have ob5 := (ob.ext x4 (fun h => h)).ext x5 (by omega)
      have l15 := lda_normal_Counts (off := 0) o15 (by simp [Value.cells])
      simp only [Value.cells, List.drop_zero, List.take_succ_cons, List.take_zero] at l15
      simp (disch := omega) only [Stp, Same, stepR_value, stepR_skip, r_add, r_sub, r_mul, r_quo, r_rem, r_and, r_or, r_xor, r_andNot, r_shl, r_shr, r_eql, r_neq, r_lss, r_leq, r_gtr, r_geq, r_neg, r_cpl, r_not, r_pick, r_min, r_max, r_nil, x20, x21, x30, x31, x32, x40, x41, x42, x43, ldC_some, Result.ok.injEq, Next.value.injEq, true_and, and_true, w_i64, w_u64, w_i32, w_u32, w_u16, w_u8, Int.toNat_natCast, isB_tt, isB_tf, isB_ft, isB_ff, Gd_true, Gd_false, Gs_true, Gs_false, Cnd_true, Cnd_false, if_true, if_false, Bool.false_eq_true, Nat.zero_add, Option.isNone_some, Option.isNone_none, Bool.not_true, Bool.not_false, List.getElem?_cons_succ, List.getElem?_cons_zero, fa_normal_Counts_Part, ld_sl_int, ln_sl_int, fa_normal_Counts_Log, ld_int, fa_fse_Table_Entries, ld_sl_fse_Entry, ln_sl_fse_Entry, ia_sl_fse_Entry, fa_fse_Entry_Symbol, ld_uint8, ia_ar256_int, ia_sl_int, cv_uint8_int, fa_fse_Entry_Bits, fa_fse_Table_Log, fa_fse_Entry_Base, cv_uint16_int, cv_int_uint, bneq_bool, cv_uint64_int, bd_normal_Counts_0_1, bd_normal_Counts_, bd_fse_Table_, bd_fse_Table_0_1, bd_lightermanref07_T_, fa_lightermanref06_C_Log, bd_lightermanref07_T_0, fa_lightermanref07_T_L, ld_sl_lightermanref07_E, bd_lightermanref07_E_0, fa_lightermanref06_C_Part, ia_sl_lightermanref07_E, fa_lightermanref07_E_Symbol, fa_lightermanref07_E_Bits, fa_lightermanref07_E_Base, bd_lightermanref06_C_0_1, fa_lightermanref07_T_Log, ln_sl_lightermanref07_E, cv_int_uint64, bd_fse_Entry_0, bd_fse_Table_1, cv_int_uint8, cv_uint_uint32, cv_uint32_uint8, ix_string, cv_uint64_uint8, l15]
      refine (model7_c (hs.ext x05 (inB_nob _))).mono ?_
      rintro r w6 ⟨rfl, x6⟩
      refine (refBuild_c hm ((hs.ext x05 (inB_nob _)).ext x6 (inB_nob _))).mono ?_
      rintro r w7 ⟨b2, cc, rest, rfl, hb2, ob2, x7⟩
      simp (disch := omega) only [Stp, Same, stepR_value, stepR_skip, r_add, r_sub, r_mul, r_quo, r_rem, r_and, r_or, r_xor, r_andNot, r_shl, r_shr, r_eql, r_neq, r_lss, r_leq, r_gtr, r_geq, r_neg, r_cpl, r_not, r_pick, r_min, r_max, r_nil, x20, x21, x30, x31, x32, x40, x41, x42, x43, ldC_some, Result.ok.injEq, Next.value.injEq, true_and, and_true, w_i64, w_u64, w_i32, w_u32, w_u16, w_u8, Int.toNat_natCast, isB_tt, isB_tf, isB_ft, isB_ff, Gd_true, Gd_false, Gs_true, Gs_false, Cnd_true, Cnd_false, if_true, if_false, Bool.false_eq_true, Nat.zero_add, Option.isNone_some, Option.isNone_none, Bool.not_true, Bool.not_false, List.getElem?_cons_succ, List.getElem?_cons_zero, fa_normal_Counts_Part, ld_sl_int, ln_sl_int, fa_normal_Counts_Log, ld_int, fa_fse_Table_Entries, ld_sl_fse_Entry, ln_sl_fse_Entry, ia_sl_fse_Entry, fa_fse_Entry_Symbol, ld_uint8, ia_ar256_int, ia_sl_int, cv_uint8_int, fa_fse_Entry_Bits, fa_fse_Table_Log, fa_fse_Entry_Base, cv_uint16_int, cv_int_uint, bneq_bool, cv_uint64_int, bd_normal_Counts_0_1, bd_normal_Counts_, bd_fse_Table_, bd_fse_Table_0_1, bd_lightermanref07_T_, fa_lightermanref06_C_Log, bd_lightermanref07_T_0, fa_lightermanref07_T_L, ld_sl_lightermanref07_E, bd_lightermanref07_E_0, fa_lightermanref06_C_Part, ia_sl_lightermanref07_E, fa_lightermanref07_E_Symbol, fa_lightermanref07_E_Bits, fa_lightermanref07_E_Base, bd_lightermanref06_C_0_1, fa_lightermanref07_T_Log, ln_sl_lightermanref07_E, cv_int_uint64, bd_fse_Entry_0, bd_fse_Table_1, cv_int_uint8, cv_uint_uint32, cv_uint32_uint8, ix_string, cv_uint64_uint8]
      refine al_lightermanref07_T fun w8 o8 x8 s8 => ?_
      refine sta_lightermanref07_T o8 rfl (by simp [one]) (by simp) fun w9 o9 x9 s9 => ?_
      simp only [setAll, List.set_cons_zero, List.set_cons_succ] at o9
      have z6 := x6.size
      have z7 := x7.size
      have z8 := x8.size
      have z5 := x05.size
      have l5 := o5.lt
      have lb2 := ob2.lt
      have lb5 := ob5.lt
      have o59 := (((o5.ext x6 (fun h => h)).ext x7 (fun h => h)).ext x8 (fun h => h)).ext x9 (by omega)
      have ob9 := (((ob5.ext x6 (fun h => h)).ext x7 (fun h => h)).ext x8 (fun h => h)).ext x9 (by omega)
      have ob29 := (ob2.ext x8 (fun h => h)).ext x9 (by omega)
      have l59 := lda_fse_Table (off := 0) o59 (by simp [Value.cells])
      have l9 := lda_lightermanref07_T (off := 0) o9 (by simp [Value.cells])
      simp only [Value.cells, List.drop_zero, List.take_succ_cons, List.take_zero] at l59 l9
      have e1 : ((0 : Int) == (0 : Int)) = true := rfl
      simp (disch := omega) only [Stp, Same, stepR_value, stepR_skip, r_add, r_sub, r_mul, r_quo, r_rem, r_and, r_or, r_xor, r_andNot, r_shl, r_shr, r_eql, r_neq, r_lss, r_leq, r_gtr, r_geq, r_neg, r_cpl, r_not, r_pick, r_min, r_max, r_nil, x20, x21, x30, x31, x32, x40, x41, x42, x43, ldC_some, Result.ok.injEq, Next.value.injEq, true_and, and_true, w_i64, w_u64, w_i32, w_u32, w_u16, w_u8, Int.toNat_natCast, isB_tt, isB_tf, isB_ft, isB_ff, Gd_true, Gd_false, Gs_true, Gs_false, Cnd_true, Cnd_false, if_true, if_false, Bool.false_eq_true, Nat.zero_add, Option.isNone_some, Option.isNone_none, Bool.not_true, Bool.not_false, List.getElem?_cons_succ, List.getElem?_cons_zero, fa_normal_Counts_Part, ld_sl_int, ln_sl_int, fa_normal_Counts_Log, ld_int, fa_fse_Table_Entries, ld_sl_fse_Entry, ln_sl_fse_Entry, ia_sl_fse_Entry, fa_fse_Entry_Symbol, ld_uint8, ia_ar256_int, ia_sl_int, cv_uint8_int, fa_fse_Entry_Bits, fa_fse_Table_Log, fa_fse_Entry_Base, cv_uint16_int, cv_int_uint, bneq_bool, cv_uint64_int, bd_normal_Counts_0_1, bd_normal_Counts_, bd_fse_Table_, bd_fse_Table_0_1, bd_lightermanref07_T_, fa_lightermanref06_C_Log, bd_lightermanref07_T_0, fa_lightermanref07_T_L, ld_sl_lightermanref07_E, bd_lightermanref07_E_0, fa_lightermanref06_C_Part, ia_sl_lightermanref07_E, fa_lightermanref07_E_Symbol, fa_lightermanref07_E_Bits, fa_lightermanref07_E_Base, bd_lightermanref06_C_0_1, fa_lightermanref07_T_Log, ln_sl_lightermanref07_E, cv_int_uint64, bd_fse_Entry_0, bd_fse_Table_1, cv_int_uint8, cv_uint_uint32, cv_uint32_uint8, ix_string, cv_uint64_uint8, l59, l9, e1]
      have hlen : 2 ^ l = (buildL l ps).length := (buildL_length l ps).symm
      have hN2 : 2 ^ l ≤ 2 ^ 15 := Nat.pow_le_pow_right (by omega) hm.log15
      rw [hlen]
      refine (sameTable_c (by rw [← hlen]; omega) (by have := hm.log15; omega) (buildL_sy hm) ob9 ob29).mono ?_
      rintro r w10 ⟨rfl, x10⟩
      simp (disch := omega) only [Stp, Same, stepR_value, stepR_skip, r_add, r_sub, r_mul, r_quo, r_rem, r_and, r_or, r_xor, r_andNot, r_shl, r_shr, r_eql, r_neq, r_lss, r_leq, r_gtr, r_geq, r_neg, r_cpl, r_not, r_pick, r_min, r_max, r_nil, x20, x21, x30, x31, x32, x40, x41, x42, x43, ldC_some, Result.ok.injEq, Next.value.injEq, true_and, and_true, w_i64, w_u64, w_i32, w_u32, w_u16, w_u8, Int.toNat_natCast, isB_tt, isB_tf, isB_ft, isB_ff, Gd_true, Gd_false, Gs_true, Gs_false, Cnd_true, Cnd_false, if_true, if_false, Bool.false_eq_true, Nat.zero_add, Option.isNone_some, Option.isNone_none, Bool.not_true, Bool.not_false, List.getElem?_cons_succ, List.getElem?_cons_zero, fa_normal_Counts_Part, ld_sl_int, ln_sl_int, fa_normal_Counts_Log, ld_int, fa_fse_Table_Entries, ld_sl_fse_Entry, ln_sl_fse_Entry, ia_sl_fse_Entry, fa_fse_Entry_Symbol, ld_uint8, ia_ar256_int, ia_sl_int, cv_uint8_int, fa_fse_Entry_Bits, fa_fse_Table_Log, fa_fse_Entry_Base, cv_uint16_int, cv_int_uint, bneq_bool, cv_uint64_int, bd_normal_Counts_0_1, bd_normal_Counts_, bd_fse_Table_, bd_fse_Table_0_1, bd_lightermanref07_T_, fa_lightermanref06_C_Log, bd_lightermanref07_T_0, fa_lightermanref07_T_L, ld_sl_lightermanref07_E, bd_lightermanref07_E_0, fa_lightermanref06_C_Part, ia_sl_lightermanref07_E, fa_lightermanref07_E_Symbol, fa_lightermanref07_E_Bits, fa_lightermanref07_E_Base, bd_lightermanref06_C_0_1, fa_lightermanref07_T_Log, ln_sl_lightermanref07_E, cv_int_uint64, bd_fse_Entry_0, bd_fse_Table_1, cv_int_uint8, cv_uint_uint32, cv_uint32_uint8, ix_string, cv_uint64_uint8]
      exact (((((x05.seq x6).seq x7).seq x8).new x9 (by omega))).seq x10
end Go.Proofs.Ytcbkdccobhkbpaa
