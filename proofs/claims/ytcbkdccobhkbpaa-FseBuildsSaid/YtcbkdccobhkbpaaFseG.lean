/- Contracts: the state that one follows; the law FseBefore. -/
import Derived.Test.YtcbkdccobhkbpaaFseE
import Derived.Test.YtcbkdccobhkbpaaPuFsc
namespace Go.Proofs.Ytcbkdccobhkbpaa
open Go Go.En Go.Pu
set_option maxRecDepth 4000
set_option linter.unusedSimpArgs false
set_option linter.unusedVariables false

/-- a table whose bits are few -/
def Low (L : List T3) : Prop := ∀ e ∈ L, ∃ n : Nat, e.2.1 = (n : Int) ∧ n ≤ 20 ∧ 0 ≤ e.2.2 ∧ e.2.2 ≤ 100000

theorem shl1 {n : Nat} (h : n ≤ 20) : IntKind.i64.wrap (1 * 2 ^ (min n IntKind.i64.bits)) = ((2 ^ n : Nat) : Int) := by
  have : ∀ k : Fin 21, IntKind.i64.wrap (1 * 2 ^ (min k.val IntKind.i64.bits)) = ((2 ^ k.val : Nat) : Int) := by decide
  exact this ⟨n, by omega⟩
theorem shl1u {n : Nat} (h : n ≤ 20) : IntKind.u64.wrap (1 * 2 ^ (min n IntKind.u64.bits)) = ((2 ^ n : Nat) : Int) := by
  have : ∀ k : Fin 21, IntKind.u64.wrap (1 * 2 ^ (min k.val IntKind.u64.bits)) = ((2 ^ k.val : Nat) : Int) := by decide
  exact this ⟨n, by omega⟩

/-- what Before tells -/
def BeforeOf (L : List T3) (s sy : Int) (r : Value) : Prop :=
  (∃ (i : Nat) (e : T3), L[i]? = some e ∧ inE sy s e = true ∧ r = .tuple #[.int .i64 (i : Nat), .int .u64 (s - e.2.2), .int .i64 e.2.1, .int .i64 0]) ∨
  ((∀ (i : Nat) (e : T3), L[i]? = some e → inE sy s e = false) ∧ r = .tuple #[.int .i64 0, .int .u64 0, .int .i64 0, .int .i64 21])

theorem before_c {w : World} {base b log : Nat} {L : List T3} {v : Value} (h : Tbl w base b log L v) (hL : Low L) (hl : L.length ≤ 1000000) (s : Nat) (hs : s < L.length) (sy : Int) :
    Does pg F_fse_Before #[v, .int .i64 s, .int .u8 sy] w (fun r w' => BeforeOf L s sy r ∧ Ext w w' nob) := by
  refine fse_Before_does ?_
  obtain ⟨rfl, hb, ob⟩ := h
  unfold fse_Before fse_Before_p9 fse_Before_p8
  refine stp_box fun w1 o1 x1 s1 => ?_
  have c1 := o1.cell (off := 1)
  simp only [Value.cells, List.getElem?_cons_zero, List.getElem?_cons_succ] at c1
  have d1 : decide ((s : Int) < 0) = false := by simp
  have d2 : decide ((L.length : Int) ≤ (s : Int)) = false := by simp; omega
  simp (disch := omega) only [Stp, Same, stepR_value, stepR_skip, r_add, r_sub, r_mul, r_quo, r_rem, r_and, r_or, r_xor, r_andNot, r_shl, r_shr, r_eql, r_neq, r_lss, r_leq, r_gtr, r_geq, r_neg, r_cpl, r_not, r_pick, r_min, r_max, r_nil, x20, x21, x30, x31, x32, x40, x41, x42, x43, ldC_some, Result.ok.injEq, Next.value.injEq, true_and, and_true, w_i64, w_u64, w_i32, w_u32, w_u16, w_u8, Int.toNat_natCast, isB_tt, isB_tf, isB_ft, isB_ff, Gd_true, Gd_false, Gs_true, Gs_false, Cnd_true, Cnd_false, if_true, if_false, Bool.false_eq_true, Nat.zero_add, Option.isNone_some, Option.isNone_none, Bool.not_true, Bool.not_false, List.getElem?_cons_succ, List.getElem?_cons_zero, fa_normal_Counts_Part, ld_sl_int, ln_sl_int, fa_normal_Counts_Log, ld_int, fa_fse_Table_Entries, ld_sl_fse_Entry, ln_sl_fse_Entry, ia_sl_fse_Entry, fa_fse_Entry_Symbol, ld_uint8, ia_ar256_int, ia_sl_int, cv_uint8_int, fa_fse_Entry_Bits, fa_fse_Table_Log, fa_fse_Entry_Base, cv_uint16_int, cv_int_uint, bneq_bool, cv_uint64_int, bd_normal_Counts_0_1, bd_normal_Counts_, bd_fse_Table_, bd_fse_Table_0_1, bd_lightermanref07_T_, fa_lightermanref06_C_Log, bd_lightermanref07_T_0, fa_lightermanref07_T_L, ld_sl_lightermanref07_E, bd_lightermanref07_E_0, fa_lightermanref06_C_Part, ia_sl_lightermanref07_E, fa_lightermanref07_E_Symbol, fa_lightermanref07_E_Bits, fa_lightermanref07_E_Base, bd_lightermanref06_C_0_1, fa_lightermanref07_T_Log, ln_sl_lightermanref07_E, cv_int_uint64, bd_fse_Entry_0, bd_fse_Table_1, cv_int_uint8, cv_uint_uint32, cv_uint32_uint8, ix_string, cv_uint64_uint8, c1, d1, d2]
  unfold fse_Before_p7 fse_Before_p6 fse_Before_p5 fse_Before_p4 fse_Before_p3
  simp (disch := omega) only [Stp, Same, stepR_value, stepR_skip, r_add, r_sub, r_mul, r_quo, r_rem, r_and, r_or, r_xor, r_andNot, r_shl, r_shr, r_eql, r_neq, r_lss, r_leq, r_gtr, r_geq, r_neg, r_cpl, r_not, r_pick, r_min, r_max, r_nil, x20, x21, x30, x31, x32, x40, x41, x42, x43, ldC_some, Result.ok.injEq, Next.value.injEq, true_and, and_true, w_i64, w_u64, w_i32, w_u32, w_u16, w_u8, Int.toNat_natCast, isB_tt, isB_tf, isB_ft, isB_ff, Gd_true, Gd_false, Gs_true, Gs_false, Cnd_true, Cnd_false, if_true, if_false, Bool.false_eq_true, Nat.zero_add, Option.isNone_some, Option.isNone_none, Bool.not_true, Bool.not_false, List.getElem?_cons_succ, List.getElem?_cons_zero, fa_normal_Counts_Part, ld_sl_int, ln_sl_int, fa_normal_Counts_Log, ld_int, fa_fse_Table_Entries, ld_sl_fse_Entry, ln_sl_fse_Entry, ia_sl_fse_Entry, fa_fse_Entry_Symbol, ld_uint8, ia_ar256_int, ia_sl_int, cv_uint8_int, fa_fse_Entry_Bits, fa_fse_Table_Log, fa_fse_Entry_Base, cv_uint16_int, cv_int_uint, bneq_bool, cv_uint64_int, bd_normal_Counts_0_1, bd_normal_Counts_, bd_fse_Table_, bd_fse_Table_0_1, bd_lightermanref07_T_, fa_lightermanref06_C_Log, bd_lightermanref07_T_0, fa_lightermanref07_T_L, ld_sl_lightermanref07_E, bd_lightermanref07_E_0, fa_lightermanref06_C_Part, ia_sl_lightermanref07_E, fa_lightermanref07_E_Symbol, fa_lightermanref07_E_Bits, fa_lightermanref07_E_Base, bd_lightermanref06_C_0_1, fa_lightermanref07_T_Log, ln_sl_lightermanref07_E, cv_int_uint64, bd_fse_Entry_0, bd_fse_Table_1, cv_int_uint8, cv_uint_uint32, cv_uint32_uint8, ix_string, cv_uint64_uint8, c1]
  refine LoopD.rule (fun m t w' => ∃ i : Nat, m = L.length - i ∧ t = .int .i64 i ∧ i ≤ L.length ∧ (∀ (j : Nat) (e : T3), j < i → L[j]? = some e → inE sy s e = false) ∧ Ext w w' nob) L.length ⟨0, rfl, rfl, by omega, fun j e hj => by omega, x1⟩ ?_
  rintro m t w2 ⟨i, rfl, rfl, hi, hno, x2⟩
  unfold fse_Before_p2
  by_cases hlt : i < L.length
  · have d3 : decide ((i : Int) < (L.length : Int)) = true := by simp; omega
    have l1 := lda_fse_Entry (off := i * 3) (ob.ext x2 (fun h => h)) (by rw [fe_length]; omega)
    rw [fe_take hlt] at l1
    obtain ⟨n, hn, hn2, hb0, hb1⟩ := hL _ (List.getElem_mem hlt)
    have hge : L[i]? = some L[i] := List.getElem?_eq_getElem hlt
    have hinE : inE sy s L[i] = decide (L[i].1 = sy ∧ L[i].2.2 ≤ s ∧ (s : Int) < L[i].2.2 + ((2 ^ n : Nat) : Int)) := by
      unfold inE; rw [hn]; simp
    generalize L[i] = e at *
    obtain ⟨e1, e2, e3⟩ := e
    simp only at hn hb0 hb1 l1 hinE
    subst hn
    simp (disch := omega) only [Stp, Same, stepR_value, stepR_skip, r_add, r_sub, r_mul, r_quo, r_rem, r_and, r_or, r_xor, r_andNot, r_shl, r_shr, r_eql, r_neq, r_lss, r_leq, r_gtr, r_geq, r_neg, r_cpl, r_not, r_pick, r_min, r_max, r_nil, x20, x21, x30, x31, x32, x40, x41, x42, x43, ldC_some, Result.ok.injEq, Next.value.injEq, true_and, and_true, w_i64, w_u64, w_i32, w_u32, w_u16, w_u8, Int.toNat_natCast, isB_tt, isB_tf, isB_ft, isB_ff, Gd_true, Gd_false, Gs_true, Gs_false, Cnd_true, Cnd_false, if_true, if_false, Bool.false_eq_true, Nat.zero_add, Option.isNone_some, Option.isNone_none, Bool.not_true, Bool.not_false, List.getElem?_cons_succ, List.getElem?_cons_zero, fa_normal_Counts_Part, ld_sl_int, ln_sl_int, fa_normal_Counts_Log, ld_int, fa_fse_Table_Entries, ld_sl_fse_Entry, ln_sl_fse_Entry, ia_sl_fse_Entry, fa_fse_Entry_Symbol, ld_uint8, ia_ar256_int, ia_sl_int, cv_uint8_int, fa_fse_Entry_Bits, fa_fse_Table_Log, fa_fse_Entry_Base, cv_uint16_int, cv_int_uint, bneq_bool, cv_uint64_int, bd_normal_Counts_0_1, bd_normal_Counts_, bd_fse_Table_, bd_fse_Table_0_1, bd_lightermanref07_T_, fa_lightermanref06_C_Log, bd_lightermanref07_T_0, fa_lightermanref07_T_L, ld_sl_lightermanref07_E, bd_lightermanref07_E_0, fa_lightermanref06_C_Part, ia_sl_lightermanref07_E, fa_lightermanref07_E_Symbol, fa_lightermanref07_E_Bits, fa_lightermanref07_E_Base, bd_lightermanref06_C_0_1, fa_lightermanref07_T_Log, ln_sl_lightermanref07_E, cv_int_uint64, bd_fse_Entry_0, bd_fse_Table_1, cv_int_uint8, cv_uint_uint32, cv_uint32_uint8, ix_string, cv_uint64_uint8, d3, l1]
    refine al_fse_Entry fun w3 o3 x3 s3 => ?_
    refine sta_fse_Entry o3 rfl (by simp [one]) (by simp) fun w4 o4 x4 s4 => ?_
    simp only [setAll, List.set_cons_zero, List.set_cons_succ] at o4
    have k0 := o4.cell (off := 0)
    have k1 := o4.cell (off := 1)
    have k2 := o4.cell (off := 2)
    simp only [List.getElem?_cons_zero, List.getElem?_cons_succ] at k0 k1 k2
    have x5 : Ext w w4 nob := (x2.seq x3).new x4 x2.size
    have hsh := shl1 hn2
    have od := own_dr o4
    have k1d := od.cell (off := 1)
    simp only [List.getElem?_cons_zero, List.getElem?_cons_succ] at k1d
    have no : ∀ {b : Bool}, inE sy s (e1, (n : Int), e3) = b → b = false → ∀ (j : Nat) (e : T3), j < i + 1 → L[j]? = some e → inE sy s e = false := fun h1 h2 j e hj he => by
      by_cases hji : j = i
      · subst hji; rw [hge] at he; rw [← Option.some.inj he, h1, h2]
      · exact hno j e (by omega) he
    by_cases he : e1 = sy
    · have d4 : (e1 == sy) = true := by simpa using he
      by_cases h5 : e3 ≤ (s : Int)
      · have d5 : decide ((0 : Int) ≤ (s : Int) - e3) = true := by simp; omega
        by_cases h6 : (s : Int) - e3 < ((2 ^ n : Nat) : Int)
        · have d6 : decide ((s : Int) - e3 < ((2 ^ n : Nat) : Int)) = true := by simpa using h6
          have hw : IntKind.u64.wrap ((s : Int) - e3) = (s : Int) - e3 := w_u64 (by omega) (by omega)
          simp (disch := omega) only [Stp, Same, stepR_value, stepR_skip, r_add, r_sub, r_mul, r_quo, r_rem, r_and, r_or, r_xor, r_andNot, r_shl, r_shr, r_eql, r_neq, r_lss, r_leq, r_gtr, r_geq, r_neg, r_cpl, r_not, r_pick, r_min, r_max, r_nil, x20, x21, x30, x31, x32, x40, x41, x42, x43, ldC_some, Result.ok.injEq, Next.value.injEq, true_and, and_true, w_i64, w_u64, w_i32, w_u32, w_u16, w_u8, Int.toNat_natCast, isB_tt, isB_tf, isB_ft, isB_ff, Gd_true, Gd_false, Gs_true, Gs_false, Cnd_true, Cnd_false, if_true, if_false, Bool.false_eq_true, Nat.zero_add, Option.isNone_some, Option.isNone_none, Bool.not_true, Bool.not_false, List.getElem?_cons_succ, List.getElem?_cons_zero, fa_normal_Counts_Part, ld_sl_int, ln_sl_int, fa_normal_Counts_Log, ld_int, fa_fse_Table_Entries, ld_sl_fse_Entry, ln_sl_fse_Entry, ia_sl_fse_Entry, fa_fse_Entry_Symbol, ld_uint8, ia_ar256_int, ia_sl_int, cv_uint8_int, fa_fse_Entry_Bits, fa_fse_Table_Log, fa_fse_Entry_Base, cv_uint16_int, cv_int_uint, bneq_bool, cv_uint64_int, bd_normal_Counts_0_1, bd_normal_Counts_, bd_fse_Table_, bd_fse_Table_0_1, bd_lightermanref07_T_, fa_lightermanref06_C_Log, bd_lightermanref07_T_0, fa_lightermanref07_T_L, ld_sl_lightermanref07_E, bd_lightermanref07_E_0, fa_lightermanref06_C_Part, ia_sl_lightermanref07_E, fa_lightermanref07_E_Symbol, fa_lightermanref07_E_Bits, fa_lightermanref07_E_Base, bd_lightermanref06_C_0_1, fa_lightermanref07_T_Log, ln_sl_lightermanref07_E, cv_int_uint64, bd_fse_Entry_0, bd_fse_Table_1, cv_int_uint8, cv_uint_uint32, cv_uint32_uint8, ix_string, cv_uint64_uint8, k0, k1, k2, d4, d5, hsh, d6, k1d, hw]
          exact ⟨.inl ⟨i, _, hge, by rw [hinE, decide_eq_true ⟨he, h5, by omega⟩], rfl⟩, x5.seq (Ext.dr _ _)⟩
        · have d6 : decide ((s : Int) - e3 < ((2 ^ n : Nat) : Int)) = false := by simpa using h6
          simp (disch := omega) only [Stp, Same, stepR_value, stepR_skip, r_add, r_sub, r_mul, r_quo, r_rem, r_and, r_or, r_xor, r_andNot, r_shl, r_shr, r_eql, r_neq, r_lss, r_leq, r_gtr, r_geq, r_neg, r_cpl, r_not, r_pick, r_min, r_max, r_nil, x20, x21, x30, x31, x32, x40, x41, x42, x43, ldC_some, Result.ok.injEq, Next.value.injEq, true_and, and_true, w_i64, w_u64, w_i32, w_u32, w_u16, w_u8, Int.toNat_natCast, isB_tt, isB_tf, isB_ft, isB_ff, Gd_true, Gd_false, Gs_true, Gs_false, Cnd_true, Cnd_false, if_true, if_false, Bool.false_eq_true, Nat.zero_add, Option.isNone_some, Option.isNone_none, Bool.not_true, Bool.not_false, List.getElem?_cons_succ, List.getElem?_cons_zero, fa_normal_Counts_Part, ld_sl_int, ln_sl_int, fa_normal_Counts_Log, ld_int, fa_fse_Table_Entries, ld_sl_fse_Entry, ln_sl_fse_Entry, ia_sl_fse_Entry, fa_fse_Entry_Symbol, ld_uint8, ia_ar256_int, ia_sl_int, cv_uint8_int, fa_fse_Entry_Bits, fa_fse_Table_Log, fa_fse_Entry_Base, cv_uint16_int, cv_int_uint, bneq_bool, cv_uint64_int, bd_normal_Counts_0_1, bd_normal_Counts_, bd_fse_Table_, bd_fse_Table_0_1, bd_lightermanref07_T_, fa_lightermanref06_C_Log, bd_lightermanref07_T_0, fa_lightermanref07_T_L, ld_sl_lightermanref07_E, bd_lightermanref07_E_0, fa_lightermanref06_C_Part, ia_sl_lightermanref07_E, fa_lightermanref07_E_Symbol, fa_lightermanref07_E_Bits, fa_lightermanref07_E_Base, bd_lightermanref06_C_0_1, fa_lightermanref07_T_Log, ln_sl_lightermanref07_E, cv_int_uint64, bd_fse_Entry_0, bd_fse_Table_1, cv_int_uint8, cv_uint_uint32, cv_uint32_uint8, ix_string, cv_uint64_uint8, k0, k1, k2, d4, d5, hsh, d6]
          exact ⟨L.length - (i + 1), by omega, i + 1, rfl, rfl, by omega, no hinE (decide_eq_false (by omega)), x5⟩
      · have d5 : decide ((0 : Int) ≤ (s : Int) - e3) = false := by simp; omega
        simp (disch := omega) only [Stp, Same, stepR_value, stepR_skip, r_add, r_sub, r_mul, r_quo, r_rem, r_and, r_or, r_xor, r_andNot, r_shl, r_shr, r_eql, r_neq, r_lss, r_leq, r_gtr, r_geq, r_neg, r_cpl, r_not, r_pick, r_min, r_max, r_nil, x20, x21, x30, x31, x32, x40, x41, x42, x43, ldC_some, Result.ok.injEq, Next.value.injEq, true_and, and_true, w_i64, w_u64, w_i32, w_u32, w_u16, w_u8, Int.toNat_natCast, isB_tt, isB_tf, isB_ft, isB_ff, Gd_true, Gd_false, Gs_true, Gs_false, Cnd_true, Cnd_false, if_true, if_false, Bool.false_eq_true, Nat.zero_add, Option.isNone_some, Option.isNone_none, Bool.not_true, Bool.not_false, List.getElem?_cons_succ, List.getElem?_cons_zero, fa_normal_Counts_Part, ld_sl_int, ln_sl_int, fa_normal_Counts_Log, ld_int, fa_fse_Table_Entries, ld_sl_fse_Entry, ln_sl_fse_Entry, ia_sl_fse_Entry, fa_fse_Entry_Symbol, ld_uint8, ia_ar256_int, ia_sl_int, cv_uint8_int, fa_fse_Entry_Bits, fa_fse_Table_Log, fa_fse_Entry_Base, cv_uint16_int, cv_int_uint, bneq_bool, cv_uint64_int, bd_normal_Counts_0_1, bd_normal_Counts_, bd_fse_Table_, bd_fse_Table_0_1, bd_lightermanref07_T_, fa_lightermanref06_C_Log, bd_lightermanref07_T_0, fa_lightermanref07_T_L, ld_sl_lightermanref07_E, bd_lightermanref07_E_0, fa_lightermanref06_C_Part, ia_sl_lightermanref07_E, fa_lightermanref07_E_Symbol, fa_lightermanref07_E_Bits, fa_lightermanref07_E_Base, bd_lightermanref06_C_0_1, fa_lightermanref07_T_Log, ln_sl_lightermanref07_E, cv_int_uint64, bd_fse_Entry_0, bd_fse_Table_1, cv_int_uint8, cv_uint_uint32, cv_uint32_uint8, ix_string, cv_uint64_uint8, k0, k1, k2, d4, d5]
        exact ⟨L.length - (i + 1), by omega, i + 1, rfl, rfl, by omega, no hinE (decide_eq_false (by omega)), x5⟩
    · have d4 : (e1 == sy) = false := by simpa using he
      simp (disch := omega) only [Stp, Same, stepR_value, stepR_skip, r_add, r_sub, r_mul, r_quo, r_rem, r_and, r_or, r_xor, r_andNot, r_shl, r_shr, r_eql, r_neq, r_lss, r_leq, r_gtr, r_geq, r_neg, r_cpl, r_not, r_pick, r_min, r_max, r_nil, x20, x21, x30, x31, x32, x40, x41, x42, x43, ldC_some, Result.ok.injEq, Next.value.injEq, true_and, and_true, w_i64, w_u64, w_i32, w_u32, w_u16, w_u8, Int.toNat_natCast, isB_tt, isB_tf, isB_ft, isB_ff, Gd_true, Gd_false, Gs_true, Gs_false, Cnd_true, Cnd_false, if_true, if_false, Bool.false_eq_true, Nat.zero_add, Option.isNone_some, Option.isNone_none, Bool.not_true, Bool.not_false, List.getElem?_cons_succ, List.getElem?_cons_zero, fa_normal_Counts_Part, ld_sl_int, ln_sl_int, fa_normal_Counts_Log, ld_int, fa_fse_Table_Entries, ld_sl_fse_Entry, ln_sl_fse_Entry, ia_sl_fse_Entry, fa_fse_Entry_Symbol, ld_uint8, ia_ar256_int, ia_sl_int, cv_uint8_int, fa_fse_Entry_Bits, fa_fse_Table_Log, fa_fse_Entry_Base, cv_uint16_int, cv_int_uint, bneq_bool, cv_uint64_int, bd_normal_Counts_0_1, bd_normal_Counts_, bd_fse_Table_, bd_fse_Table_0_1, bd_lightermanref07_T_, fa_lightermanref06_C_Log, bd_lightermanref07_T_0, fa_lightermanref07_T_L, ld_sl_lightermanref07_E, bd_lightermanref07_E_0, fa_lightermanref06_C_Part, ia_sl_lightermanref07_E, fa_lightermanref07_E_Symbol, fa_lightermanref07_E_Bits, fa_lightermanref07_E_Base, bd_lightermanref06_C_0_1, fa_lightermanref07_T_Log, ln_sl_lightermanref07_E, cv_int_uint64, bd_fse_Entry_0, bd_fse_Table_1, cv_int_uint8, cv_uint_uint32, cv_uint32_uint8, ix_string, cv_uint64_uint8, k0, k1, k2, d4]
      exact ⟨L.length - (i + 1), by omega, i + 1, rfl, rfl, by omega, no hinE (decide_eq_false (by omega)), x5⟩
  · have d3 : decide ((i : Int) < (L.length : Int)) = false := by simp; omega
    unfold fse_Before_p1
    simp (disch := omega) only [Stp, Same, stepR_value, stepR_skip, r_add, r_sub, r_mul, r_quo, r_rem, r_and, r_or, r_xor, r_andNot, r_shl, r_shr, r_eql, r_neq, r_lss, r_leq, r_gtr, r_geq, r_neg, r_cpl, r_not, r_pick, r_min, r_max, r_nil, x20, x21, x30, x31, x32, x40, x41, x42, x43, ldC_some, Result.ok.injEq, Next.value.injEq, true_and, and_true, w_i64, w_u64, w_i32, w_u32, w_u16, w_u8, Int.toNat_natCast, isB_tt, isB_tf, isB_ft, isB_ff, Gd_true, Gd_false, Gs_true, Gs_false, Cnd_true, Cnd_false, if_true, if_false, Bool.false_eq_true, Nat.zero_add, Option.isNone_some, Option.isNone_none, Bool.not_true, Bool.not_false, List.getElem?_cons_succ, List.getElem?_cons_zero, fa_normal_Counts_Part, ld_sl_int, ln_sl_int, fa_normal_Counts_Log, ld_int, fa_fse_Table_Entries, ld_sl_fse_Entry, ln_sl_fse_Entry, ia_sl_fse_Entry, fa_fse_Entry_Symbol, ld_uint8, ia_ar256_int, ia_sl_int, cv_uint8_int, fa_fse_Entry_Bits, fa_fse_Table_Log, fa_fse_Entry_Base, cv_uint16_int, cv_int_uint, bneq_bool, cv_uint64_int, bd_normal_Counts_0_1, bd_normal_Counts_, bd_fse_Table_, bd_fse_Table_0_1, bd_lightermanref07_T_, fa_lightermanref06_C_Log, bd_lightermanref07_T_0, fa_lightermanref07_T_L, ld_sl_lightermanref07_E, bd_lightermanref07_E_0, fa_lightermanref06_C_Part, ia_sl_lightermanref07_E, fa_lightermanref07_E_Symbol, fa_lightermanref07_E_Bits, fa_lightermanref07_E_Base, bd_lightermanref06_C_0_1, fa_lightermanref07_T_Log, ln_sl_lightermanref07_E, cv_int_uint64, bd_fse_Entry_0, bd_fse_Table_1, cv_int_uint8, cv_uint_uint32, cv_uint32_uint8, ix_string, cv_uint64_uint8, d3]
    exact ⟨.inr ⟨fun j e he => hno j e (by
      rcases Nat.lt_or_ge j L.length with h | h
      · omega
      · rw [List.getElem?_eq_none h] at he; cases he) he, rfl⟩, x2⟩

theorem before_out {w : World} {base b log : Nat} {L : List T3} {v : Value} (h : Tbl w base b log L v) (hl : L.length ≤ 1000000) (sy : Int) :
    Does pg F_fse_Before #[v, .int .i64 L.length, .int .u8 sy] w (fun r w' => r = .tuple #[.int .i64 0, .int .u64 0, .int .i64 0, .int .i64 1] ∧ Ext w w' nob) := by
  refine fse_Before_does ?_
  obtain ⟨rfl, hb, ob⟩ := h
  unfold fse_Before fse_Before_p9 fse_Before_p8
  refine stp_box fun w1 o1 x1 s1 => ?_
  have c1 := o1.cell (off := 1)
  simp only [Value.cells, List.getElem?_cons_zero, List.getElem?_cons_succ] at c1
  have d1 : decide ((L.length : Int) < 0) = false := by simp
  have d2 : decide ((L.length : Int) ≤ (L.length : Int)) = true := by simp
  simp (disch := omega) only [Stp, Same, stepR_value, stepR_skip, r_add, r_sub, r_mul, r_quo, r_rem, r_and, r_or, r_xor, r_andNot, r_shl, r_shr, r_eql, r_neq, r_lss, r_leq, r_gtr, r_geq, r_neg, r_cpl, r_not, r_pick, r_min, r_max, r_nil, x20, x21, x30, x31, x32, x40, x41, x42, x43, ldC_some, Result.ok.injEq, Next.value.injEq, true_and, and_true, w_i64, w_u64, w_i32, w_u32, w_u16, w_u8, Int.toNat_natCast, isB_tt, isB_tf, isB_ft, isB_ff, Gd_true, Gd_false, Gs_true, Gs_false, Cnd_true, Cnd_false, if_true, if_false, Bool.false_eq_true, Nat.zero_add, Option.isNone_some, Option.isNone_none, Bool.not_true, Bool.not_false, List.getElem?_cons_succ, List.getElem?_cons_zero, fa_normal_Counts_Part, ld_sl_int, ln_sl_int, fa_normal_Counts_Log, ld_int, fa_fse_Table_Entries, ld_sl_fse_Entry, ln_sl_fse_Entry, ia_sl_fse_Entry, fa_fse_Entry_Symbol, ld_uint8, ia_ar256_int, ia_sl_int, cv_uint8_int, fa_fse_Entry_Bits, fa_fse_Table_Log, fa_fse_Entry_Base, cv_uint16_int, cv_int_uint, bneq_bool, cv_uint64_int, bd_normal_Counts_0_1, bd_normal_Counts_, bd_fse_Table_, bd_fse_Table_0_1, bd_lightermanref07_T_, fa_lightermanref06_C_Log, bd_lightermanref07_T_0, fa_lightermanref07_T_L, ld_sl_lightermanref07_E, bd_lightermanref07_E_0, fa_lightermanref06_C_Part, ia_sl_lightermanref07_E, fa_lightermanref07_E_Symbol, fa_lightermanref07_E_Bits, fa_lightermanref07_E_Base, bd_lightermanref06_C_0_1, fa_lightermanref07_T_Log, ln_sl_lightermanref07_E, cv_int_uint64, bd_fse_Entry_0, bd_fse_Table_1, cv_int_uint8, cv_uint_uint32, cv_uint32_uint8, ix_string, cv_uint64_uint8, c1, d1, d2]
  exact x1
end Go.Proofs.Ytcbkdccobhkbpaa
