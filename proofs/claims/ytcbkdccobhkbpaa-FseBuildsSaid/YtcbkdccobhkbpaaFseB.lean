/- Contract: the program lays symbols over states. -/
import Derived.Test.YtcbkdccobhkbpaaFseA
namespace Go.Proofs.Ytcbkdccobhkbpaa
open Go Go.En Go.Pu
set_option maxRecDepth 4000
set_option linter.unusedSimpArgs false
set_option linter.unusedVariables false

def m3 (L : List Int) : List T3 := L.map fun x => (x, 0, 0)
theorem m3_set (L : List Int) (i : Nat) (h : i < L.length) (x : Int) : (m3 L).set i (x, ((m3 L)[i]'(by simpa [m3] using h)).2) = m3 (L.set i x) := by
  unfold m3; rw [List.map_set]; simp
theorem m3_store {k : IntKind} {L : List Int} {i : Nat} (h : i < L.length) (x : Int) : (fe k (m3 L)).set (i * 3) (.int k x) = fe k (m3 (L.set i x)) := by
  rw [(fe_set k (m3 L) i (by simpa [m3] using h) x).1, m3_set L i h x]

theorem place_cons (n high s : Nat) (r : List Nat) (a : Nat) (arr : List Int) : place n high (s :: r) a arr = place n high r (seek n high n (adv n a)) (arr.set a s) := rfl

theorem reps_drop {ps : List Int} {i : Nat} (h : i < ps.length) : reps (ps.drop i) i = List.replicate ps[i].toNat i ++ reps (ps.drop (i + 1)) (i + 1) := by
  rw [List.drop_eq_getElem_cons h, reps]

/-- the walk to the next place below high -/
theorem seek_c {w0 w : World} {N high j : Nat} (hN : 0 < N) (hN2 : N ≤ 32768) (hh : 0 < high) (hhN : high ≤ N) (hx : Ext w0 w nob)
    {ov sv a b c d e : Value} {k : Value → Value → Value → Value → Value → Value → Value → Value → Value → Value → World → Prop}
    (hk : ∃ j', seek N high N (adv N (pos N j)) = pos N j' ∧ k (.int .i64 N) ov (.int .i64 high) (.int .i64 (pos N j' : Nat)) sv a b c d e w) :
    fse_spread_p5 k (.int .i64 N) ov (.int .i64 high) (.int .i64 (pos N j : Nat)) sv a b c d e w := by
  obtain ⟨dd, h1, h2, h3⟩ := seek_spec hN hh (j + 1)
  obtain ⟨j', hj', hk⟩ := hk
  rw [adv_pos, h3] at hj'
  rw [← hj'] at hk
  unfold fse_spread_p5
  refine LoopD.rule (fun m t w' => ∃ q : Nat, m = dd - q ∧ t = .int .i64 (pos N (j + q) : Nat) ∧ q ≤ dd ∧ w' = w) dd ⟨0, rfl, rfl, by omega, rfl⟩ ?_
  rintro m t w' ⟨q, rfl, rfl, hq, rfl⟩
  have hp := pos_lt hN (j + q)
  have e1 : ((N : Int)).fdiv (2 ^ (min 1 IntKind.i64.bits)) = ((N / 2 : Nat) : Int) := by
    have : (2 : Int) ^ (min 1 IntKind.i64.bits) = ((2 : Nat) : Int) := by decide
    rw [this, fdiv_nat]
  have e3 : ((N : Int)).fdiv (2 ^ (min 3 IntKind.i64.bits)) = ((N / 8 : Nat) : Int) := by
    have : (2 : Int) ^ (min 3 IntKind.i64.bits) = ((8 : Nat) : Int) := by decide
    rw [this, fdiv_nat]
  have t1 : (1 : Int).toNat = 1 := rfl
  have t3 : (3 : Int).toNat = 3 := rfl
  have e4 : (((pos N (j + q) : Nat) : Int) + ((N / 2 : Nat) : Int) + ((N / 8 : Nat) : Int) + 3).tmod (N : Int) = ((pos N (j + q + 1) : Nat) : Int) := by
    rw [Int.tmod_eq_emod_of_nonneg (by omega), ← adv_pos]
    unfold adv
    simp
  unfold fse_spread_p4
  by_cases hd : q = dd
  · subst hd
    have d1 : decide (((pos N (j + q + 1) : Nat) : Int) < (high : Int)) = true := by
      simp only [decide_eq_true_eq]
      rw [show j + 1 + q = j + q + 1 from by omega] at h2
      omega
    simp (disch := omega) only [Stp, Same, stepR_value, stepR_skip, r_add, r_sub, r_mul, r_quo, r_rem, r_and, r_or, r_xor, r_andNot, r_shl, r_shr, r_eql, r_neq, r_lss, r_leq, r_gtr, r_geq, r_neg, r_cpl, r_not, r_pick, r_min, r_max, r_nil, x20, x21, x30, x31, x32, x40, x41, x42, x43, ldC_some, Result.ok.injEq, Next.value.injEq, true_and, and_true, w_i64, w_u64, w_i32, w_u32, w_u16, w_u8, Int.toNat_natCast, isB_tt, isB_tf, isB_ft, isB_ff, Gd_true, Gd_false, Gs_true, Gs_false, Cnd_true, Cnd_false, if_true, if_false, Bool.false_eq_true, Nat.zero_add, Option.isNone_some, Option.isNone_none, Bool.not_true, Bool.not_false, List.getElem?_cons_succ, List.getElem?_cons_zero, fa_normal_Counts_Part, ld_sl_int, ln_sl_int, fa_normal_Counts_Log, ld_int, fa_fse_Table_Entries, ld_sl_fse_Entry, ln_sl_fse_Entry, ia_sl_fse_Entry, fa_fse_Entry_Symbol, ld_uint8, ia_ar256_int, ia_sl_int, cv_uint8_int, fa_fse_Entry_Bits, fa_fse_Table_Log, fa_fse_Entry_Base, cv_uint16_int, cv_int_uint, bneq_bool, cv_uint64_int, bd_normal_Counts_0_1, bd_normal_Counts_, bd_fse_Table_, bd_fse_Table_0_1, bd_lightermanref07_T_, fa_lightermanref06_C_Log, bd_lightermanref07_T_0, fa_lightermanref07_T_L, ld_sl_lightermanref07_E, bd_lightermanref07_E_0, fa_lightermanref06_C_Part, ia_sl_lightermanref07_E, fa_lightermanref07_E_Symbol, fa_lightermanref07_E_Bits, fa_lightermanref07_E_Base, bd_lightermanref06_C_0_1, fa_lightermanref07_T_Log, ln_sl_lightermanref07_E, cv_int_uint64, bd_fse_Entry_0, bd_fse_Table_1, cv_int_uint8, cv_uint_uint32, cv_uint32_uint8, ix_string, cv_uint64_uint8, e1, e3, t1, t3, e4, d1]
    rw [show j + 1 + q = j + q + 1 from by omega] at hk
    exact hk
  · have d1 : decide (((pos N (j + q + 1) : Nat) : Int) < (high : Int)) = false := by
      have := h1 q (by omega)
      rw [show j + 1 + q = j + q + 1 from by omega] at this
      simp only [decide_eq_false_iff_not]
      omega
    simp (disch := omega) only [Stp, Same, stepR_value, stepR_skip, r_add, r_sub, r_mul, r_quo, r_rem, r_and, r_or, r_xor, r_andNot, r_shl, r_shr, r_eql, r_neq, r_lss, r_leq, r_gtr, r_geq, r_neg, r_cpl, r_not, r_pick, r_min, r_max, r_nil, x20, x21, x30, x31, x32, x40, x41, x42, x43, ldC_some, Result.ok.injEq, Next.value.injEq, true_and, and_true, w_i64, w_u64, w_i32, w_u32, w_u16, w_u8, Int.toNat_natCast, isB_tt, isB_tf, isB_ft, isB_ff, Gd_true, Gd_false, Gs_true, Gs_false, Cnd_true, Cnd_false, if_true, if_false, Bool.false_eq_true, Nat.zero_add, Option.isNone_some, Option.isNone_none, Bool.not_true, Bool.not_false, List.getElem?_cons_succ, List.getElem?_cons_zero, fa_normal_Counts_Part, ld_sl_int, ln_sl_int, fa_normal_Counts_Log, ld_int, fa_fse_Table_Entries, ld_sl_fse_Entry, ln_sl_fse_Entry, ia_sl_fse_Entry, fa_fse_Entry_Symbol, ld_uint8, ia_ar256_int, ia_sl_int, cv_uint8_int, fa_fse_Entry_Bits, fa_fse_Table_Log, fa_fse_Entry_Base, cv_uint16_int, cv_int_uint, bneq_bool, cv_uint64_int, bd_normal_Counts_0_1, bd_normal_Counts_, bd_fse_Table_, bd_fse_Table_0_1, bd_lightermanref07_T_, fa_lightermanref06_C_Log, bd_lightermanref07_T_0, fa_lightermanref07_T_L, ld_sl_lightermanref07_E, bd_lightermanref07_E_0, fa_lightermanref06_C_Part, ia_sl_lightermanref07_E, fa_lightermanref07_E_Symbol, fa_lightermanref07_E_Bits, fa_lightermanref07_E_Base, bd_lightermanref06_C_0_1, fa_lightermanref07_T_Log, ln_sl_lightermanref07_E, cv_int_uint64, bd_fse_Entry_0, bd_fse_Table_1, cv_int_uint8, cv_uint_uint32, cv_uint32_uint8, ix_string, cv_uint64_uint8, e1, e3, t1, t3, e4, d1]
    exact ⟨dd - (q + 1), by omega, q + 1, rfl, rfl, by omega⟩

theorem spread_c {log : Nat} {sv : Value} {ps : List Int} {w : World} (hm : May log ps) (hs : Sl w sv (ps.map (Value.int .i64))) :
    Does pg F_fse_spread #[.agg #[.int .i64 log, sv]] w (fun r w' => ∃ b, r = .slice (some ⟨b, 0, none⟩) (2 ^ log) (2 ^ log) ∧ w.heap.size ≤ b ∧ Own w' b (fe .u8 (m3 (spreadL 0 log ps))) ∧ Ext w w' nob) := by
  refine fse_spread_does ?_
  have h5 := hm.log5
  have h15 := hm.log15
  have hlen := hm.len256
  obtain ⟨arr0, ht, hal, hsum, hfin⟩ := spread_spec hm 0
  rw [hfin]
  have hN1 : 2 ^ 5 ≤ 2 ^ log := Nat.pow_le_pow_right (by omega) h5
  have hN2 : 2 ^ log ≤ 2 ^ 15 := Nat.pow_le_pow_right (by omega) h15
  have hsh : IntKind.i64.wrap (1 * 2 ^ (min log IntKind.i64.bits)) = ((2 ^ log : Nat) : Int) := by
    have : ∀ k : Fin 16, IntKind.i64.wrap (1 * 2 ^ (min k.val IntKind.i64.bits)) = ((2 ^ k.val : Nat) : Int) := by decide
    exact this ⟨log, by omega⟩
  clear hfin
  generalize hN : 2 ^ log = N at *
  generalize hhigh : (reps ps 0).length = high at *
  unfold fse_spread fse_spread_p40 fse_spread_p39
  refine stp_box fun w1 o1 x1 s1 => ?_
  have hs1 := hs.ext x1 (inB_nob _)
  have c0 := o1.cell (off := 0)
  have c1 := o1.cell (off := 1)
  simp only [Value.cells, List.getElem?_cons_zero, List.getElem?_cons_succ] at c0 c1
  obtain ⟨a, c, rfl, hc⟩ := hs.lenI
  simp (disch := omega) only [Stp, Same, stepR_value, stepR_skip, r_add, r_sub, r_mul, r_quo, r_rem, r_and, r_or, r_xor, r_andNot, r_shl, r_shr, r_eql, r_neq, r_lss, r_leq, r_gtr, r_geq, r_neg, r_cpl, r_not, r_pick, r_min, r_max, r_nil, x20, x21, x30, x31, x32, x40, x41, x42, x43, ldC_some, Result.ok.injEq, Next.value.injEq, true_and, and_true, w_i64, w_u64, w_i32, w_u32, w_u16, w_u8, Int.toNat_natCast, isB_tt, isB_tf, isB_ft, isB_ff, Gd_true, Gd_false, Gs_true, Gs_false, Cnd_true, Cnd_false, if_true, if_false, Bool.false_eq_true, Nat.zero_add, Option.isNone_some, Option.isNone_none, Bool.not_true, Bool.not_false, List.getElem?_cons_succ, List.getElem?_cons_zero, fa_normal_Counts_Part, ld_sl_int, ln_sl_int, fa_normal_Counts_Log, ld_int, fa_fse_Table_Entries, ld_sl_fse_Entry, ln_sl_fse_Entry, ia_sl_fse_Entry, fa_fse_Entry_Symbol, ld_uint8, ia_ar256_int, ia_sl_int, cv_uint8_int, fa_fse_Entry_Bits, fa_fse_Table_Log, fa_fse_Entry_Base, cv_uint16_int, cv_int_uint, bneq_bool, cv_uint64_int, bd_normal_Counts_0_1, bd_normal_Counts_, bd_fse_Table_, bd_fse_Table_0_1, bd_lightermanref07_T_, fa_lightermanref06_C_Log, bd_lightermanref07_T_0, fa_lightermanref07_T_L, ld_sl_lightermanref07_E, bd_lightermanref07_E_0, fa_lightermanref06_C_Part, ia_sl_lightermanref07_E, fa_lightermanref07_E_Symbol, fa_lightermanref07_E_Bits, fa_lightermanref07_E_Base, bd_lightermanref06_C_0_1, fa_lightermanref07_T_Log, ln_sl_lightermanref07_E, cv_int_uint64, bd_fse_Entry_0, bd_fse_Table_1, cv_int_uint8, cv_uint_uint32, cv_uint32_uint8, ix_string, cv_uint64_uint8, c0, c1, hsh]
  refine mkn_sl_fse_Entry (by omega) (by omega) fun w2 o2 x2 s2 => ?_
  rw [Int.toNat_natCast, fe_reps] at o2
  rw [Int.toNat_natCast]
  have o2 : Own w2 w1.heap.size (fe .u8 (m3 (List.replicate N 0))) := by unfold m3; rw [List.map_replicate]; exact o2
  have x02 : Ext w w2 nob := x1.seq x2
  have ob2 := o1.ext x2 (fun h => h)
  have c1 := ob2.cell (off := 1)
  simp only [Value.cells, List.getElem?_cons_zero, List.getElem?_cons_succ] at c1
  unfold fse_spread_p38 fse_spread_p37 fse_spread_p36 fse_spread_p35 fse_spread_p34
  simp (disch := omega) only [Stp, Same, stepR_value, stepR_skip, r_add, r_sub, r_mul, r_quo, r_rem, r_and, r_or, r_xor, r_andNot, r_shl, r_shr, r_eql, r_neq, r_lss, r_leq, r_gtr, r_geq, r_neg, r_cpl, r_not, r_pick, r_min, r_max, r_nil, x20, x21, x30, x31, x32, x40, x41, x42, x43, ldC_some, Result.ok.injEq, Next.value.injEq, true_and, and_true, w_i64, w_u64, w_i32, w_u32, w_u16, w_u8, Int.toNat_natCast, isB_tt, isB_tf, isB_ft, isB_ff, Gd_true, Gd_false, Gs_true, Gs_false, Cnd_true, Cnd_false, if_true, if_false, Bool.false_eq_true, Nat.zero_add, Option.isNone_some, Option.isNone_none, Bool.not_true, Bool.not_false, List.getElem?_cons_succ, List.getElem?_cons_zero, fa_normal_Counts_Part, ld_sl_int, ln_sl_int, fa_normal_Counts_Log, ld_int, fa_fse_Table_Entries, ld_sl_fse_Entry, ln_sl_fse_Entry, ia_sl_fse_Entry, fa_fse_Entry_Symbol, ld_uint8, ia_ar256_int, ia_sl_int, cv_uint8_int, fa_fse_Entry_Bits, fa_fse_Table_Log, fa_fse_Entry_Base, cv_uint16_int, cv_int_uint, bneq_bool, cv_uint64_int, bd_normal_Counts_0_1, bd_normal_Counts_, bd_fse_Table_, bd_fse_Table_0_1, bd_lightermanref07_T_, fa_lightermanref06_C_Log, bd_lightermanref07_T_0, fa_lightermanref07_T_L, ld_sl_lightermanref07_E, bd_lightermanref07_E_0, fa_lightermanref06_C_Part, ia_sl_lightermanref07_E, fa_lightermanref07_E_Symbol, fa_lightermanref07_E_Bits, fa_lightermanref07_E_Base, bd_lightermanref06_C_0_1, fa_lightermanref07_T_Log, ln_sl_lightermanref07_E, cv_int_uint64, bd_fse_Entry_0, bd_fse_Table_1, cv_int_uint8, cv_uint_uint32, cv_uint32_uint8, ix_string, cv_uint64_uint8, c1]
  have hw1 : w.heap.size ≤ w1.heap.size := x1.size
  refine LoopD.rule (fun m t w' => ∃ (i hg : Nat) (arr : List Int), m = ps.length - i ∧ t = (.int .i64 hg, .int .i64 i) ∧ i ≤ ps.length ∧ (negs (ps.drop i) i).length ≤ hg ∧ hg ≤ N ∧ arr.length = N ∧ tops (ps.drop i) i hg arr = (high, arr0) ∧ Own w' w1.heap.size (fe .u8 (m3 arr)) ∧ Ext w w' nob ∧ Own w' w.heap.size (Value.cells (.agg #[.int .i64 log, .slice a ps.length c])).toList) ps.length
    ⟨0, N, _, rfl, rfl, by omega, by rw [List.drop_zero]; omega, by omega, by simp, by rw [List.drop_zero]; exact ht, o2, x02, ob2⟩ ?_
  rintro m t w3 ⟨i, hg, arr, rfl, rfl, hi, hng, hgN, harr, htop, o3, x3, ob3⟩
  by_cases hlt : i < ps.length
  · have d1 : decide ((i : Int) < (ps.length : Int)) = true := by simp; omega
    obtain ⟨b', off', c', e, _, hcell⟩ := (hs.ext x3 (inB_nob _)).openI (by omega)
    cases e
    have g1 := hcell i hlt
    have hd : ps.drop i = ps[i] :: ps.drop (i + 1) := List.drop_eq_getElem_cons hlt
    rw [hd, negs] at hng
    rw [hd, tops] at htop
    unfold fse_spread_p33 fse_spread_p32 fse_spread_p31
    by_cases hp : ps[i] = -1
    · have d2 : (ps[i] == -1) = true := by simpa using hp
      rw [if_pos hp] at hng htop
      simp only [List.length_cons] at hng
      have e1 : (hg : Int) - 1 = ((hg - 1 : Nat) : Int) := by omega
      simp (disch := omega) only [Stp, Same, stepR_value, stepR_skip, r_add, r_sub, r_mul, r_quo, r_rem, r_and, r_or, r_xor, r_andNot, r_shl, r_shr, r_eql, r_neq, r_lss, r_leq, r_gtr, r_geq, r_neg, r_cpl, r_not, r_pick, r_min, r_max, r_nil, x20, x21, x30, x31, x32, x40, x41, x42, x43, ldC_some, Result.ok.injEq, Next.value.injEq, true_and, and_true, w_i64, w_u64, w_i32, w_u32, w_u16, w_u8, Int.toNat_natCast, isB_tt, isB_tf, isB_ft, isB_ff, Gd_true, Gd_false, Gs_true, Gs_false, Cnd_true, Cnd_false, if_true, if_false, Bool.false_eq_true, Nat.zero_add, Option.isNone_some, Option.isNone_none, Bool.not_true, Bool.not_false, List.getElem?_cons_succ, List.getElem?_cons_zero, fa_normal_Counts_Part, ld_sl_int, ln_sl_int, fa_normal_Counts_Log, ld_int, fa_fse_Table_Entries, ld_sl_fse_Entry, ln_sl_fse_Entry, ia_sl_fse_Entry, fa_fse_Entry_Symbol, ld_uint8, ia_ar256_int, ia_sl_int, cv_uint8_int, fa_fse_Entry_Bits, fa_fse_Table_Log, fa_fse_Entry_Base, cv_uint16_int, cv_int_uint, bneq_bool, cv_uint64_int, bd_normal_Counts_0_1, bd_normal_Counts_, bd_fse_Table_, bd_fse_Table_0_1, bd_lightermanref07_T_, fa_lightermanref06_C_Log, bd_lightermanref07_T_0, fa_lightermanref07_T_L, ld_sl_lightermanref07_E, bd_lightermanref07_E_0, fa_lightermanref06_C_Part, ia_sl_lightermanref07_E, fa_lightermanref07_E_Symbol, fa_lightermanref07_E_Bits, fa_lightermanref07_E_Base, bd_lightermanref06_C_0_1, fa_lightermanref07_T_Log, ln_sl_lightermanref07_E, cv_int_uint64, bd_fse_Entry_0, bd_fse_Table_1, cv_int_uint8, cv_uint_uint32, cv_uint32_uint8, ix_string, cv_uint64_uint8, d1, g1, d2, e1]
      refine st_uint8 o3 rfl (by rw [fe_length]; simp [m3]; omega) fun w4 o4 x4 s4 => ?_
      rw [m3_store (by omega)] at o4
      exact ⟨ps.length - (i + 1), by omega, i + 1, hg - 1, _, rfl, rfl, by omega, by omega, by omega, by simp [harr], htop, o4, x3.new x4 hw1, ob3.ext x4 (by omega)⟩
    · have d2 : (ps[i] == -1) = false := by simpa using hp
      rw [if_neg hp] at hng htop
      simp (disch := omega) only [Stp, Same, stepR_value, stepR_skip, r_add, r_sub, r_mul, r_quo, r_rem, r_and, r_or, r_xor, r_andNot, r_shl, r_shr, r_eql, r_neq, r_lss, r_leq, r_gtr, r_geq, r_neg, r_cpl, r_not, r_pick, r_min, r_max, r_nil, x20, x21, x30, x31, x32, x40, x41, x42, x43, ldC_some, Result.ok.injEq, Next.value.injEq, true_and, and_true, w_i64, w_u64, w_i32, w_u32, w_u16, w_u8, Int.toNat_natCast, isB_tt, isB_tf, isB_ft, isB_ff, Gd_true, Gd_false, Gs_true, Gs_false, Cnd_true, Cnd_false, if_true, if_false, Bool.false_eq_true, Nat.zero_add, Option.isNone_some, Option.isNone_none, Bool.not_true, Bool.not_false, List.getElem?_cons_succ, List.getElem?_cons_zero, fa_normal_Counts_Part, ld_sl_int, ln_sl_int, fa_normal_Counts_Log, ld_int, fa_fse_Table_Entries, ld_sl_fse_Entry, ln_sl_fse_Entry, ia_sl_fse_Entry, fa_fse_Entry_Symbol, ld_uint8, ia_ar256_int, ia_sl_int, cv_uint8_int, fa_fse_Entry_Bits, fa_fse_Table_Log, fa_fse_Entry_Base, cv_uint16_int, cv_int_uint, bneq_bool, cv_uint64_int, bd_normal_Counts_0_1, bd_normal_Counts_, bd_fse_Table_, bd_fse_Table_0_1, bd_lightermanref07_T_, fa_lightermanref06_C_Log, bd_lightermanref07_T_0, fa_lightermanref07_T_L, ld_sl_lightermanref07_E, bd_lightermanref07_E_0, fa_lightermanref06_C_Part, ia_sl_lightermanref07_E, fa_lightermanref07_E_Symbol, fa_lightermanref07_E_Bits, fa_lightermanref07_E_Base, bd_lightermanref06_C_0_1, fa_lightermanref07_T_Log, ln_sl_lightermanref07_E, cv_int_uint64, bd_fse_Entry_0, bd_fse_Table_1, cv_int_uint8, cv_uint_uint32, cv_uint32_uint8, ix_string, cv_uint64_uint8, d1, g1, d2]
      exact ⟨ps.length - (i + 1), by omega, i + 1, hg, arr, rfl, rfl, by omega, by omega, by omega, harr, htop, o3, x3, ob3⟩
  · have d1 : decide ((i : Int) < (ps.length : Int)) = false := by simp; omega
    rw [List.drop_of_length_le (by omega), tops] at htop
    obtain ⟨rfl, rfl⟩ : hg = high ∧ arr = arr0 := by simpa using htop
    have c1 := ob3.cell (off := 1)
    simp only [Value.cells, List.getElem?_cons_zero, List.getElem?_cons_succ] at c1
    unfold fse_spread_p33 fse_spread_p32 fse_spread_p30 fse_spread_p29 fse_spread_p28 fse_spread_p27 fse_spread_p26 fse_spread_p25 fse_spread_p24
    simp (disch := omega) only [Stp, Same, stepR_value, stepR_skip, r_add, r_sub, r_mul, r_quo, r_rem, r_and, r_or, r_xor, r_andNot, r_shl, r_shr, r_eql, r_neq, r_lss, r_leq, r_gtr, r_geq, r_neg, r_cpl, r_not, r_pick, r_min, r_max, r_nil, x20, x21, x30, x31, x32, x40, x41, x42, x43, ldC_some, Result.ok.injEq, Next.value.injEq, true_and, and_true, w_i64, w_u64, w_i32, w_u32, w_u16, w_u8, Int.toNat_natCast, isB_tt, isB_tf, isB_ft, isB_ff, Gd_true, Gd_false, Gs_true, Gs_false, Cnd_true, Cnd_false, if_true, if_false, Bool.false_eq_true, Nat.zero_add, Option.isNone_some, Option.isNone_none, Bool.not_true, Bool.not_false, List.getElem?_cons_succ, List.getElem?_cons_zero, fa_normal_Counts_Part, ld_sl_int, ln_sl_int, fa_normal_Counts_Log, ld_int, fa_fse_Table_Entries, ld_sl_fse_Entry, ln_sl_fse_Entry, ia_sl_fse_Entry, fa_fse_Entry_Symbol, ld_uint8, ia_ar256_int, ia_sl_int, cv_uint8_int, fa_fse_Entry_Bits, fa_fse_Table_Log, fa_fse_Entry_Base, cv_uint16_int, cv_int_uint, bneq_bool, cv_uint64_int, bd_normal_Counts_0_1, bd_normal_Counts_, bd_fse_Table_, bd_fse_Table_0_1, bd_lightermanref07_T_, fa_lightermanref06_C_Log, bd_lightermanref07_T_0, fa_lightermanref07_T_L, ld_sl_lightermanref07_E, bd_lightermanref07_E_0, fa_lightermanref06_C_Part, ia_sl_lightermanref07_E, fa_lightermanref07_E_Symbol, fa_lightermanref07_E_Bits, fa_lightermanref07_E_Base, bd_lightermanref06_C_0_1, fa_lightermanref07_T_Log, ln_sl_lightermanref07_E, cv_int_uint64, bd_fse_Entry_0, bd_fse_Table_1, cv_int_uint8, cv_uint_uint32, cv_uint32_uint8, ix_string, cv_uint64_uint8, d1, c1]
    clear d1 hlt hi hng htop
    have hbig : Own w3 w1.heap.size (fe .u8 (m3 arr)) := o3
    refine LoopD.rule (fun m t w' => ∃ (s j : Nat) (ar : List Int), m = ps.length - s ∧ t = (.int .i64 (pos N j : Nat), .int .i64 s) ∧ s ≤ ps.length ∧ ar.length = N ∧ place N hg (reps (ps.drop s) s) (pos N j) ar = place N hg (reps ps 0) 0 arr ∧ (reps (ps.drop s) s).length ≤ hg ∧ Own w' w1.heap.size (fe .u8 (m3 ar)) ∧ Ext w w' nob) ps.length
      ⟨0, 0, arr, rfl, by rw [pos_zero]; rfl, by omega, harr, by rw [pos_zero, List.drop_zero], by rw [List.drop_zero, hhigh]; exact Nat.le_refl _, o3, x3⟩ ?_
    rintro m t w4 ⟨s, j, ar, rfl, rfl, hs4, har, hpl, hrl, o4, x4⟩
    by_cases hlt : s < ps.length
    · have d1 : decide ((s : Int) < (ps.length : Int)) = true := by simp; omega
      obtain ⟨b', off', c', e, _, hcell⟩ := (hs.ext x4 (inB_nob _)).openI (by omega)
      cases e
      have g1 := hcell s hlt
      obtain ⟨q, hq⟩ : ∃ q, q = ps[s].toNat := ⟨_, rfl⟩
      have emax : (if (0 : Int) > ps[s] then (0 : Int) else ps[s]) = (q : Int) := by rw [hq]; split <;> omega
      rw [reps_drop hlt, ← hq] at hpl hrl
      have hqN : q ≤ N := by simp at hrl; omega
      unfold fse_spread_p23 fse_spread_p22 fse_spread_p21 fse_spread_p20 fse_spread_p19 fse_spread_p18 fse_spread_p17 fse_spread_p16 fse_spread_p15
      simp (disch := omega) only [Stp, Same, stepR_value, stepR_skip, r_add, r_sub, r_mul, r_quo, r_rem, r_and, r_or, r_xor, r_andNot, r_shl, r_shr, r_eql, r_neq, r_lss, r_leq, r_gtr, r_geq, r_neg, r_cpl, r_not, r_pick, r_min, r_max, r_nil, x20, x21, x30, x31, x32, x40, x41, x42, x43, ldC_some, Result.ok.injEq, Next.value.injEq, true_and, and_true, w_i64, w_u64, w_i32, w_u32, w_u16, w_u8, Int.toNat_natCast, isB_tt, isB_tf, isB_ft, isB_ff, Gd_true, Gd_false, Gs_true, Gs_false, Cnd_true, Cnd_false, if_true, if_false, Bool.false_eq_true, Nat.zero_add, Option.isNone_some, Option.isNone_none, Bool.not_true, Bool.not_false, List.getElem?_cons_succ, List.getElem?_cons_zero, fa_normal_Counts_Part, ld_sl_int, ln_sl_int, fa_normal_Counts_Log, ld_int, fa_fse_Table_Entries, ld_sl_fse_Entry, ln_sl_fse_Entry, ia_sl_fse_Entry, fa_fse_Entry_Symbol, ld_uint8, ia_ar256_int, ia_sl_int, cv_uint8_int, fa_fse_Entry_Bits, fa_fse_Table_Log, fa_fse_Entry_Base, cv_uint16_int, cv_int_uint, bneq_bool, cv_uint64_int, bd_normal_Counts_0_1, bd_normal_Counts_, bd_fse_Table_, bd_fse_Table_0_1, bd_lightermanref07_T_, fa_lightermanref06_C_Log, bd_lightermanref07_T_0, fa_lightermanref07_T_L, ld_sl_lightermanref07_E, bd_lightermanref07_E_0, fa_lightermanref06_C_Part, ia_sl_lightermanref07_E, fa_lightermanref07_E_Symbol, fa_lightermanref07_E_Bits, fa_lightermanref07_E_Base, bd_lightermanref06_C_0_1, fa_lightermanref07_T_Log, ln_sl_lightermanref07_E, cv_int_uint64, bd_fse_Entry_0, bd_fse_Table_1, cv_int_uint8, cv_uint_uint32, cv_uint32_uint8, ix_string, cv_uint64_uint8, d1, g1, emax]
      unfold fse_spread_p14 fse_spread_p13
      refine LoopD.rule (fun m t w' => ∃ (k j : Nat) (ar : List Int), m = q - k ∧ t = (.int .i64 (pos N j : Nat), .int .i64 k) ∧ k ≤ q ∧ ar.length = N ∧ place N hg (List.replicate (q - k) s ++ reps (ps.drop (s + 1)) (s + 1)) (pos N j) ar = place N hg (reps ps 0) 0 arr ∧ Own w' w1.heap.size (fe .u8 (m3 ar)) ∧ Ext w w' nob) q
        ⟨0, j, ar, rfl, rfl, by omega, har, hpl, o4, x4⟩ ?_
      rintro m t w5 ⟨k, j5, ar5, rfl, rfl, hk, har5, hpl5, o5, x5⟩
      by_cases hkq : k < q
      · have d2 : decide ((k : Int) < (q : Int)) = true := by simp; omega
        have hp := pos_lt (n := N) (by omega) j5
        have hhg : 0 < hg := by simp at hrl; omega
        unfold fse_spread_p12 fse_spread_p11 fse_spread_p10 fse_spread_p9 fse_spread_p8 fse_spread_p7
        simp (disch := omega) only [Stp, Same, stepR_value, stepR_skip, r_add, r_sub, r_mul, r_quo, r_rem, r_and, r_or, r_xor, r_andNot, r_shl, r_shr, r_eql, r_neq, r_lss, r_leq, r_gtr, r_geq, r_neg, r_cpl, r_not, r_pick, r_min, r_max, r_nil, x20, x21, x30, x31, x32, x40, x41, x42, x43, ldC_some, Result.ok.injEq, Next.value.injEq, true_and, and_true, w_i64, w_u64, w_i32, w_u32, w_u16, w_u8, Int.toNat_natCast, isB_tt, isB_tf, isB_ft, isB_ff, Gd_true, Gd_false, Gs_true, Gs_false, Cnd_true, Cnd_false, if_true, if_false, Bool.false_eq_true, Nat.zero_add, Option.isNone_some, Option.isNone_none, Bool.not_true, Bool.not_false, List.getElem?_cons_succ, List.getElem?_cons_zero, fa_normal_Counts_Part, ld_sl_int, ln_sl_int, fa_normal_Counts_Log, ld_int, fa_fse_Table_Entries, ld_sl_fse_Entry, ln_sl_fse_Entry, ia_sl_fse_Entry, fa_fse_Entry_Symbol, ld_uint8, ia_ar256_int, ia_sl_int, cv_uint8_int, fa_fse_Entry_Bits, fa_fse_Table_Log, fa_fse_Entry_Base, cv_uint16_int, cv_int_uint, bneq_bool, cv_uint64_int, bd_normal_Counts_0_1, bd_normal_Counts_, bd_fse_Table_, bd_fse_Table_0_1, bd_lightermanref07_T_, fa_lightermanref06_C_Log, bd_lightermanref07_T_0, fa_lightermanref07_T_L, ld_sl_lightermanref07_E, bd_lightermanref07_E_0, fa_lightermanref06_C_Part, ia_sl_lightermanref07_E, fa_lightermanref07_E_Symbol, fa_lightermanref07_E_Bits, fa_lightermanref07_E_Base, bd_lightermanref06_C_0_1, fa_lightermanref07_T_Log, ln_sl_lightermanref07_E, cv_int_uint64, bd_fse_Entry_0, bd_fse_Table_1, cv_int_uint8, cv_uint_uint32, cv_uint32_uint8, ix_string, cv_uint64_uint8, d2]
        refine st_uint8 o5 rfl (by rw [fe_length]; simp [m3]; omega) fun w6 o6 x6 s6 => ?_
        rw [m3_store (by omega)] at o6
        unfold fse_spread_p6
        rw [show q - k = (q - (k + 1)) + 1 from by omega, List.replicate_succ, List.cons_append, place_cons] at hpl5
        obtain ⟨d, _, hd2, hd3⟩ := seek_spec (n := N) (high := hg) (by omega) hhg (j5 + 1)
        have hsk : seek N hg N (adv N (pos N j5)) = pos N (j5 + 1 + d) := by rw [adv_pos]; exact hd3
        refine seek_c (w0 := w) (by omega) hN2 hhg hgN (x5.new x6 hw1) ⟨j5 + 1 + d, hsk, ?_⟩
        rw [hsk] at hpl5
        unfold fse_spread_p3
        simp (disch := omega) only [Stp, Same, stepR_value, stepR_skip, r_add, r_sub, r_mul, r_quo, r_rem, r_and, r_or, r_xor, r_andNot, r_shl, r_shr, r_eql, r_neq, r_lss, r_leq, r_gtr, r_geq, r_neg, r_cpl, r_not, r_pick, r_min, r_max, r_nil, x20, x21, x30, x31, x32, x40, x41, x42, x43, ldC_some, Result.ok.injEq, Next.value.injEq, true_and, and_true, w_i64, w_u64, w_i32, w_u32, w_u16, w_u8, Int.toNat_natCast, isB_tt, isB_tf, isB_ft, isB_ff, Gd_true, Gd_false, Gs_true, Gs_false, Cnd_true, Cnd_false, if_true, if_false, Bool.false_eq_true, Nat.zero_add, Option.isNone_some, Option.isNone_none, Bool.not_true, Bool.not_false, List.getElem?_cons_succ, List.getElem?_cons_zero, fa_normal_Counts_Part, ld_sl_int, ln_sl_int, fa_normal_Counts_Log, ld_int, fa_fse_Table_Entries, ld_sl_fse_Entry, ln_sl_fse_Entry, ia_sl_fse_Entry, fa_fse_Entry_Symbol, ld_uint8, ia_ar256_int, ia_sl_int, cv_uint8_int, fa_fse_Entry_Bits, fa_fse_Table_Log, fa_fse_Entry_Base, cv_uint16_int, cv_int_uint, bneq_bool, cv_uint64_int, bd_normal_Counts_0_1, bd_normal_Counts_, bd_fse_Table_, bd_fse_Table_0_1, bd_lightermanref07_T_, fa_lightermanref06_C_Log, bd_lightermanref07_T_0, fa_lightermanref07_T_L, ld_sl_lightermanref07_E, bd_lightermanref07_E_0, fa_lightermanref06_C_Part, ia_sl_lightermanref07_E, fa_lightermanref07_E_Symbol, fa_lightermanref07_E_Bits, fa_lightermanref07_E_Base, bd_lightermanref06_C_0_1, fa_lightermanref07_T_Log, ln_sl_lightermanref07_E, cv_int_uint64, bd_fse_Entry_0, bd_fse_Table_1, cv_int_uint8, cv_uint_uint32, cv_uint32_uint8, ix_string, cv_uint64_uint8]
        exact ⟨q - (k + 1), by omega, k + 1, j5 + 1 + d, _, rfl, rfl, by omega, by simp [har5], hpl5, o6, x5.new x6 hw1⟩
      · have d2 : decide ((k : Int) < (q : Int)) = false := by simp; omega
        rw [show q - k = 0 from by omega, List.replicate_zero, List.nil_append] at hpl5
        unfold fse_spread_p12 fse_spread_p11 fse_spread_p2
        simp (disch := omega) only [Stp, Same, stepR_value, stepR_skip, r_add, r_sub, r_mul, r_quo, r_rem, r_and, r_or, r_xor, r_andNot, r_shl, r_shr, r_eql, r_neq, r_lss, r_leq, r_gtr, r_geq, r_neg, r_cpl, r_not, r_pick, r_min, r_max, r_nil, x20, x21, x30, x31, x32, x40, x41, x42, x43, ldC_some, Result.ok.injEq, Next.value.injEq, true_and, and_true, w_i64, w_u64, w_i32, w_u32, w_u16, w_u8, Int.toNat_natCast, isB_tt, isB_tf, isB_ft, isB_ff, Gd_true, Gd_false, Gs_true, Gs_false, Cnd_true, Cnd_false, if_true, if_false, Bool.false_eq_true, Nat.zero_add, Option.isNone_some, Option.isNone_none, Bool.not_true, Bool.not_false, List.getElem?_cons_succ, List.getElem?_cons_zero, fa_normal_Counts_Part, ld_sl_int, ln_sl_int, fa_normal_Counts_Log, ld_int, fa_fse_Table_Entries, ld_sl_fse_Entry, ln_sl_fse_Entry, ia_sl_fse_Entry, fa_fse_Entry_Symbol, ld_uint8, ia_ar256_int, ia_sl_int, cv_uint8_int, fa_fse_Entry_Bits, fa_fse_Table_Log, fa_fse_Entry_Base, cv_uint16_int, cv_int_uint, bneq_bool, cv_uint64_int, bd_normal_Counts_0_1, bd_normal_Counts_, bd_fse_Table_, bd_fse_Table_0_1, bd_lightermanref07_T_, fa_lightermanref06_C_Log, bd_lightermanref07_T_0, fa_lightermanref07_T_L, ld_sl_lightermanref07_E, bd_lightermanref07_E_0, fa_lightermanref06_C_Part, ia_sl_lightermanref07_E, fa_lightermanref07_E_Symbol, fa_lightermanref07_E_Bits, fa_lightermanref07_E_Base, bd_lightermanref06_C_0_1, fa_lightermanref07_T_Log, ln_sl_lightermanref07_E, cv_int_uint64, bd_fse_Entry_0, bd_fse_Table_1, cv_int_uint8, cv_uint_uint32, cv_uint32_uint8, ix_string, cv_uint64_uint8, d2]
        exact ⟨ps.length - (s + 1), by omega, s + 1, j5, ar5, rfl, rfl, by omega, har5, hpl5, by simp at hrl; omega, o5, x5⟩
    · have d1 : decide ((s : Int) < (ps.length : Int)) = false := by simp; omega
      rw [List.drop_of_length_le (by omega), reps, place] at hpl
      unfold fse_spread_p23 fse_spread_p22 fse_spread_p1
      simp (disch := omega) only [Stp, Same, stepR_value, stepR_skip, r_add, r_sub, r_mul, r_quo, r_rem, r_and, r_or, r_xor, r_andNot, r_shl, r_shr, r_eql, r_neq, r_lss, r_leq, r_gtr, r_geq, r_neg, r_cpl, r_not, r_pick, r_min, r_max, r_nil, x20, x21, x30, x31, x32, x40, x41, x42, x43, ldC_some, Result.ok.injEq, Next.value.injEq, true_and, and_true, w_i64, w_u64, w_i32, w_u32, w_u16, w_u8, Int.toNat_natCast, isB_tt, isB_tf, isB_ft, isB_ff, Gd_true, Gd_false, Gs_true, Gs_false, Cnd_true, Cnd_false, if_true, if_false, Bool.false_eq_true, Nat.zero_add, Option.isNone_some, Option.isNone_none, Bool.not_true, Bool.not_false, List.getElem?_cons_succ, List.getElem?_cons_zero, fa_normal_Counts_Part, ld_sl_int, ln_sl_int, fa_normal_Counts_Log, ld_int, fa_fse_Table_Entries, ld_sl_fse_Entry, ln_sl_fse_Entry, ia_sl_fse_Entry, fa_fse_Entry_Symbol, ld_uint8, ia_ar256_int, ia_sl_int, cv_uint8_int, fa_fse_Entry_Bits, fa_fse_Table_Log, fa_fse_Entry_Base, cv_uint16_int, cv_int_uint, bneq_bool, cv_uint64_int, bd_normal_Counts_0_1, bd_normal_Counts_, bd_fse_Table_, bd_fse_Table_0_1, bd_lightermanref07_T_, fa_lightermanref06_C_Log, bd_lightermanref07_T_0, fa_lightermanref07_T_L, ld_sl_lightermanref07_E, bd_lightermanref07_E_0, fa_lightermanref06_C_Part, ia_sl_lightermanref07_E, fa_lightermanref07_E_Symbol, fa_lightermanref07_E_Bits, fa_lightermanref07_E_Base, bd_lightermanref06_C_0_1, fa_lightermanref07_T_Log, ln_sl_lightermanref07_E, cv_int_uint64, bd_fse_Entry_0, bd_fse_Table_1, cv_int_uint8, cv_uint_uint32, cv_uint32_uint8, ix_string, cv_uint64_uint8, d1]
      exact ⟨_, rfl, hw1, by rw [← hpl]; exact o4, x4⟩
end Go.Proofs.Ytcbkdccobhkbpaa
