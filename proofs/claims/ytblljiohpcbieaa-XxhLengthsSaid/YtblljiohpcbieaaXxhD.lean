/- Contracts: Write lays bytes behind those so far. -/
import Derived.Test.YtblljiohpcbieaaXxhC
namespace Go.Proofs.Ytblljiohpcbieaa
open Go Go.En
set_option maxRecDepth 4000
set_option linter.unusedSimpArgs false

theorem own_dr {w : World} {b : Nat} {cs : List Value} (h : Own w b cs) : Own (dr w) b cs := h.ext (Ext.dr w nob) (fun h => h)

/-- a stripe is turned in -/
theorem write_stripe (w0 : World) (b : Nat) (vs : List Int) (kept : List UInt8) (all : Nat) (h1 : vs.length = 4) (h2 : kept.length = 32) (v : Value) (R : Value → Value → World → Prop)
    (hR : ∀ w', Own w' b (hashCells (updV vs kept 4) kept 32 all) → Ext w0 w' (fun x => x = b) → R (.pointer (some ⟨b, 0, none⟩)) v w') (w : World) (ho : Own w b (hashCells vs kept 32 all)) (hx : Ext w0 w (fun x => x = b)) :
    xxh_Hash_Write_p6 R (.pointer (some ⟨b, 0, none⟩)) v w := by
  simp (disch := omega) only [xxh_Hash_Write_p6, xxh_Hash_Write_p5, xxh_Hash_Write_p4, xxh_Hash_Write_p3]
  refine LoopD.rule (fun n t w' => ∃ i : Nat, i ≤ 4 ∧ n = 4 - i ∧ t = .int .i64 (i : Int) ∧ Own w' b (hashCells (updV vs kept i) kept 32 all) ∧ Ext w0 w' (fun x => x = b)) 4
    ⟨0, by omega, rfl, rfl, by rw [updV_zero]; exact ho, hx⟩ ?_
  rintro n t w' ⟨i, hi, rfl, rfl, ho, hx⟩
  by_cases hlt : i < 4
  · have hd : decide ((i : Int) < 4) = true := by simp; omega
    have hod := own_dr ho
    have hv := updV_get vs kept i (by omega)
    have hc : (hashCells (updV vs kept i) kept 32 all)[i]? = some (.int .u64 vs[i]) := by
      rw [hashCells_v i (by rw [updV_length]; omega)]
      rw [List.getElem?_eq_getElem (by rw [updV_length]; omega)] at hv
      rw [Option.some.inj hv]
    have t1 : (8 * (i : Int)).toNat = 8 * i := by omega
    have t2 : (8 * (i : Int) + 8).toNat = 8 * i + 8 := by omega
    simp (disch := omega) only [xxh_Hash_Write_p2, Stp, Same, stepR_value, stepR_skip, r_add, r_sub, r_mul, r_quo, r_rem, r_and, r_or, r_xor, r_andNot, r_shl, r_shr, r_eql, r_neq, r_lss, r_leq, r_gtr, r_geq, r_neg, r_cpl, r_not, r_pick, r_min, r_max, r_nil, x20, x21, x30, x31, x32, x40, x41, x42, x43, ldC_some, Result.ok.injEq, Next.value.injEq, true_and, and_true, w_i64, w_u64, w_i32, w_u32, w_u16, w_u8, Int.toNat_natCast, isB_tt, isB_tf, isB_ft, isB_ff, Gd_true, Gd_false, Cnd_true, Cnd_false, if_true, if_false, Bool.false_eq_true, Nat.zero_add, Option.isNone_some, Option.isNone_none, Bool.not_true, Bool.not_false, List.getElem?_cons_succ, List.getElem?_cons_zero, ln_sl_sl_uint8, ia_sl_sl_uint8, ld_sl_uint8, ln_sl_uint8, cv_uint16_int, cv_int_uint8, ia_sl_uint8, ln_sl_uint16, ia_sl_uint16, ld_uint16, sl_sl_uint8_lohi, sl_sl_uint8_hi, sl_sl_uint8_lo, cv_uint8_int, bd_ar4_uint64_0_1_2_3, bd_xxh_Hash_0, peql_p_xxh_Hash, fa_xxh_Hash_all, ld_uint64, cv_int_uint64, fa_xxh_Hash_kept, fa_xxh_Hash_n, ld_int, sl_ar32_uint8_lo, fa_xxh_Hash_v, ia_ar4_uint64, sl_ar32_uint8_lohi, sl_ar32_uint8_hi, ld_uint8, cv_uint8_uint64, ln_string, ix_string, cv_int_uint, bd_ar4_int_0_1_2_3, ix_ar4_int, ix_ar4_uint64, sl_string_lo, bd_lightermanref01_R_0, fa_lightermanref01_R_E, ld_api_Errno, fa_lightermanref01_R_B, ld_string, sl_string_hi, hd, hod.cell, hc, t1, t2, shiftA_ne1 (show 8 * i ≠ 32 by omega)]
    have hs : ((kept.drop (8 * i)).take 8).length = 8 := by rw [List.length_take, List.length_drop]; omega
    have hbs : Bs (dr w') (.slice (some ⟨b, 4 + 8 * i, none⟩) (8 * i + 8 - 8 * i) (32 - 8 * i)) ((kept.drop (8 * i)).take 8) := by
      rw [show 8 * i + 8 - 8 * i = ((kept.drop (8 * i)).take 8).length from by omega]
      refine hod.bs (by omega) fun j hj => ?_
      rw [Nat.add_assoc, hashCells_kept (by rw [updV_length]; exact h1) (8 * i + j) (by omega)]
      simp
    refine (number_c _ _ _ hbs (by omega)).mono ?_
    rintro r w1 ⟨rfl, rfl⟩
    simp (disch := omega) only [Stp, Same, stepR_value, stepR_skip, r_add, r_sub, r_mul, r_quo, r_rem, r_and, r_or, r_xor, r_andNot, r_shl, r_shr, r_eql, r_neq, r_lss, r_leq, r_gtr, r_geq, r_neg, r_cpl, r_not, r_pick, r_min, r_max, r_nil, x20, x21, x30, x31, x32, x40, x41, x42, x43, ldC_some, Result.ok.injEq, Next.value.injEq, true_and, and_true, w_i64, w_u64, w_i32, w_u32, w_u16, w_u8, Int.toNat_natCast, isB_tt, isB_tf, isB_ft, isB_ff, Gd_true, Gd_false, Cnd_true, Cnd_false, if_true, if_false, Bool.false_eq_true, Nat.zero_add, Option.isNone_some, Option.isNone_none, Bool.not_true, Bool.not_false, List.getElem?_cons_succ, List.getElem?_cons_zero, ln_sl_sl_uint8, ia_sl_sl_uint8, ld_sl_uint8, ln_sl_uint8, cv_uint16_int, cv_int_uint8, ia_sl_uint8, ln_sl_uint16, ia_sl_uint16, ld_uint16, sl_sl_uint8_lohi, sl_sl_uint8_hi, sl_sl_uint8_lo, cv_uint8_int, bd_ar4_uint64_0_1_2_3, bd_xxh_Hash_0, peql_p_xxh_Hash, fa_xxh_Hash_all, ld_uint64, cv_int_uint64, fa_xxh_Hash_kept, fa_xxh_Hash_n, ld_int, sl_ar32_uint8_lo, fa_xxh_Hash_v, ia_ar4_uint64, sl_ar32_uint8_lohi, sl_ar32_uint8_hi, ld_uint8, cv_uint8_uint64, ln_string, ix_string, cv_int_uint, bd_ar4_int_0_1_2_3, ix_ar4_int, ix_ar4_uint64, sl_string_lo, bd_lightermanref01_R_0, fa_lightermanref01_R_E, ld_api_Errno, fa_lightermanref01_R_B, ld_string, sl_string_hi, hod.cell, hc]
    refine (round_c _ _ _).mono ?_
    rintro r w1 ⟨rfl, rfl⟩
    refine st_uint64 hod rfl (by rw [hashCells_length (by rw [updV_length]; exact h1) h2]; omega) fun w2 o2 x2 s2 => ?_
    rw [hashCells_set_v i _ (by rw [updV_length]; omega), updV_set vs kept i (by omega)] at o2
    exact ⟨4 - (i + 1), by omega, i + 1, by omega, rfl, rfl, o2, (hx.seq (Ext.dr _ _)).seq x2⟩
  · have : i = 4 := by omega
    subst this
    have hd : decide (((4 : Nat) : Int) < 4) = false := by simp
    simp (disch := omega) only [xxh_Hash_Write_p2, Stp, Same, stepR_value, stepR_skip, r_add, r_sub, r_mul, r_quo, r_rem, r_and, r_or, r_xor, r_andNot, r_shl, r_shr, r_eql, r_neq, r_lss, r_leq, r_gtr, r_geq, r_neg, r_cpl, r_not, r_pick, r_min, r_max, r_nil, x20, x21, x30, x31, x32, x40, x41, x42, x43, ldC_some, Result.ok.injEq, Next.value.injEq, true_and, and_true, w_i64, w_u64, w_i32, w_u32, w_u16, w_u8, Int.toNat_natCast, isB_tt, isB_tf, isB_ft, isB_ff, Gd_true, Gd_false, Cnd_true, Cnd_false, if_true, if_false, Bool.false_eq_true, Nat.zero_add, Option.isNone_some, Option.isNone_none, Bool.not_true, Bool.not_false, List.getElem?_cons_succ, List.getElem?_cons_zero, ln_sl_sl_uint8, ia_sl_sl_uint8, ld_sl_uint8, ln_sl_uint8, cv_uint16_int, cv_int_uint8, ia_sl_uint8, ln_sl_uint16, ia_sl_uint16, ld_uint16, sl_sl_uint8_lohi, sl_sl_uint8_hi, sl_sl_uint8_lo, cv_uint8_int, bd_ar4_uint64_0_1_2_3, bd_xxh_Hash_0, peql_p_xxh_Hash, fa_xxh_Hash_all, ld_uint64, cv_int_uint64, fa_xxh_Hash_kept, fa_xxh_Hash_n, ld_int, sl_ar32_uint8_lo, fa_xxh_Hash_v, ia_ar4_uint64, sl_ar32_uint8_lohi, sl_ar32_uint8_hi, ld_uint8, cv_uint8_uint64, ln_string, ix_string, cv_int_uint, bd_ar4_int_0_1_2_3, ix_ar4_int, ix_ar4_uint64, sl_string_lo, bd_lightermanref01_R_0, fa_lightermanref01_R_E, ld_api_Errno, fa_lightermanref01_R_B, ld_string, sl_string_hi, hd]
    exact hR _ ho hx

/-- the bytes left to write -/
theorem write_loop (w0 : World) (b : Nat) (L l : List UInt8) (_hlen : L.length + l.length ≤ 1099511627776) (R : World → Prop)
    (hR : ∀ w', HashA w' b (L ++ l) (L.length + l.length) → Ext w0 w' (fun x => x = b) → R w') (v : Value) (w : World)
    (h : HashA w b L (L.length + l.length)) (hv : Bs w v l) (hb : ¬ inB v (fun x => x = b)) (hx : Ext w0 w (fun x => x = b)) :
    xxh_Hash_Write_p15 R (.pointer (some ⟨b, 0, none⟩)) v w := by
  unfold xxh_Hash_Write_p15
  refine LoopD.rule (fun n t w' => ∃ m : Nat, m ≤ l.length ∧ n = l.length - m ∧ Bs w' t (l.drop m) ∧ ¬ inB t (fun x => x = b) ∧ HashA w' b (L ++ l.take m) (L.length + l.length) ∧ Ext w0 w' (fun x => x = b)) l.length
    ⟨0, by omega, rfl, hv, hb, by simpa using h, hx⟩ ?_
  rintro n t w' ⟨m, hm, rfl, hv, hb, ⟨kept, h2, hk, ho⟩, hx⟩
  have hv' := hv
  obtain ⟨a, n, c, rfl, hn, hc, hcell⟩ := hv'
  rw [List.length_map, List.length_drop] at hn
  by_cases hlt : m < l.length
  · obtain ⟨b', o', rfl, hcell'⟩ := hcell (by omega)
    have hd : decide ((0 : Int) < (n : Int)) = true := by simp; omega
    -- the place in the stripe
    have hM : (L ++ l.take m).length = L.length + m := by simp; omega
    rw [hM] at hk ho
    obtain ⟨q, hq⟩ : ∃ q, q = (L.length + m) / 32 := ⟨_, rfl⟩
    obtain ⟨r, hr⟩ : ∃ r, r = (L.length + m) % 32 := ⟨_, rfl⟩
    rw [← hq, ← hr] at hk ho
    have hqr : L.length + m = 32 * q + r ∧ r < 32 := by omega
    have h1 : (accV q (L ++ l.take m)).length = 4 := accV_length _ _
    have hod := own_dr ho
    have t1 : (r : Int).toNat = r := by omega
    simp (disch := omega) only [xxh_Hash_Write_p14, xxh_Hash_Write_p13, xxh_Hash_Write_p12, xxh_Hash_Write_p11, xxh_Hash_Write_p10, xxh_Hash_Write_p9, xxh_Hash_Write_p8, xxh_Hash_Write_p7, xxh_Hash_Write_p1, Stp, Same, stepR_value, stepR_skip, r_add, r_sub, r_mul, r_quo, r_rem, r_and, r_or, r_xor, r_andNot, r_shl, r_shr, r_eql, r_neq, r_lss, r_leq, r_gtr, r_geq, r_neg, r_cpl, r_not, r_pick, r_min, r_max, r_nil, x20, x21, x30, x31, x32, x40, x41, x42, x43, ldC_some, Result.ok.injEq, Next.value.injEq, true_and, and_true, w_i64, w_u64, w_i32, w_u32, w_u16, w_u8, Int.toNat_natCast, isB_tt, isB_tf, isB_ft, isB_ff, Gd_true, Gd_false, Cnd_true, Cnd_false, if_true, if_false, Bool.false_eq_true, Nat.zero_add, Option.isNone_some, Option.isNone_none, Bool.not_true, Bool.not_false, List.getElem?_cons_succ, List.getElem?_cons_zero, ln_sl_sl_uint8, ia_sl_sl_uint8, ld_sl_uint8, ln_sl_uint8, cv_uint16_int, cv_int_uint8, ia_sl_uint8, ln_sl_uint16, ia_sl_uint16, ld_uint16, sl_sl_uint8_lohi, sl_sl_uint8_hi, sl_sl_uint8_lo, cv_uint8_int, bd_ar4_uint64_0_1_2_3, bd_xxh_Hash_0, peql_p_xxh_Hash, fa_xxh_Hash_all, ld_uint64, cv_int_uint64, fa_xxh_Hash_kept, fa_xxh_Hash_n, ld_int, sl_ar32_uint8_lo, fa_xxh_Hash_v, ia_ar4_uint64, sl_ar32_uint8_lohi, sl_ar32_uint8_hi, ld_uint8, cv_uint8_uint64, ln_string, ix_string, cv_int_uint, bd_ar4_int_0_1_2_3, ix_ar4_int, ix_ar4_uint64, sl_string_lo, bd_lightermanref01_R_0, fa_lightermanref01_R_E, ld_api_Errno, fa_lightermanref01_R_B, ld_string, sl_string_hi, hd, hod.cell, hashCells_n h1 h2, shiftA_ne1 (show r ≠ 32 by omega)]
    have hvd : Bs (dr w') (.slice (some ⟨b', o', none⟩) n c) (l.drop m) := hv.ext (Ext.dr w' nob) (by unfold inB nob; split <;> simp)
    refine cp_sl_uint8 hod (by rw [hashCells_length h1 h2]; omega) hvd (bs_one _) fun w1 o1 x1 s1 => ?_
    obtain ⟨u, hu⟩ : ∃ u, u = min n (32 - r) := ⟨_, rfl⟩
    have hlm : (List.map b2v (l.drop m)).length = n := by rw [List.length_map, List.length_drop, hn]
    rw [hlm] at o1 ⊢
    rw [← hu] at o1 ⊢
    have hu1 : u ≤ n ∧ u ≤ 32 - r ∧ (u = n ∨ u = 32 - r) := by omega
    have hul : ((l.drop m).take u).length = u := by rw [List.length_take, List.length_drop]; omega
    rw [← List.map_take, hashCells_over h1 _ _ _ (by omega)] at o1
    obtain ⟨kept1, hk1⟩ : ∃ x, x = over kept r ((l.drop m).take u) := ⟨_, rfl⟩
    rw [← hk1] at o1
    have h21 : kept1.length = 32 := by rw [hk1, over_length (by omega)]; exact h2
    simp (disch := omega) only [Stp, Same, stepR_value, stepR_skip, r_add, r_sub, r_mul, r_quo, r_rem, r_and, r_or, r_xor, r_andNot, r_shl, r_shr, r_eql, r_neq, r_lss, r_leq, r_gtr, r_geq, r_neg, r_cpl, r_not, r_pick, r_min, r_max, r_nil, x20, x21, x30, x31, x32, x40, x41, x42, x43, ldC_some, Result.ok.injEq, Next.value.injEq, true_and, and_true, w_i64, w_u64, w_i32, w_u32, w_u16, w_u8, Int.toNat_natCast, isB_tt, isB_tf, isB_ft, isB_ff, Gd_true, Gd_false, Cnd_true, Cnd_false, if_true, if_false, Bool.false_eq_true, Nat.zero_add, Option.isNone_some, Option.isNone_none, Bool.not_true, Bool.not_false, List.getElem?_cons_succ, List.getElem?_cons_zero, ln_sl_sl_uint8, ia_sl_sl_uint8, ld_sl_uint8, ln_sl_uint8, cv_uint16_int, cv_int_uint8, ia_sl_uint8, ln_sl_uint16, ia_sl_uint16, ld_uint16, sl_sl_uint8_lohi, sl_sl_uint8_hi, sl_sl_uint8_lo, cv_uint8_int, bd_ar4_uint64_0_1_2_3, bd_xxh_Hash_0, peql_p_xxh_Hash, fa_xxh_Hash_all, ld_uint64, cv_int_uint64, fa_xxh_Hash_kept, fa_xxh_Hash_n, ld_int, sl_ar32_uint8_lo, fa_xxh_Hash_v, ia_ar4_uint64, sl_ar32_uint8_lohi, sl_ar32_uint8_hi, ld_uint8, cv_uint8_uint64, ln_string, ix_string, cv_int_uint, bd_ar4_int_0_1_2_3, ix_ar4_int, ix_ar4_uint64, sl_string_lo, bd_lightermanref01_R_0, fa_lightermanref01_R_E, ld_api_Errno, fa_lightermanref01_R_B, ld_string, sl_string_hi, o1.cell, hashCells_n h1 h21]
    refine st_int o1 rfl (by rw [hashCells_length h1 h21]; omega) fun w2 o2 x2 s2 => ?_
    rw [← Int.natCast_add, hashCells_set_n h1 h21] at o2
    have hx2 : Ext w' w2 (fun x => x = b) := ((Ext.dr w' _).seq x1).seq x2
    have hv2 := hv.ext hx2 hb
    have hv3 := hv2.drop hu1.1
    have hb3 := inB_shift (k := u) hb (by omega) (n - u)
    rw [← List.map_drop, List.drop_drop] at hv3
    have hM2 : L ++ l.take (m + u) = (L ++ l.take m) ++ (l.drop m).take u := by rw [List.append_assoc, List.take_add]
    have hacc : accV q (L ++ l.take (m + u)) = accV q (L ++ l.take m) := by rw [hM2]; exact accV_append _ _ _ (by omega)
    have hlen2 : (L ++ l.take (m + u)).length = L.length + (m + u) := by simp; omega
    have hkeep : kept1.take (r + u) = (L ++ l.take (m + u)).drop (32 * q) := by
      rw [hk1, hM2, List.drop_append_of_le_length (by omega), ← hk]
      unfold over
      rw [List.take_append_of_le_length (by simp; omega), List.take_of_length_le (by simp; omega)]
    rw [← hacc] at o2
    simp (disch := omega) only [Stp, Same, stepR_value, stepR_skip, r_add, r_sub, r_mul, r_quo, r_rem, r_and, r_or, r_xor, r_andNot, r_shl, r_shr, r_eql, r_neq, r_lss, r_leq, r_gtr, r_geq, r_neg, r_cpl, r_not, r_pick, r_min, r_max, r_nil, x20, x21, x30, x31, x32, x40, x41, x42, x43, ldC_some, Result.ok.injEq, Next.value.injEq, true_and, and_true, w_i64, w_u64, w_i32, w_u32, w_u16, w_u8, Int.toNat_natCast, isB_tt, isB_tf, isB_ft, isB_ff, Gd_true, Gd_false, Cnd_true, Cnd_false, if_true, if_false, Bool.false_eq_true, Nat.zero_add, Option.isNone_some, Option.isNone_none, Bool.not_true, Bool.not_false, List.getElem?_cons_succ, List.getElem?_cons_zero, ln_sl_sl_uint8, ia_sl_sl_uint8, ld_sl_uint8, ln_sl_uint8, cv_uint16_int, cv_int_uint8, ia_sl_uint8, ln_sl_uint16, ia_sl_uint16, ld_uint16, sl_sl_uint8_lohi, sl_sl_uint8_hi, sl_sl_uint8_lo, cv_uint8_int, bd_ar4_uint64_0_1_2_3, bd_xxh_Hash_0, peql_p_xxh_Hash, fa_xxh_Hash_all, ld_uint64, cv_int_uint64, fa_xxh_Hash_kept, fa_xxh_Hash_n, ld_int, sl_ar32_uint8_lo, fa_xxh_Hash_v, ia_ar4_uint64, sl_ar32_uint8_lohi, sl_ar32_uint8_hi, ld_uint8, cv_uint8_uint64, ln_string, ix_string, cv_int_uint, bd_ar4_int_0_1_2_3, ix_ar4_int, ix_ar4_uint64, sl_string_lo, bd_lightermanref01_R_0, fa_lightermanref01_R_E, ld_api_Errno, fa_lightermanref01_R_B, ld_string, sl_string_hi, o2.cell, hashCells_n (accV_length _ _) h21]
    by_cases hfull : r + u = 32
    · have he : (((r + u : Nat) : Int) == 32) = true := by rw [hfull]; rfl
      rw [he]
      simp (disch := omega) only [Stp, Same, stepR_value, stepR_skip, r_add, r_sub, r_mul, r_quo, r_rem, r_and, r_or, r_xor, r_andNot, r_shl, r_shr, r_eql, r_neq, r_lss, r_leq, r_gtr, r_geq, r_neg, r_cpl, r_not, r_pick, r_min, r_max, r_nil, x20, x21, x30, x31, x32, x40, x41, x42, x43, ldC_some, Result.ok.injEq, Next.value.injEq, true_and, and_true, w_i64, w_u64, w_i32, w_u32, w_u16, w_u8, Int.toNat_natCast, isB_tt, isB_tf, isB_ft, isB_ff, Gd_true, Gd_false, Cnd_true, Cnd_false, if_true, if_false, Bool.false_eq_true, Nat.zero_add, Option.isNone_some, Option.isNone_none, Bool.not_true, Bool.not_false, List.getElem?_cons_succ, List.getElem?_cons_zero, ln_sl_sl_uint8, ia_sl_sl_uint8, ld_sl_uint8, ln_sl_uint8, cv_uint16_int, cv_int_uint8, ia_sl_uint8, ln_sl_uint16, ia_sl_uint16, ld_uint16, sl_sl_uint8_lohi, sl_sl_uint8_hi, sl_sl_uint8_lo, cv_uint8_int, bd_ar4_uint64_0_1_2_3, bd_xxh_Hash_0, peql_p_xxh_Hash, fa_xxh_Hash_all, ld_uint64, cv_int_uint64, fa_xxh_Hash_kept, fa_xxh_Hash_n, ld_int, sl_ar32_uint8_lo, fa_xxh_Hash_v, ia_ar4_uint64, sl_ar32_uint8_lohi, sl_ar32_uint8_hi, ld_uint8, cv_uint8_uint64, ln_string, ix_string, cv_int_uint, bd_ar4_int_0_1_2_3, ix_ar4_int, ix_ar4_uint64, sl_string_lo, bd_lightermanref01_R_0, fa_lightermanref01_R_E, ld_api_Errno, fa_lightermanref01_R_B, ld_string, sl_string_hi]
      rw [hfull] at o2 hkeep
      have h11 := accV_length q (L ++ l.take (m + u))
      refine write_stripe w2 b _ kept1 _ h11 h21 _ _ (fun w3 o3 x3 => ?_) w2 o2 (Ext.refl _ _)
      have h13 : (updV (accV q (L ++ l.take (m + u))) kept1 4).length = 4 := by rw [updV_length]; exact h11
      simp (disch := omega) only [xxh_Hash_Write_p14, xxh_Hash_Write_p13, xxh_Hash_Write_p12, xxh_Hash_Write_p11, xxh_Hash_Write_p10, xxh_Hash_Write_p9, xxh_Hash_Write_p8, xxh_Hash_Write_p7, xxh_Hash_Write_p1, Stp, Same, stepR_value, stepR_skip, r_add, r_sub, r_mul, r_quo, r_rem, r_and, r_or, r_xor, r_andNot, r_shl, r_shr, r_eql, r_neq, r_lss, r_leq, r_gtr, r_geq, r_neg, r_cpl, r_not, r_pick, r_min, r_max, r_nil, x20, x21, x30, x31, x32, x40, x41, x42, x43, ldC_some, Result.ok.injEq, Next.value.injEq, true_and, and_true, w_i64, w_u64, w_i32, w_u32, w_u16, w_u8, Int.toNat_natCast, isB_tt, isB_tf, isB_ft, isB_ff, Gd_true, Gd_false, Cnd_true, Cnd_false, if_true, if_false, Bool.false_eq_true, Nat.zero_add, Option.isNone_some, Option.isNone_none, Bool.not_true, Bool.not_false, List.getElem?_cons_succ, List.getElem?_cons_zero, ln_sl_sl_uint8, ia_sl_sl_uint8, ld_sl_uint8, ln_sl_uint8, cv_uint16_int, cv_int_uint8, ia_sl_uint8, ln_sl_uint16, ia_sl_uint16, ld_uint16, sl_sl_uint8_lohi, sl_sl_uint8_hi, sl_sl_uint8_lo, cv_uint8_int, bd_ar4_uint64_0_1_2_3, bd_xxh_Hash_0, peql_p_xxh_Hash, fa_xxh_Hash_all, ld_uint64, cv_int_uint64, fa_xxh_Hash_kept, fa_xxh_Hash_n, ld_int, sl_ar32_uint8_lo, fa_xxh_Hash_v, ia_ar4_uint64, sl_ar32_uint8_lohi, sl_ar32_uint8_hi, ld_uint8, cv_uint8_uint64, ln_string, ix_string, cv_int_uint, bd_ar4_int_0_1_2_3, ix_ar4_int, ix_ar4_uint64, sl_string_lo, bd_lightermanref01_R_0, fa_lightermanref01_R_E, ld_api_Errno, fa_lightermanref01_R_B, ld_string, sl_string_hi]
      refine st_int o3 rfl (by rw [hashCells_length h13 h21]; omega) fun w4 o4 x4 s4 => ?_
      have o4 : Own w4 b ((hashCells (updV (accV q (L ++ l.take (m + u))) kept1 4) kept1 32 (L.length + l.length)).set 36 (.int .i64 ((0 : Nat) : Int))) := o4
      rw [hashCells_set_n h13 h21] at o4
      have hx4 := x3.seq x4
      have hkk : kept1 = (L ++ l.take (m + u)).drop (32 * q) := by rw [← hkeep, List.take_of_length_le (by omega)]
      refine ⟨l.length - (m + u), by omega, m + u, by omega, rfl, hv3.ext hx4 hb3, hb3, ⟨kept1, h21, ?_, ?_⟩, (hx.seq hx2).seq hx4⟩
      · have z : (L ++ l.take (m + u)).drop (32 * ((L.length + (m + u)) / 32)) = [] := List.drop_eq_nil_of_le (by rw [hlen2]; omega)
        have z1 : (L.length + (m + u)) % 32 = 0 := by omega
        rw [hlen2, z, z1]; rfl
      · have z1 : (L.length + (m + u)) % 32 = 0 := by omega
        have z2 : (L.length + (m + u)) / 32 = q + 1 := by omega
        have z3 : kept1.take 32 = kept1 := List.take_of_length_le (by omega)
        rw [hlen2, z1, z2, accV, ← hkk, z3]
        exact o4
    · have he : (((r + u : Nat) : Int) == 32) = false := by rw [beq_eq_false_iff_ne]; omega
      rw [he]
      simp (disch := omega) only [Stp, Same, stepR_value, stepR_skip, r_add, r_sub, r_mul, r_quo, r_rem, r_and, r_or, r_xor, r_andNot, r_shl, r_shr, r_eql, r_neq, r_lss, r_leq, r_gtr, r_geq, r_neg, r_cpl, r_not, r_pick, r_min, r_max, r_nil, x20, x21, x30, x31, x32, x40, x41, x42, x43, ldC_some, Result.ok.injEq, Next.value.injEq, true_and, and_true, w_i64, w_u64, w_i32, w_u32, w_u16, w_u8, Int.toNat_natCast, isB_tt, isB_tf, isB_ft, isB_ff, Gd_true, Gd_false, Cnd_true, Cnd_false, if_true, if_false, Bool.false_eq_true, Nat.zero_add, Option.isNone_some, Option.isNone_none, Bool.not_true, Bool.not_false, List.getElem?_cons_succ, List.getElem?_cons_zero, ln_sl_sl_uint8, ia_sl_sl_uint8, ld_sl_uint8, ln_sl_uint8, cv_uint16_int, cv_int_uint8, ia_sl_uint8, ln_sl_uint16, ia_sl_uint16, ld_uint16, sl_sl_uint8_lohi, sl_sl_uint8_hi, sl_sl_uint8_lo, cv_uint8_int, bd_ar4_uint64_0_1_2_3, bd_xxh_Hash_0, peql_p_xxh_Hash, fa_xxh_Hash_all, ld_uint64, cv_int_uint64, fa_xxh_Hash_kept, fa_xxh_Hash_n, ld_int, sl_ar32_uint8_lo, fa_xxh_Hash_v, ia_ar4_uint64, sl_ar32_uint8_lohi, sl_ar32_uint8_hi, ld_uint8, cv_uint8_uint64, ln_string, ix_string, cv_int_uint, bd_ar4_int_0_1_2_3, ix_ar4_int, ix_ar4_uint64, sl_string_lo, bd_lightermanref01_R_0, fa_lightermanref01_R_E, ld_api_Errno, fa_lightermanref01_R_B, ld_string, sl_string_hi]
      refine ⟨l.length - (m + u), by omega, m + u, by omega, rfl, hv3, hb3, ⟨kept1, h21, ?_, ?_⟩, hx.seq hx2⟩
      · rw [hlen2, show (L.length + (m + u)) % 32 = r + u from by omega, show (L.length + (m + u)) / 32 = q from by omega]; exact hkeep
      · rw [hlen2, show (L.length + (m + u)) % 32 = r + u from by omega, show (L.length + (m + u)) / 32 = q from by omega]; exact o2
  · have hd : decide ((0 : Int) < (n : Int)) = false := by simp; omega
    simp (disch := omega) only [xxh_Hash_Write_p14, xxh_Hash_Write_p13, xxh_Hash_Write_p12, xxh_Hash_Write_p11, xxh_Hash_Write_p10, xxh_Hash_Write_p9, xxh_Hash_Write_p8, xxh_Hash_Write_p7, xxh_Hash_Write_p1, Stp, Same, stepR_value, stepR_skip, r_add, r_sub, r_mul, r_quo, r_rem, r_and, r_or, r_xor, r_andNot, r_shl, r_shr, r_eql, r_neq, r_lss, r_leq, r_gtr, r_geq, r_neg, r_cpl, r_not, r_pick, r_min, r_max, r_nil, x20, x21, x30, x31, x32, x40, x41, x42, x43, ldC_some, Result.ok.injEq, Next.value.injEq, true_and, and_true, w_i64, w_u64, w_i32, w_u32, w_u16, w_u8, Int.toNat_natCast, isB_tt, isB_tf, isB_ft, isB_ff, Gd_true, Gd_false, Cnd_true, Cnd_false, if_true, if_false, Bool.false_eq_true, Nat.zero_add, Option.isNone_some, Option.isNone_none, Bool.not_true, Bool.not_false, List.getElem?_cons_succ, List.getElem?_cons_zero, ln_sl_sl_uint8, ia_sl_sl_uint8, ld_sl_uint8, ln_sl_uint8, cv_uint16_int, cv_int_uint8, ia_sl_uint8, ln_sl_uint16, ia_sl_uint16, ld_uint16, sl_sl_uint8_lohi, sl_sl_uint8_hi, sl_sl_uint8_lo, cv_uint8_int, bd_ar4_uint64_0_1_2_3, bd_xxh_Hash_0, peql_p_xxh_Hash, fa_xxh_Hash_all, ld_uint64, cv_int_uint64, fa_xxh_Hash_kept, fa_xxh_Hash_n, ld_int, sl_ar32_uint8_lo, fa_xxh_Hash_v, ia_ar4_uint64, sl_ar32_uint8_lohi, sl_ar32_uint8_hi, ld_uint8, cv_uint8_uint64, ln_string, ix_string, cv_int_uint, bd_ar4_int_0_1_2_3, ix_ar4_int, ix_ar4_uint64, sl_string_lo, bd_lightermanref01_R_0, fa_lightermanref01_R_E, ld_api_Errno, fa_lightermanref01_R_B, ld_string, sl_string_hi, hd]
    refine hR _ ⟨kept, h2, ?_, ?_⟩ hx
    · have e : l.take m = l := List.take_of_length_le (by omega)
      rw [e] at hk; exact hk
    · have e : l.take m = l := List.take_of_length_le (by omega)
      rw [e] at ho; exact ho

theorem write_c (b : Nat) (L l : List UInt8) (hlen : L.length + l.length ≤ 1099511627776) (v : Value) (w : World) (h : HashAt w b L) (hv : Bs w v l) (hb : ¬ inB v (fun x => x = b)) :
    Does pg F_xxh_Hash_Write #[.pointer (some ⟨b, 0, none⟩), v] w (fun r w' => r = .tuple #[] ∧ HashAt w' b (L ++ l) ∧ Ext w w' (fun x => x = b)) := by
  refine xxh_Hash_Write_does ?_
  obtain ⟨kept, h2, hk, ho⟩ := h
  have h1 := accV_length (L.length / 32) L
  have hv' := hv
  obtain ⟨a, n, c, rfl, hn, hc, hcell⟩ := hv'
  rw [List.length_map] at hn
  simp (disch := omega) only [xxh_Hash_Write, xxh_Hash_Write_p18, xxh_Hash_Write_p17, xxh_Hash_Write_p16, Stp, Same, stepR_value, stepR_skip, r_add, r_sub, r_mul, r_quo, r_rem, r_and, r_or, r_xor, r_andNot, r_shl, r_shr, r_eql, r_neq, r_lss, r_leq, r_gtr, r_geq, r_neg, r_cpl, r_not, r_pick, r_min, r_max, r_nil, x20, x21, x30, x31, x32, x40, x41, x42, x43, ldC_some, Result.ok.injEq, Next.value.injEq, true_and, and_true, w_i64, w_u64, w_i32, w_u32, w_u16, w_u8, Int.toNat_natCast, isB_tt, isB_tf, isB_ft, isB_ff, Gd_true, Gd_false, Cnd_true, Cnd_false, if_true, if_false, Bool.false_eq_true, Nat.zero_add, Option.isNone_some, Option.isNone_none, Bool.not_true, Bool.not_false, List.getElem?_cons_succ, List.getElem?_cons_zero, ln_sl_sl_uint8, ia_sl_sl_uint8, ld_sl_uint8, ln_sl_uint8, cv_uint16_int, cv_int_uint8, ia_sl_uint8, ln_sl_uint16, ia_sl_uint16, ld_uint16, sl_sl_uint8_lohi, sl_sl_uint8_hi, sl_sl_uint8_lo, cv_uint8_int, bd_ar4_uint64_0_1_2_3, bd_xxh_Hash_0, peql_p_xxh_Hash, fa_xxh_Hash_all, ld_uint64, cv_int_uint64, fa_xxh_Hash_kept, fa_xxh_Hash_n, ld_int, sl_ar32_uint8_lo, fa_xxh_Hash_v, ia_ar4_uint64, sl_ar32_uint8_lohi, sl_ar32_uint8_hi, ld_uint8, cv_uint8_uint64, ln_string, ix_string, cv_int_uint, bd_ar4_int_0_1_2_3, ix_ar4_int, ix_ar4_uint64, sl_string_lo, bd_lightermanref01_R_0, fa_lightermanref01_R_E, ld_api_Errno, fa_lightermanref01_R_B, ld_string, sl_string_hi, ho.cell, hashCells_all h1 h2]
  refine st_uint64 ho rfl (by rw [hashCells_length h1 h2]; omega) fun w1 o1 x1 s1 => ?_
  rw [← Int.natCast_add, hn, hashCells_set_all h1 h2] at o1
  refine write_loop w b L l hlen _ (fun w' hh hx => ⟨?_, hx⟩) _ w1 ⟨kept, h2, hk, o1⟩ (hv.ext x1 hb) hb x1
  unfold HashAt; rw [List.length_append]; exact hh

end Go.Proofs.Ytblljiohpcbieaa
