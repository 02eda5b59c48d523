/- Contract: lengths of codes. -/
import Derived.Test.YtoepfjgekpdddaaBW1
import Derived.Test.YtoepfjgekpdddaaPuW
namespace Go.Proofs.Ytoepfjgekpdddaa
open Go Go.En Go.Pu
set_option maxRecDepth 4000
set_option linter.unusedSimpArgs false
set_option linter.unusedVariables false

/-- numbers as cells -/
abbrev oc (out : List Nat) : List Value := out.map fun (n : Nat) => Value.int .i64 n
theorem oc_get {out : List Nat} {i : Nat} (h : i < out.length) : (oc out)[i]? = some (.int .i64 (out.getD i 0 : Nat)) := by
  rw [List.getElem?_map, List.getElem?_eq_getElem h, ← getD_at h]; rfl
theorem oc_set (out : List Nat) (i x : Nat) : (oc out).set i (.int .i64 x) = oc (out.set i x) := by unfold oc; rw [List.map_set]
abbrev u32s (ns : List Nat) : List Value := ns.map fun (n : Nat) => Value.int .u32 n
theorem u32_get {ns : List Nat} {i : Nat} (h : i < ns.length) : (u32s ns)[i]? = some (.int .u32 (ns.getD i 0 : Nat)) := by
  rw [List.getElem?_map, List.getElem?_eq_getElem h, ← getD_at h]; rfl

theorem len_loop1 {pb S : Nat} {ov : Value} {ns : List Nat} {w : World} (hs : Sl w ov (u32s ns)) (hn : ∀ n ∈ ns, n ≤ 4294967295) (hl : ns.length ≤ 256) (hS0 : 0 < S) (hS : S ≤ 2147483647) (ob : Own w pb (oc (List.replicate ns.length 0))) (hat : ¬ inB ov (fun y => y = pb)) {RR : Value → World → Prop}
    (hK : ∀ out w', LenI ns out → Own w' pb (oc out) → Ext w w' (fun y => y = pb) → weights_lengths_p35 RR ov (.slice (some ⟨pb, 0, none⟩) ns.length ns.length) (.int .i64 (2048 - (kraft out : Nat))) w') :
    weights_lengths_p43 RR ov (.int .u64 S) (.slice (some ⟨pb, 0, none⟩) ns.length ns.length) (.int .i64 2048) w := by
  unfold weights_lengths_p43 weights_lengths_p42 weights_lengths_p41
  obtain ⟨a, c, hv, hc⟩ := hs.len
  rw [List.length_map] at hv
  subst hv
  simp (disch := omega) only [Stp, Same, stepR_value, stepR_skip, r_add, r_sub, r_mul, r_quo, r_rem, r_and, r_or, r_xor, r_andNot, r_shl, r_shr, r_eql, r_neq, r_lss, r_leq, r_gtr, r_geq, r_neg, r_cpl, r_not, r_pick, r_min, r_max, r_nil, x20, x21, x30, x31, x32, x40, x41, x42, x43, ldC_some, Result.ok.injEq, Next.value.injEq, true_and, and_true, w_i64, w_u64, w_i32, w_u32, w_u16, w_u8, Int.toNat_natCast, isB_tt, isB_tf, isB_ft, isB_ff, Gd_true, Gd_false, Gs_true, Gs_false, Cnd_true, Cnd_false, if_true, if_false, Bool.false_eq_true, Nat.zero_add, Option.isNone_some, Option.isNone_none, Bool.not_true, Bool.not_false, List.getElem?_cons_succ, List.getElem?_cons_zero, ln_sl_uint8, cv_int_uint, cv_int_uint8, ln_string, ia_sl_uint8, ld_uint8, cv_uint8_int, bd_weights_Code_0_1, ia_sl_weights_Code, bd_lightermanref08_C_, ix_string, bd_lightermanref08_C_0_1, ia_sl_lightermanref08_C, sl_sl_uint8_lo, sl_sl_uint8_hi, ln_sl_uint32, ia_sl_uint32, ld_uint32, cv_uint32_uint64, sl_sl_uint32_hi, ln_sl_int, ia_sl_int, ld_int, cv_uint_uint32, seql_sl_uint8, cv_uint32_uint8, cv_uint64_uint8]
  unfold weights_lengths_p40 weights_lengths_p39
  refine LoopD.rule (fun m (t : Value × Value) w' => ∃ (i : Nat) (out : List Nat), m = ns.length - i ∧ t = (.int .i64 (2048 - (kraft out : Nat)), .int .i64 i) ∧ i ≤ ns.length ∧ out.length = ns.length ∧ (∀ j, i ≤ j → out.getD j 0 = 0) ∧
      (∀ j, j < i → ns.getD j 0 = 0 → out.getD j 0 = 0) ∧ (∀ j, j < i → 0 < ns.getD j 0 → 1 ≤ out.getD j 0 ∧ out.getD j 0 ≤ 11) ∧ kraft out ≤ 1024 * i ∧ Own w' pb (oc out) ∧ Ext w w' (fun y => y = pb)) ns.length
    ⟨0, List.replicate ns.length 0, rfl, ?_, by omega, by simp, ?_, fun j h => by omega, fun j h => by omega, ?_, ob, Ext.refl _ _⟩ ?_
  · have : kraft (List.replicate ns.length 0) = 0 := by
      unfold kraft
      rw [List.map_replicate]
      exact zeros_sum fun n hn => by rw [List.eq_of_mem_replicate hn]; rfl
    rw [this]; rfl
  · intro j _
    rw [List.getD_eq_getElem?_getD, List.getElem?_replicate]
    split <;> rfl
  · unfold kraft
    rw [List.map_replicate, zeros_sum fun n hn => by rw [List.eq_of_mem_replicate hn]; rfl]; omega
  rintro m t w1 ⟨i, out, rfl, rfl, hi, hlen, hz, hoff, hon, hkr, ob1, x1⟩
  unfold weights_lengths_p38 weights_lengths_p37
  by_cases hlt : i < ns.length
  · have d1 : decide ((i : Int) < (ns.length : Int)) = true := by simp; omega
    obtain ⟨b1, off1, rfl, hcell1⟩ := slA (hs.ext x1 hat) (by omega)
    have g1 := hcell1 i hlt
    rw [u32_get hlt] at g1
    have hni : ns.getD i 0 ≤ 4294967295 := by rw [getD_at hlt]; exact hn _ (List.getElem_mem hlt)
    generalize hnv : ns.getD i 0 = n at *
    unfold weights_lengths_p36
    by_cases h0 : 0 < n
    · have d2 : decide ((0 : Int) < (n : Int)) = true := by simp; omega
      have e1 : (S : Int) - 1 = ((S - 1 : Nat) : Int) := by omega
      have e2 : ((S - 1 : Nat) : Int).tdiv (n : Int) = (((S - 1) / n : Nat) : Int) := by rw [Int.tdiv_eq_ediv_of_nonneg (by omega)]; simp
      have n2 : ((n : Int) == 0) = false := beq_eq_false_iff_ne.2 (by omega)
      have hq : (S - 1) / n ≤ S - 1 := Nat.div_le_self _ _
      generalize (S - 1) / n = qv at *
      simp (disch := omega) only [Stp, Same, stepR_value, stepR_skip, r_add, r_sub, r_mul, r_quo, r_rem, r_and, r_or, r_xor, r_andNot, r_shl, r_shr, r_eql, r_neq, r_lss, r_leq, r_gtr, r_geq, r_neg, r_cpl, r_not, r_pick, r_min, r_max, r_nil, x20, x21, x30, x31, x32, x40, x41, x42, x43, ldC_some, Result.ok.injEq, Next.value.injEq, true_and, and_true, w_i64, w_u64, w_i32, w_u32, w_u16, w_u8, Int.toNat_natCast, isB_tt, isB_tf, isB_ft, isB_ff, Gd_true, Gd_false, Gs_true, Gs_false, Cnd_true, Cnd_false, if_true, if_false, Bool.false_eq_true, Nat.zero_add, Option.isNone_some, Option.isNone_none, Bool.not_true, Bool.not_false, List.getElem?_cons_succ, List.getElem?_cons_zero, ln_sl_uint8, cv_int_uint, cv_int_uint8, ln_string, ia_sl_uint8, ld_uint8, cv_uint8_int, bd_weights_Code_0_1, ia_sl_weights_Code, bd_lightermanref08_C_, ix_string, bd_lightermanref08_C_0_1, ia_sl_lightermanref08_C, sl_sl_uint8_lo, sl_sl_uint8_hi, ln_sl_uint32, ia_sl_uint32, ld_uint32, cv_uint32_uint64, sl_sl_uint32_hi, ln_sl_int, ia_sl_int, ld_int, cv_uint_uint32, seql_sl_uint8, cv_uint32_uint8, cv_uint64_uint8, d1, g1, d2, e1, n2, e2]
      refine (len64_c qv (by omega) w1).mono ?_
      rintro r w2 ⟨rfl, rfl⟩
      have hbl : bl qv ≤ 32 := bl_le_of (by omega)
      generalize bl qv = y at *
      have hmx : (if (1 : Int) > (y : Int) then (1 : Int) else (y : Int)) = ((max y 1 : Nat) : Int) := by split <;> omega
      have hmn : (if (11 : Int) < ((max y 1 : Nat) : Int) then (11 : Int) else ((max y 1 : Nat) : Int)) = ((min (max y 1) 11 : Nat) : Int) := by split <;> omega
      have hxb : 1 ≤ min (max y 1) 11 ∧ min (max y 1) 11 ≤ 11 := by omega
      generalize min (max y 1) 11 = x at *
      have hks := kraft_set (l := out) (i := i) x (by omega)
      have hoi : out[i]'(by omega) = 0 := by rw [← getD_at (by omega)]; exact hz i (Nat.le_refl _)
      rw [hoi] at hks
      have hk0 : kTerm 0 = 0 := rfl
      have hkx : kTerm x = 2 ^ (11 - x) := by unfold kTerm; rw [if_neg (by omega)]
      have hpx : 2 ^ (11 - x) ≤ 2 ^ 10 := Nat.pow_le_pow_right (by omega) (by omega)
      rw [hk0, hkx, Nat.add_zero] at hks
      simp only [gt_iff_lt] at hmx
      simp (disch := omega) only [Stp, Same, stepR_value, stepR_skip, r_add, r_sub, r_mul, r_quo, r_rem, r_and, r_or, r_xor, r_andNot, r_shl, r_shr, r_eql, r_neq, r_lss, r_leq, r_gtr, r_geq, r_neg, r_cpl, r_not, r_pick, r_min, r_max, r_nil, x20, x21, x30, x31, x32, x40, x41, x42, x43, ldC_some, Result.ok.injEq, Next.value.injEq, true_and, and_true, w_i64, w_u64, w_i32, w_u32, w_u16, w_u8, Int.toNat_natCast, isB_tt, isB_tf, isB_ft, isB_ff, Gd_true, Gd_false, Gs_true, Gs_false, Cnd_true, Cnd_false, if_true, if_false, Bool.false_eq_true, Nat.zero_add, Option.isNone_some, Option.isNone_none, Bool.not_true, Bool.not_false, List.getElem?_cons_succ, List.getElem?_cons_zero, ln_sl_uint8, cv_int_uint, cv_int_uint8, ln_string, ia_sl_uint8, ld_uint8, cv_uint8_int, bd_weights_Code_0_1, ia_sl_weights_Code, bd_lightermanref08_C_, ix_string, bd_lightermanref08_C_0_1, ia_sl_lightermanref08_C, sl_sl_uint8_lo, sl_sl_uint8_hi, ln_sl_uint32, ia_sl_uint32, ld_uint32, cv_uint32_uint64, sl_sl_uint32_hi, ln_sl_int, ia_sl_int, ld_int, cv_uint_uint32, seql_sl_uint8, cv_uint32_uint8, cv_uint64_uint8, hmx, hmn, gt_iff_lt]
      refine st_int ob1 rfl (by rw [List.length_map]; omega) fun w3 ob3 x3 s3 => ?_
      rw [oc_set] at ob3
      have f1 := ob3.cell (off := i)
      rw [oc_get (by rw [List.length_set]; omega), getD_set x (by omega) (by omega), if_pos rfl] at f1
      have e3 : (11 : Int) - (x : Int) = ((11 - x : Nat) : Int) := by omega
      have hsh := shl1 (n := 11 - x) (by omega)
      have e4 : (2048 : Int) - ((kraft out : Nat) : Int) - ((2 ^ (11 - x) : Nat) : Int) = 2048 - ((kraft (out.set i x) : Nat) : Int) := by omega
      simp (disch := omega) only [Stp, Same, stepR_value, stepR_skip, r_add, r_sub, r_mul, r_quo, r_rem, r_and, r_or, r_xor, r_andNot, r_shl, r_shr, r_eql, r_neq, r_lss, r_leq, r_gtr, r_geq, r_neg, r_cpl, r_not, r_pick, r_min, r_max, r_nil, x20, x21, x30, x31, x32, x40, x41, x42, x43, ldC_some, Result.ok.injEq, Next.value.injEq, true_and, and_true, w_i64, w_u64, w_i32, w_u32, w_u16, w_u8, Int.toNat_natCast, isB_tt, isB_tf, isB_ft, isB_ff, Gd_true, Gd_false, Gs_true, Gs_false, Cnd_true, Cnd_false, if_true, if_false, Bool.false_eq_true, Nat.zero_add, Option.isNone_some, Option.isNone_none, Bool.not_true, Bool.not_false, List.getElem?_cons_succ, List.getElem?_cons_zero, ln_sl_uint8, cv_int_uint, cv_int_uint8, ln_string, ia_sl_uint8, ld_uint8, cv_uint8_int, bd_weights_Code_0_1, ia_sl_weights_Code, bd_lightermanref08_C_, ix_string, bd_lightermanref08_C_0_1, ia_sl_lightermanref08_C, sl_sl_uint8_lo, sl_sl_uint8_hi, ln_sl_uint32, ia_sl_uint32, ld_uint32, cv_uint32_uint64, sl_sl_uint32_hi, ln_sl_int, ia_sl_int, ld_int, cv_uint_uint32, seql_sl_uint8, cv_uint32_uint8, cv_uint64_uint8, f1, e3, hsh, e4]
      refine ⟨ns.length - (i + 1), by omega, i + 1, out.set i x, rfl, rfl, by omega, by rw [List.length_set]; exact hlen, ?_, ?_, ?_, by omega, ob3, x1.trans x3 fun _ _ h => h⟩
      · intro j hj
        rcases Nat.lt_or_ge j out.length with h | h
        · rw [getD_set x (by omega) h, if_neg (by omega)]; exact hz j (by omega)
        · rw [List.getD_eq_getElem?_getD, List.getElem?_eq_none (by rw [List.length_set]; exact h)]; rfl
      · intro j hj h0'
        rw [getD_set x (by omega) (by omega)]
        split
        · rename_i e; subst e; omega
        · exact hoff j (by omega) h0'
      · intro j hj h0'
        rw [getD_set x (by omega) (by omega)]
        split
        · exact hxb
        · exact hon j (by omega) h0'
    · have d2 : decide ((0 : Int) < (n : Int)) = false := by simp; omega
      simp (disch := omega) only [Stp, Same, stepR_value, stepR_skip, r_add, r_sub, r_mul, r_quo, r_rem, r_and, r_or, r_xor, r_andNot, r_shl, r_shr, r_eql, r_neq, r_lss, r_leq, r_gtr, r_geq, r_neg, r_cpl, r_not, r_pick, r_min, r_max, r_nil, x20, x21, x30, x31, x32, x40, x41, x42, x43, ldC_some, Result.ok.injEq, Next.value.injEq, true_and, and_true, w_i64, w_u64, w_i32, w_u32, w_u16, w_u8, Int.toNat_natCast, isB_tt, isB_tf, isB_ft, isB_ff, Gd_true, Gd_false, Gs_true, Gs_false, Cnd_true, Cnd_false, if_true, if_false, Bool.false_eq_true, Nat.zero_add, Option.isNone_some, Option.isNone_none, Bool.not_true, Bool.not_false, List.getElem?_cons_succ, List.getElem?_cons_zero, ln_sl_uint8, cv_int_uint, cv_int_uint8, ln_string, ia_sl_uint8, ld_uint8, cv_uint8_int, bd_weights_Code_0_1, ia_sl_weights_Code, bd_lightermanref08_C_, ix_string, bd_lightermanref08_C_0_1, ia_sl_lightermanref08_C, sl_sl_uint8_lo, sl_sl_uint8_hi, ln_sl_uint32, ia_sl_uint32, ld_uint32, cv_uint32_uint64, sl_sl_uint32_hi, ln_sl_int, ia_sl_int, ld_int, cv_uint_uint32, seql_sl_uint8, cv_uint32_uint8, cv_uint64_uint8, d1, g1, d2]
      refine ⟨ns.length - (i + 1), by omega, i + 1, out, rfl, rfl, by omega, hlen, fun j hj => hz j (by omega), ?_, ?_, by omega, ob1, x1⟩
      · intro j hj h0'
        rcases Nat.lt_or_ge j i with h | h
        · exact hoff j h h0'
        · exact hz j h
      · intro j hj h0'
        rcases Nat.lt_or_ge j i with h | h
        · exact hon j h h0'
        · have : j = i := by omega
          subst this; omega
  · have d1 : decide ((i : Int) < (ns.length : Int)) = false := by simp; omega
    obtain rfl : i = ns.length := by omega
    simp (disch := omega) only [Stp, Same, stepR_value, stepR_skip, r_add, r_sub, r_mul, r_quo, r_rem, r_and, r_or, r_xor, r_andNot, r_shl, r_shr, r_eql, r_neq, r_lss, r_leq, r_gtr, r_geq, r_neg, r_cpl, r_not, r_pick, r_min, r_max, r_nil, x20, x21, x30, x31, x32, x40, x41, x42, x43, ldC_some, Result.ok.injEq, Next.value.injEq, true_and, and_true, w_i64, w_u64, w_i32, w_u32, w_u16, w_u8, Int.toNat_natCast, isB_tt, isB_tf, isB_ft, isB_ff, Gd_true, Gd_false, Gs_true, Gs_false, Cnd_true, Cnd_false, if_true, if_false, Bool.false_eq_true, Nat.zero_add, Option.isNone_some, Option.isNone_none, Bool.not_true, Bool.not_false, List.getElem?_cons_succ, List.getElem?_cons_zero, ln_sl_uint8, cv_int_uint, cv_int_uint8, ln_string, ia_sl_uint8, ld_uint8, cv_uint8_int, bd_weights_Code_0_1, ia_sl_weights_Code, bd_lightermanref08_C_, ix_string, bd_lightermanref08_C_0_1, ia_sl_lightermanref08_C, sl_sl_uint8_lo, sl_sl_uint8_hi, ln_sl_uint32, ia_sl_uint32, ld_uint32, cv_uint32_uint64, sl_sl_uint32_hi, ln_sl_int, ia_sl_int, ld_int, cv_uint_uint32, seql_sl_uint8, cv_uint32_uint8, cv_uint64_uint8, d1]
    exact hK out w1 ⟨hlen, hoff, hon⟩ ob1 x1
end Go.Proofs.Ytoepfjgekpdddaa
/- Contract: lengths of codes: the loops that fit them to the room. -/
namespace Go.Proofs.Ytoepfjgekpdddaa
open Go Go.En Go.Pu
set_option maxRecDepth 4000
set_option linter.unusedSimpArgs false
set_option linter.unusedVariables false

theorem isBu (b : Bool) : isB undef b = false := by cases b <;> rfl
/-- which one is made longer -/
def Pick4 (ns out : List Nat) (i : Nat) (at' : Int) : Prop := (at' = -1 ∧ ∀ j, j < i → ¬ (0 < ns.getD j 0 ∧ out.getD j 0 < 11)) ∨ (∃ a : Nat, at' = a ∧ a < ns.length ∧ 0 < ns.getD a 0 ∧ out.getD a 0 < 11)

theorem len_seek4 {pb : Nat} {ov : Value} {room : Int} {ns out : List Nat} {w : World} (hs : Sl w ov (u32s ns)) (hn : ∀ n ∈ ns, n ≤ 4294967295) (hl : ns.length ≤ 256) (h : LenI ns out) (ob : Own w pb (oc out)) {kn : Value → Value → Value → Value → World → Prop}
    (hK : ∀ at' w', Pick4 ns out ns.length at' → Ext w w' nob → kn ov (.slice (some ⟨pb, 0, none⟩) ns.length ns.length) (.int .i64 room) (.int .i64 at') w') :
    weights_lengths_p26 kn ov (.slice (some ⟨pb, 0, none⟩) ns.length ns.length) (.int .i64 room) (.int .i64 (-1)) w := by
  unfold weights_lengths_p26 weights_lengths_p25
  obtain ⟨a, c, hv, hc⟩ := hs.len
  rw [List.length_map] at hv
  subst hv
  have hlen := h.len
  simp (disch := omega) only [Stp, Same, stepR_value, stepR_skip, r_add, r_sub, r_mul, r_quo, r_rem, r_and, r_or, r_xor, r_andNot, r_shl, r_shr, r_eql, r_neq, r_lss, r_leq, r_gtr, r_geq, r_neg, r_cpl, r_not, r_pick, r_min, r_max, r_nil, x20, x21, x30, x31, x32, x40, x41, x42, x43, ldC_some, Result.ok.injEq, Next.value.injEq, true_and, and_true, w_i64, w_u64, w_i32, w_u32, w_u16, w_u8, Int.toNat_natCast, isB_tt, isB_tf, isB_ft, isB_ff, Gd_true, Gd_false, Gs_true, Gs_false, Cnd_true, Cnd_false, if_true, if_false, Bool.false_eq_true, Nat.zero_add, Option.isNone_some, Option.isNone_none, Bool.not_true, Bool.not_false, List.getElem?_cons_succ, List.getElem?_cons_zero, ln_sl_uint8, cv_int_uint, cv_int_uint8, ln_string, ia_sl_uint8, ld_uint8, cv_uint8_int, bd_weights_Code_0_1, ia_sl_weights_Code, bd_lightermanref08_C_, ix_string, bd_lightermanref08_C_0_1, ia_sl_lightermanref08_C, sl_sl_uint8_lo, sl_sl_uint8_hi, ln_sl_uint32, ia_sl_uint32, ld_uint32, cv_uint32_uint64, sl_sl_uint32_hi, ln_sl_int, ia_sl_int, ld_int, cv_uint_uint32, seql_sl_uint8, cv_uint32_uint8, cv_uint64_uint8]
  unfold weights_lengths_p24 weights_lengths_p23
  refine LoopD.rule (fun m (t : Value × Value) w' => ∃ (i : Nat) (at' : Int), m = ns.length - i ∧ t = (.int .i64 at', .int .i64 i) ∧ i ≤ ns.length ∧ Pick4 ns out i at' ∧ Ext w w' nob) ns.length
    ⟨0, -1, rfl, rfl, by omega, .inl ⟨rfl, fun j h => by omega⟩, Ext.refl _ _⟩ ?_
  rintro m t w1 ⟨i, at', rfl, rfl, hi, hp, x1⟩
  unfold weights_lengths_p22 weights_lengths_p21
  by_cases hlt : i < ns.length
  · have d1 : decide ((i : Int) < (ns.length : Int)) = true := by simp; omega
    have x1d : Ext w (dr w1) nob := x1.seq (Ext.dr _ _)
    obtain ⟨b1, off1, rfl, hcell1⟩ := slA (hs.ext x1 (inB_nob _)) (by omega)
    have g1 := hcell1 i hlt
    rw [u32_get hlt] at g1
    have g1d : (dr w1).cell? ⟨b1, off1 + i, none⟩ = _ := g1
    have f1 := (ob.ext x1d (fun h => h)).cell (off := i)
    rw [oc_get (by omega)] at f1
    have keep : ¬ (0 < ns.getD i 0 ∧ out.getD i 0 < 11) → Pick4 ns out (i + 1) at' := fun hb => by
      rcases hp with ⟨q1, q2⟩ | q
      · refine .inl ⟨q1, fun j hj => ?_⟩
        rcases Nat.lt_or_ge j i with h' | h'
        · exact q2 j h'
        · have : j = i := by omega
          subst this; exact hb
      · exact .inr q
    have keep2 : (0 : Int) ≤ at' → Pick4 ns out (i + 1) at' := fun hb => by
      rcases hp with ⟨q1, q2⟩ | q
      · omega
      · exact .inr q
    have new : 0 < ns.getD i 0 → out.getD i 0 < 11 → Pick4 ns out (i + 1) (i : Int) := fun q1 q2 => .inr ⟨i, rfl, hlt, q1, q2⟩
    unfold weights_lengths_p20
    by_cases h0 : 0 < ns.getD i 0
    · have d2 : decide ((0 : Int) < ((ns.getD i 0 : Nat) : Int)) = true := by simp only [decide_eq_true_eq]; omega
      by_cases h11 : out.getD i 0 < 11
      · have d3 : decide (((out.getD i 0 : Nat) : Int) < (11 : Int)) = true := by simp only [decide_eq_true_eq]; omega
        rcases hp with ⟨rfl, q2⟩ | ⟨a, rfl, ha, ha0, ha11⟩
        · have d4 : decide ((-1 : Int) < 0) = true := rfl
          simp (disch := omega) only [Stp, Same, stepR_value, stepR_skip, r_add, r_sub, r_mul, r_quo, r_rem, r_and, r_or, r_xor, r_andNot, r_shl, r_shr, r_eql, r_neq, r_lss, r_leq, r_gtr, r_geq, r_neg, r_cpl, r_not, r_pick, r_min, r_max, r_nil, x20, x21, x30, x31, x32, x40, x41, x42, x43, ldC_some, Result.ok.injEq, Next.value.injEq, true_and, and_true, w_i64, w_u64, w_i32, w_u32, w_u16, w_u8, Int.toNat_natCast, isB_tt, isB_tf, isB_ft, isB_ff, Gd_true, Gd_false, Gs_true, Gs_false, Cnd_true, Cnd_false, if_true, if_false, Bool.false_eq_true, Nat.zero_add, Option.isNone_some, Option.isNone_none, Bool.not_true, Bool.not_false, List.getElem?_cons_succ, List.getElem?_cons_zero, ln_sl_uint8, cv_int_uint, cv_int_uint8, ln_string, ia_sl_uint8, ld_uint8, cv_uint8_int, bd_weights_Code_0_1, ia_sl_weights_Code, bd_lightermanref08_C_, ix_string, bd_lightermanref08_C_0_1, ia_sl_lightermanref08_C, sl_sl_uint8_lo, sl_sl_uint8_hi, ln_sl_uint32, ia_sl_uint32, ld_uint32, cv_uint32_uint64, sl_sl_uint32_hi, ln_sl_int, ia_sl_int, ld_int, cv_uint_uint32, seql_sl_uint8, cv_uint32_uint8, cv_uint64_uint8, isBu, d1, g1, g1d, d2, f1, d3, d4]
          exact ⟨ns.length - (i + 1), by omega, i + 1, _, rfl, rfl, by omega, new h0 h11, x1d⟩
        · have d4 : decide ((a : Int) < 0) = false := by simp
          have f2 := (ob.ext x1d (fun h => h)).cell (off := a)
          rw [oc_get (by omega)] at f2
          have g2 : (dr w1).cell? ⟨b1, off1 + a, none⟩ = _ := hcell1 a ha
          rw [u32_get ha] at g2
          by_cases h5 : out.getD a 0 < out.getD i 0
          · have d5 : decide (((out.getD a 0 : Nat) : Int) < ((out.getD i 0 : Nat) : Int)) = true := by simp only [decide_eq_true_eq]; omega
            simp (disch := omega) only [Stp, Same, stepR_value, stepR_skip, r_add, r_sub, r_mul, r_quo, r_rem, r_and, r_or, r_xor, r_andNot, r_shl, r_shr, r_eql, r_neq, r_lss, r_leq, r_gtr, r_geq, r_neg, r_cpl, r_not, r_pick, r_min, r_max, r_nil, x20, x21, x30, x31, x32, x40, x41, x42, x43, ldC_some, Result.ok.injEq, Next.value.injEq, true_and, and_true, w_i64, w_u64, w_i32, w_u32, w_u16, w_u8, Int.toNat_natCast, isB_tt, isB_tf, isB_ft, isB_ff, Gd_true, Gd_false, Gs_true, Gs_false, Cnd_true, Cnd_false, if_true, if_false, Bool.false_eq_true, Nat.zero_add, Option.isNone_some, Option.isNone_none, Bool.not_true, Bool.not_false, List.getElem?_cons_succ, List.getElem?_cons_zero, ln_sl_uint8, cv_int_uint, cv_int_uint8, ln_string, ia_sl_uint8, ld_uint8, cv_uint8_int, bd_weights_Code_0_1, ia_sl_weights_Code, bd_lightermanref08_C_, ix_string, bd_lightermanref08_C_0_1, ia_sl_lightermanref08_C, sl_sl_uint8_lo, sl_sl_uint8_hi, ln_sl_uint32, ia_sl_uint32, ld_uint32, cv_uint32_uint64, sl_sl_uint32_hi, ln_sl_int, ia_sl_int, ld_int, cv_uint_uint32, seql_sl_uint8, cv_uint32_uint8, cv_uint64_uint8, isBu, d1, g1, g1d, d2, f1, d3, d4, f2, g2, d5]
            exact ⟨ns.length - (i + 1), by omega, i + 1, _, rfl, rfl, by omega, new h0 h11, x1d⟩
          · have d5 : decide (((out.getD a 0 : Nat) : Int) < ((out.getD i 0 : Nat) : Int)) = false := by simp only [decide_eq_false_iff_not]; omega
            by_cases h6 : out.getD i 0 = out.getD a 0
            · have d6 : (((out.getD i 0 : Nat) : Int) == ((out.getD a 0 : Nat) : Int)) = true := by rw [h6]; simp
              by_cases h7 : ns.getD i 0 < ns.getD a 0
              · have d7 : decide (((ns.getD i 0 : Nat) : Int) < ((ns.getD a 0 : Nat) : Int)) = true := by simp only [decide_eq_true_eq]; omega
                simp (maxSteps := 4000000) (disch := omega) only [Stp, Same, stepR_value, stepR_skip, r_add, r_sub, r_mul, r_quo, r_rem, r_and, r_or, r_xor, r_andNot, r_shl, r_shr, r_eql, r_neq, r_lss, r_leq, r_gtr, r_geq, r_neg, r_cpl, r_not, r_pick, r_min, r_max, r_nil, x20, x21, x30, x31, x32, x40, x41, x42, x43, ldC_some, Result.ok.injEq, Next.value.injEq, true_and, and_true, w_i64, w_u64, w_i32, w_u32, w_u16, w_u8, Int.toNat_natCast, isB_tt, isB_tf, isB_ft, isB_ff, Gd_true, Gd_false, Gs_true, Gs_false, Cnd_true, Cnd_false, if_true, if_false, Bool.false_eq_true, Nat.zero_add, Option.isNone_some, Option.isNone_none, Bool.not_true, Bool.not_false, List.getElem?_cons_succ, List.getElem?_cons_zero, ln_sl_uint8, cv_int_uint, cv_int_uint8, ln_string, ia_sl_uint8, ld_uint8, cv_uint8_int, bd_weights_Code_0_1, ia_sl_weights_Code, bd_lightermanref08_C_, ix_string, bd_lightermanref08_C_0_1, ia_sl_lightermanref08_C, sl_sl_uint8_lo, sl_sl_uint8_hi, ln_sl_uint32, ia_sl_uint32, ld_uint32, cv_uint32_uint64, sl_sl_uint32_hi, ln_sl_int, ia_sl_int, ld_int, cv_uint_uint32, seql_sl_uint8, cv_uint32_uint8, cv_uint64_uint8, isBu, d1, g1, g1d, d2, f1, d3, d4, f2, g2, d5, d6, d7]
                exact ⟨ns.length - (i + 1), by omega, i + 1, _, rfl, rfl, by omega, new h0 h11, x1d⟩
              · have d7 : decide (((ns.getD i 0 : Nat) : Int) < ((ns.getD a 0 : Nat) : Int)) = false := by simp only [decide_eq_false_iff_not]; omega
                simp (maxSteps := 4000000) (disch := omega) only [Stp, Same, stepR_value, stepR_skip, r_add, r_sub, r_mul, r_quo, r_rem, r_and, r_or, r_xor, r_andNot, r_shl, r_shr, r_eql, r_neq, r_lss, r_leq, r_gtr, r_geq, r_neg, r_cpl, r_not, r_pick, r_min, r_max, r_nil, x20, x21, x30, x31, x32, x40, x41, x42, x43, ldC_some, Result.ok.injEq, Next.value.injEq, true_and, and_true, w_i64, w_u64, w_i32, w_u32, w_u16, w_u8, Int.toNat_natCast, isB_tt, isB_tf, isB_ft, isB_ff, Gd_true, Gd_false, Gs_true, Gs_false, Cnd_true, Cnd_false, if_true, if_false, Bool.false_eq_true, Nat.zero_add, Option.isNone_some, Option.isNone_none, Bool.not_true, Bool.not_false, List.getElem?_cons_succ, List.getElem?_cons_zero, ln_sl_uint8, cv_int_uint, cv_int_uint8, ln_string, ia_sl_uint8, ld_uint8, cv_uint8_int, bd_weights_Code_0_1, ia_sl_weights_Code, bd_lightermanref08_C_, ix_string, bd_lightermanref08_C_0_1, ia_sl_lightermanref08_C, sl_sl_uint8_lo, sl_sl_uint8_hi, ln_sl_uint32, ia_sl_uint32, ld_uint32, cv_uint32_uint64, sl_sl_uint32_hi, ln_sl_int, ia_sl_int, ld_int, cv_uint_uint32, seql_sl_uint8, cv_uint32_uint8, cv_uint64_uint8, isBu, d1, g1, g1d, d2, f1, d3, d4, f2, g2, d5, d6, d7]
                exact ⟨ns.length - (i + 1), by omega, i + 1, _, rfl, rfl, by omega, .inr ⟨a, rfl, ha, ha0, ha11⟩, x1d⟩
            · have d6 : (((out.getD i 0 : Nat) : Int) == ((out.getD a 0 : Nat) : Int)) = false := beq_eq_false_iff_ne.2 (by omega)
              simp (maxSteps := 4000000) (disch := omega) only [Stp, Same, stepR_value, stepR_skip, r_add, r_sub, r_mul, r_quo, r_rem, r_and, r_or, r_xor, r_andNot, r_shl, r_shr, r_eql, r_neq, r_lss, r_leq, r_gtr, r_geq, r_neg, r_cpl, r_not, r_pick, r_min, r_max, r_nil, x20, x21, x30, x31, x32, x40, x41, x42, x43, ldC_some, Result.ok.injEq, Next.value.injEq, true_and, and_true, w_i64, w_u64, w_i32, w_u32, w_u16, w_u8, Int.toNat_natCast, isB_tt, isB_tf, isB_ft, isB_ff, Gd_true, Gd_false, Gs_true, Gs_false, Cnd_true, Cnd_false, if_true, if_false, Bool.false_eq_true, Nat.zero_add, Option.isNone_some, Option.isNone_none, Bool.not_true, Bool.not_false, List.getElem?_cons_succ, List.getElem?_cons_zero, ln_sl_uint8, cv_int_uint, cv_int_uint8, ln_string, ia_sl_uint8, ld_uint8, cv_uint8_int, bd_weights_Code_0_1, ia_sl_weights_Code, bd_lightermanref08_C_, ix_string, bd_lightermanref08_C_0_1, ia_sl_lightermanref08_C, sl_sl_uint8_lo, sl_sl_uint8_hi, ln_sl_uint32, ia_sl_uint32, ld_uint32, cv_uint32_uint64, sl_sl_uint32_hi, ln_sl_int, ia_sl_int, ld_int, cv_uint_uint32, seql_sl_uint8, cv_uint32_uint8, cv_uint64_uint8, isBu, d1, g1, g1d, d2, f1, d3, d4, f2, g2, d5, d6]
              exact ⟨ns.length - (i + 1), by omega, i + 1, _, rfl, rfl, by omega, .inr ⟨a, rfl, ha, ha0, ha11⟩, x1d⟩
      · have d3 : decide (((out.getD i 0 : Nat) : Int) < (11 : Int)) = false := by simp only [decide_eq_false_iff_not]; omega
        simp (disch := omega) only [Stp, Same, stepR_value, stepR_skip, r_add, r_sub, r_mul, r_quo, r_rem, r_and, r_or, r_xor, r_andNot, r_shl, r_shr, r_eql, r_neq, r_lss, r_leq, r_gtr, r_geq, r_neg, r_cpl, r_not, r_pick, r_min, r_max, r_nil, x20, x21, x30, x31, x32, x40, x41, x42, x43, ldC_some, Result.ok.injEq, Next.value.injEq, true_and, and_true, w_i64, w_u64, w_i32, w_u32, w_u16, w_u8, Int.toNat_natCast, isB_tt, isB_tf, isB_ft, isB_ff, Gd_true, Gd_false, Gs_true, Gs_false, Cnd_true, Cnd_false, if_true, if_false, Bool.false_eq_true, Nat.zero_add, Option.isNone_some, Option.isNone_none, Bool.not_true, Bool.not_false, List.getElem?_cons_succ, List.getElem?_cons_zero, ln_sl_uint8, cv_int_uint, cv_int_uint8, ln_string, ia_sl_uint8, ld_uint8, cv_uint8_int, bd_weights_Code_0_1, ia_sl_weights_Code, bd_lightermanref08_C_, ix_string, bd_lightermanref08_C_0_1, ia_sl_lightermanref08_C, sl_sl_uint8_lo, sl_sl_uint8_hi, ln_sl_uint32, ia_sl_uint32, ld_uint32, cv_uint32_uint64, sl_sl_uint32_hi, ln_sl_int, ia_sl_int, ld_int, cv_uint_uint32, seql_sl_uint8, cv_uint32_uint8, cv_uint64_uint8, isBu, d1, g1, g1d, d2, f1, d3]
        exact ⟨ns.length - (i + 1), by omega, i + 1, _, rfl, rfl, by omega, keep (by omega), x1d⟩
    · have d2 : decide ((0 : Int) < ((ns.getD i 0 : Nat) : Int)) = false := by simp only [decide_eq_false_iff_not]; omega
      simp (disch := omega) only [Stp, Same, stepR_value, stepR_skip, r_add, r_sub, r_mul, r_quo, r_rem, r_and, r_or, r_xor, r_andNot, r_shl, r_shr, r_eql, r_neq, r_lss, r_leq, r_gtr, r_geq, r_neg, r_cpl, r_not, r_pick, r_min, r_max, r_nil, x20, x21, x30, x31, x32, x40, x41, x42, x43, ldC_some, Result.ok.injEq, Next.value.injEq, true_and, and_true, w_i64, w_u64, w_i32, w_u32, w_u16, w_u8, Int.toNat_natCast, isB_tt, isB_tf, isB_ft, isB_ff, Gd_true, Gd_false, Gs_true, Gs_false, Cnd_true, Cnd_false, if_true, if_false, Bool.false_eq_true, Nat.zero_add, Option.isNone_some, Option.isNone_none, Bool.not_true, Bool.not_false, List.getElem?_cons_succ, List.getElem?_cons_zero, ln_sl_uint8, cv_int_uint, cv_int_uint8, ln_string, ia_sl_uint8, ld_uint8, cv_uint8_int, bd_weights_Code_0_1, ia_sl_weights_Code, bd_lightermanref08_C_, ix_string, bd_lightermanref08_C_0_1, ia_sl_lightermanref08_C, sl_sl_uint8_lo, sl_sl_uint8_hi, ln_sl_uint32, ia_sl_uint32, ld_uint32, cv_uint32_uint64, sl_sl_uint32_hi, ln_sl_int, ia_sl_int, ld_int, cv_uint_uint32, seql_sl_uint8, cv_uint32_uint8, cv_uint64_uint8, isBu, d1, g1, g1d, d2]
      exact ⟨ns.length - (i + 1), by omega, i + 1, _, rfl, rfl, by omega, keep (by omega), x1d⟩
  · have d1 : decide ((i : Int) < (ns.length : Int)) = false := by simp; omega
    obtain rfl : i = ns.length := by omega
    simp (disch := omega) only [Stp, Same, stepR_value, stepR_skip, r_add, r_sub, r_mul, r_quo, r_rem, r_and, r_or, r_xor, r_andNot, r_shl, r_shr, r_eql, r_neq, r_lss, r_leq, r_gtr, r_geq, r_neg, r_cpl, r_not, r_pick, r_min, r_max, r_nil, x20, x21, x30, x31, x32, x40, x41, x42, x43, ldC_some, Result.ok.injEq, Next.value.injEq, true_and, and_true, w_i64, w_u64, w_i32, w_u32, w_u16, w_u8, Int.toNat_natCast, isB_tt, isB_tf, isB_ft, isB_ff, Gd_true, Gd_false, Gs_true, Gs_false, Cnd_true, Cnd_false, if_true, if_false, Bool.false_eq_true, Nat.zero_add, Option.isNone_some, Option.isNone_none, Bool.not_true, Bool.not_false, List.getElem?_cons_succ, List.getElem?_cons_zero, ln_sl_uint8, cv_int_uint, cv_int_uint8, ln_string, ia_sl_uint8, ld_uint8, cv_uint8_int, bd_weights_Code_0_1, ia_sl_weights_Code, bd_lightermanref08_C_, ix_string, bd_lightermanref08_C_0_1, ia_sl_lightermanref08_C, sl_sl_uint8_lo, sl_sl_uint8_hi, ln_sl_uint32, ia_sl_uint32, ld_uint32, cv_uint32_uint64, sl_sl_uint32_hi, ln_sl_int, ia_sl_int, ld_int, cv_uint_uint32, seql_sl_uint8, cv_uint32_uint8, cv_uint64_uint8, d1]
    exact hK at' w1 hp x1

theorem len_loop2 {pb : Nat} {ov : Value} {ns out : List Nat} {w : World} (hs : Sl w ov (u32s ns)) (hn : ∀ n ∈ ns, n ≤ 4294967295) (hl : ns.length ≤ 256) (h : LenI ns out) (ob : Own w pb (oc out)) (hat : ¬ inB ov (fun y => y = pb)) {RR : Value → World → Prop}
    (hK : ∀ out w', LenI ns out → kraft out ≤ 2048 → Own w' pb (oc out) → Ext w w' (fun y => y = pb) → weights_lengths_p18 RR ov (.slice (some ⟨pb, 0, none⟩) ns.length ns.length) (.int .i64 (2048 - (kraft out : Nat))) w') :
    weights_lengths_p35 RR ov (.slice (some ⟨pb, 0, none⟩) ns.length ns.length) (.int .i64 (2048 - (kraft out : Nat))) w := by
  unfold weights_lengths_p35 weights_lengths_p34 weights_lengths_p33
  refine LoopD.rule (fun m (t : Value) w' => ∃ out : List Nat, m = slack out ∧ t = .int .i64 (2048 - (kraft out : Nat)) ∧ LenI ns out ∧ Own w' pb (oc out) ∧ Ext w w' (fun y => y = pb)) (slack out) ⟨out, rfl, rfl, h, ob, Ext.refl _ _⟩ ?_
  rintro m t w1 ⟨out, rfl, rfl, h1, ob1, x1⟩
  have hlen := h1.len
  have hkb : kraft out ≤ 1024 * ns.length := by
    rw [← hlen]
    have : ∀ l : List Nat, kraft l ≤ 1024 * l.length := fun l => by
      induction l with
      | nil => simp [kraft]
      | cons x l ih =>
        rw [kraft_cons, List.length_cons]
        have : kTerm x ≤ 1024 := by
          unfold kTerm
          split
          · omega
          · have : 2 ^ (11 - x) ≤ 2 ^ 10 := Nat.pow_le_pow_right (by omega) (by omega)
            omega
        omega
    exact this out
  unfold weights_lengths_p32 weights_lengths_p31
  by_cases hneg : 2048 < kraft out
  · have d1 : decide ((2048 : Int) - ((kraft out : Nat) : Int) < 0) = true := by simp only [decide_eq_true_eq]; omega
    simp (disch := omega) only [Stp, Same, stepR_value, stepR_skip, r_add, r_sub, r_mul, r_quo, r_rem, r_and, r_or, r_xor, r_andNot, r_shl, r_shr, r_eql, r_neq, r_lss, r_leq, r_gtr, r_geq, r_neg, r_cpl, r_not, r_pick, r_min, r_max, r_nil, x20, x21, x30, x31, x32, x40, x41, x42, x43, ldC_some, Result.ok.injEq, Next.value.injEq, true_and, and_true, w_i64, w_u64, w_i32, w_u32, w_u16, w_u8, Int.toNat_natCast, isB_tt, isB_tf, isB_ft, isB_ff, Gd_true, Gd_false, Gs_true, Gs_false, Cnd_true, Cnd_false, if_true, if_false, Bool.false_eq_true, Nat.zero_add, Option.isNone_some, Option.isNone_none, Bool.not_true, Bool.not_false, List.getElem?_cons_succ, List.getElem?_cons_zero, ln_sl_uint8, cv_int_uint, cv_int_uint8, ln_string, ia_sl_uint8, ld_uint8, cv_uint8_int, bd_weights_Code_0_1, ia_sl_weights_Code, bd_lightermanref08_C_, ix_string, bd_lightermanref08_C_0_1, ia_sl_lightermanref08_C, sl_sl_uint8_lo, sl_sl_uint8_hi, ln_sl_uint32, ia_sl_uint32, ld_uint32, cv_uint32_uint64, sl_sl_uint32_hi, ln_sl_int, ia_sl_int, ld_int, cv_uint_uint32, seql_sl_uint8, cv_uint32_uint8, cv_uint64_uint8, d1]
    unfold weights_lengths_p30 weights_lengths_p29 weights_lengths_p28 weights_lengths_p27
    refine len_seek4 (room := 2048 - ((kraft out : Nat) : Int)) (hs.ext x1 hat) hn hl h1 ob1 fun at' w2 hp x2 => ?_
    rcases hp with ⟨_, q⟩ | ⟨a, rfl, ha, ha0, ha11⟩
    · exfalso
      have := room_eleven h1 hl q
      omega
    have ob2 := ob1.ext x2 (fun h => h)
    have f1 := ob2.cell (off := a)
    rw [oc_get (by omega)] at f1
    have hon := h1.on a ha ha0
    have hks := kraft_set (l := out) (i := a) (out.getD a 0 + 1) (by omega)
    have hsl := map_sum_set (fun o => 11 - o) (l := out) (i := a) (out.getD a 0 + 1) (by omega)
    have hset := h1.set (o := out.getD a 0 + 1) ha ha0 (by omega) (by omega)
    rw [← getD_at (by omega)] at hks hsl
    have hk1 : kTerm (out.getD a 0) = 2 * 2 ^ (10 - out.getD a 0) := by
      unfold kTerm
      rw [if_neg (by omega), ← Nat.pow_succ', show (10 - out.getD a 0).succ = 11 - out.getD a 0 from by omega]
    have hk2 : kTerm (out.getD a 0 + 1) = 2 ^ (10 - out.getD a 0) := by
      unfold kTerm
      rw [if_neg (by omega)]
      congr 1; omega
    rw [hk1, hk2] at hks
    have hsl2 : slack (out.set a (out.getD a 0 + 1)) + (11 - out.getD a 0) = slack out + (11 - (out.getD a 0 + 1)) := hsl
    generalize hov : out.getD a 0 = o at *
    have e1 : (11 : Int) - (o : Int) = ((11 - o : Nat) : Int) := by omega
    have e2 : ((11 - o : Nat) : Int) - 1 = ((10 - o : Nat) : Int) := by omega
    have hsh := shl1 (n := 10 - o) (by omega)
    have hp10 : 2 ^ (10 - o) ≤ 2 ^ 10 := Nat.pow_le_pow_right (by omega) (by omega)
    have e3 : (2048 : Int) - ((kraft out : Nat) : Int) + ((2 ^ (10 - o) : Nat) : Int) = 2048 - ((kraft (out.set a (o + 1)) : Nat) : Int) := by omega
    have e4 : (o : Int) + 1 = ((o + 1 : Nat) : Int) := by omega
    unfold weights_lengths_p19
    simp (disch := omega) only [Stp, Same, stepR_value, stepR_skip, r_add, r_sub, r_mul, r_quo, r_rem, r_and, r_or, r_xor, r_andNot, r_shl, r_shr, r_eql, r_neq, r_lss, r_leq, r_gtr, r_geq, r_neg, r_cpl, r_not, r_pick, r_min, r_max, r_nil, x20, x21, x30, x31, x32, x40, x41, x42, x43, ldC_some, Result.ok.injEq, Next.value.injEq, true_and, and_true, w_i64, w_u64, w_i32, w_u32, w_u16, w_u8, Int.toNat_natCast, isB_tt, isB_tf, isB_ft, isB_ff, Gd_true, Gd_false, Gs_true, Gs_false, Cnd_true, Cnd_false, if_true, if_false, Bool.false_eq_true, Nat.zero_add, Option.isNone_some, Option.isNone_none, Bool.not_true, Bool.not_false, List.getElem?_cons_succ, List.getElem?_cons_zero, ln_sl_uint8, cv_int_uint, cv_int_uint8, ln_string, ia_sl_uint8, ld_uint8, cv_uint8_int, bd_weights_Code_0_1, ia_sl_weights_Code, bd_lightermanref08_C_, ix_string, bd_lightermanref08_C_0_1, ia_sl_lightermanref08_C, sl_sl_uint8_lo, sl_sl_uint8_hi, ln_sl_uint32, ia_sl_uint32, ld_uint32, cv_uint32_uint64, sl_sl_uint32_hi, ln_sl_int, ia_sl_int, ld_int, cv_uint_uint32, seql_sl_uint8, cv_uint32_uint8, cv_uint64_uint8, f1, e1, e2, hsh, e3, e4]
    refine st_int ob2 rfl (by rw [List.length_map]; omega) fun w3 ob3 x3 s3 => ?_
    rw [oc_set] at ob3
    exact ⟨slack (out.set a (o + 1)), by omega, _, rfl, rfl, hset, ob3, (x1.seq (x2.mono fun _ _ h => h.elim)).trans x3 fun _ _ h => h⟩
  · have d1 : decide ((2048 : Int) - ((kraft out : Nat) : Int) < 0) = false := by simp only [decide_eq_false_iff_not]; omega
    simp (disch := omega) only [Stp, Same, stepR_value, stepR_skip, r_add, r_sub, r_mul, r_quo, r_rem, r_and, r_or, r_xor, r_andNot, r_shl, r_shr, r_eql, r_neq, r_lss, r_leq, r_gtr, r_geq, r_neg, r_cpl, r_not, r_pick, r_min, r_max, r_nil, x20, x21, x30, x31, x32, x40, x41, x42, x43, ldC_some, Result.ok.injEq, Next.value.injEq, true_and, and_true, w_i64, w_u64, w_i32, w_u32, w_u16, w_u8, Int.toNat_natCast, isB_tt, isB_tf, isB_ft, isB_ff, Gd_true, Gd_false, Gs_true, Gs_false, Cnd_true, Cnd_false, if_true, if_false, Bool.false_eq_true, Nat.zero_add, Option.isNone_some, Option.isNone_none, Bool.not_true, Bool.not_false, List.getElem?_cons_succ, List.getElem?_cons_zero, ln_sl_uint8, cv_int_uint, cv_int_uint8, ln_string, ia_sl_uint8, ld_uint8, cv_uint8_int, bd_weights_Code_0_1, ia_sl_weights_Code, bd_lightermanref08_C_, ix_string, bd_lightermanref08_C_0_1, ia_sl_lightermanref08_C, sl_sl_uint8_lo, sl_sl_uint8_hi, ln_sl_uint32, ia_sl_uint32, ld_uint32, cv_uint32_uint64, sl_sl_uint32_hi, ln_sl_int, ia_sl_int, ld_int, cv_uint_uint32, seql_sl_uint8, cv_uint32_uint8, cv_uint64_uint8, d1]
    exact hK out w1 h1 (by omega) ob1 x1
end Go.Proofs.Ytoepfjgekpdddaa
/- Contract: lengths of codes, whole. -/
namespace Go.Proofs.Ytoepfjgekpdddaa
open Go Go.En Go.Pu
set_option maxRecDepth 4000
set_option linter.unusedSimpArgs false
set_option linter.unusedVariables false

/-- which one is made shorter -/
def Pick6 (r : Nat) (ns out : List Nat) (i : Nat) (at' : Int) : Prop := (at' = -1 ∧ ∀ j, j < i → ¬ (0 < ns.getD j 0 ∧ 2 ^ (11 - out.getD j 0) ≤ r)) ∨ (∃ a : Nat, at' = a ∧ a < ns.length ∧ 0 < ns.getD a 0 ∧ 2 ^ (11 - out.getD a 0) ≤ r)

theorem len_seek6 {pb : Nat} {ov : Value} {r : Nat} {ns out : List Nat} {w : World} (hs : Sl w ov (u32s ns)) (hn : ∀ n ∈ ns, n ≤ 4294967295) (hl : ns.length ≤ 256) (h : LenI ns out) (hr : r ≤ 2048) (ob : Own w pb (oc out)) {kn : Value → Value → Value → Value → World → Prop}
    (hK : ∀ at' w', Pick6 r ns out ns.length at' → Ext w w' nob → kn ov (.slice (some ⟨pb, 0, none⟩) ns.length ns.length) (.int .i64 r) (.int .i64 at') w') :
    weights_lengths_p9 kn ov (.slice (some ⟨pb, 0, none⟩) ns.length ns.length) (.int .i64 r) (.int .i64 (-1)) w := by
  unfold weights_lengths_p9 weights_lengths_p8
  obtain ⟨a, c, hv, hc⟩ := hs.len
  rw [List.length_map] at hv
  subst hv
  have hlen := h.len
  simp (disch := omega) only [Stp, Same, stepR_value, stepR_skip, r_add, r_sub, r_mul, r_quo, r_rem, r_and, r_or, r_xor, r_andNot, r_shl, r_shr, r_eql, r_neq, r_lss, r_leq, r_gtr, r_geq, r_neg, r_cpl, r_not, r_pick, r_min, r_max, r_nil, x20, x21, x30, x31, x32, x40, x41, x42, x43, ldC_some, Result.ok.injEq, Next.value.injEq, true_and, and_true, w_i64, w_u64, w_i32, w_u32, w_u16, w_u8, Int.toNat_natCast, isB_tt, isB_tf, isB_ft, isB_ff, Gd_true, Gd_false, Gs_true, Gs_false, Cnd_true, Cnd_false, if_true, if_false, Bool.false_eq_true, Nat.zero_add, Option.isNone_some, Option.isNone_none, Bool.not_true, Bool.not_false, List.getElem?_cons_succ, List.getElem?_cons_zero, ln_sl_uint8, cv_int_uint, cv_int_uint8, ln_string, ia_sl_uint8, ld_uint8, cv_uint8_int, bd_weights_Code_0_1, ia_sl_weights_Code, bd_lightermanref08_C_, ix_string, bd_lightermanref08_C_0_1, ia_sl_lightermanref08_C, sl_sl_uint8_lo, sl_sl_uint8_hi, ln_sl_uint32, ia_sl_uint32, ld_uint32, cv_uint32_uint64, sl_sl_uint32_hi, ln_sl_int, ia_sl_int, ld_int, cv_uint_uint32, seql_sl_uint8, cv_uint32_uint8, cv_uint64_uint8]
  unfold weights_lengths_p7 weights_lengths_p6
  refine LoopD.rule (fun m (t : Value × Value) w' => ∃ (i : Nat) (at' : Int), m = ns.length - i ∧ t = (.int .i64 at', .int .i64 i) ∧ i ≤ ns.length ∧ Pick6 r ns out i at' ∧ Ext w w' nob) ns.length
    ⟨0, -1, rfl, rfl, by omega, .inl ⟨rfl, fun j h => by omega⟩, Ext.refl _ _⟩ ?_
  rintro m t w1 ⟨i, at', rfl, rfl, hi, hp, x1⟩
  unfold weights_lengths_p5 weights_lengths_p4
  by_cases hlt : i < ns.length
  · have d1 : decide ((i : Int) < (ns.length : Int)) = true := by simp; omega
    have x1d : Ext w (dr w1) nob := x1.seq (Ext.dr _ _)
    obtain ⟨b1, off1, rfl, hcell1⟩ := slA (hs.ext x1 (inB_nob _)) (by omega)
    have g1 := hcell1 i hlt
    rw [u32_get hlt] at g1
    have g1d : (dr w1).cell? ⟨b1, off1 + i, none⟩ = _ := g1
    have f1 := (ob.ext x1d (fun h => h)).cell (off := i)
    rw [oc_get (by omega)] at f1
    have keep : ¬ (0 < ns.getD i 0 ∧ 2 ^ (11 - out.getD i 0) ≤ r) → Pick6 r ns out (i + 1) at' := fun hb => by
      rcases hp with ⟨q1, q2⟩ | q
      · refine .inl ⟨q1, fun j hj => ?_⟩
        rcases Nat.lt_or_ge j i with h' | h'
        · exact q2 j h'
        · have : j = i := by omega
          subst this; exact hb
      · exact .inr q
    have keep2 : (0 : Int) ≤ at' → Pick6 r ns out (i + 1) at' := fun hb => by
      rcases hp with ⟨q1, q2⟩ | q
      · omega
      · exact .inr q
    have new : 0 < ns.getD i 0 → 2 ^ (11 - out.getD i 0) ≤ r → Pick6 r ns out (i + 1) (i : Int) := fun q1 q2 => .inr ⟨i, rfl, hlt, q1, q2⟩
    have hoi := h.le (i := i) (by omega)
    rw [← getD_at (by omega)] at hoi
    have e8 : (11 : Int) - ((out.getD i 0 : Nat) : Int) = ((11 - out.getD i 0 : Nat) : Int) := by omega
    have hsh := shl1 (n := 11 - out.getD i 0) (by omega)
    unfold weights_lengths_p3
    by_cases h0 : 0 < ns.getD i 0
    · have d2 : decide ((0 : Int) < ((ns.getD i 0 : Nat) : Int)) = true := by simp only [decide_eq_true_eq]; omega
      by_cases h11 : 2 ^ (11 - out.getD i 0) ≤ r
      · have d3 : decide (((2 ^ (11 - out.getD i 0) : Nat) : Int) ≤ (r : Int)) = true := by simp only [decide_eq_true_eq]; omega
        rcases hp with ⟨rfl, q2⟩ | ⟨a, rfl, ha, ha0, har⟩
        · have d4 : decide ((-1 : Int) < 0) = true := rfl
          simp (disch := omega) only [Stp, Same, stepR_value, stepR_skip, r_add, r_sub, r_mul, r_quo, r_rem, r_and, r_or, r_xor, r_andNot, r_shl, r_shr, r_eql, r_neq, r_lss, r_leq, r_gtr, r_geq, r_neg, r_cpl, r_not, r_pick, r_min, r_max, r_nil, x20, x21, x30, x31, x32, x40, x41, x42, x43, ldC_some, Result.ok.injEq, Next.value.injEq, true_and, and_true, w_i64, w_u64, w_i32, w_u32, w_u16, w_u8, Int.toNat_natCast, isB_tt, isB_tf, isB_ft, isB_ff, Gd_true, Gd_false, Gs_true, Gs_false, Cnd_true, Cnd_false, if_true, if_false, Bool.false_eq_true, Nat.zero_add, Option.isNone_some, Option.isNone_none, Bool.not_true, Bool.not_false, List.getElem?_cons_succ, List.getElem?_cons_zero, ln_sl_uint8, cv_int_uint, cv_int_uint8, ln_string, ia_sl_uint8, ld_uint8, cv_uint8_int, bd_weights_Code_0_1, ia_sl_weights_Code, bd_lightermanref08_C_, ix_string, bd_lightermanref08_C_0_1, ia_sl_lightermanref08_C, sl_sl_uint8_lo, sl_sl_uint8_hi, ln_sl_uint32, ia_sl_uint32, ld_uint32, cv_uint32_uint64, sl_sl_uint32_hi, ln_sl_int, ia_sl_int, ld_int, cv_uint_uint32, seql_sl_uint8, cv_uint32_uint8, cv_uint64_uint8, isBu, d1, g1, g1d, d2, f1, e8, hsh, d3, d4]
          exact ⟨ns.length - (i + 1), by omega, i + 1, _, rfl, rfl, by omega, new h0 h11, x1d⟩
        · have d4 : decide ((a : Int) < 0) = false := by simp
          have f2 := (ob.ext x1d (fun h => h)).cell (off := a)
          rw [oc_get (by omega)] at f2
          have g2 : (dr w1).cell? ⟨b1, off1 + a, none⟩ = _ := hcell1 a ha
          rw [u32_get ha] at g2
          by_cases h5 : out.getD a 0 < out.getD i 0
          · have d5 : decide (((out.getD a 0 : Nat) : Int) < ((out.getD i 0 : Nat) : Int)) = true := by simp only [decide_eq_true_eq]; omega
            simp (maxSteps := 4000000) (disch := omega) only [Stp, Same, stepR_value, stepR_skip, r_add, r_sub, r_mul, r_quo, r_rem, r_and, r_or, r_xor, r_andNot, r_shl, r_shr, r_eql, r_neq, r_lss, r_leq, r_gtr, r_geq, r_neg, r_cpl, r_not, r_pick, r_min, r_max, r_nil, x20, x21, x30, x31, x32, x40, x41, x42, x43, ldC_some, Result.ok.injEq, Next.value.injEq, true_and, and_true, w_i64, w_u64, w_i32, w_u32, w_u16, w_u8, Int.toNat_natCast, isB_tt, isB_tf, isB_ft, isB_ff, Gd_true, Gd_false, Gs_true, Gs_false, Cnd_true, Cnd_false, if_true, if_false, Bool.false_eq_true, Nat.zero_add, Option.isNone_some, Option.isNone_none, Bool.not_true, Bool.not_false, List.getElem?_cons_succ, List.getElem?_cons_zero, ln_sl_uint8, cv_int_uint, cv_int_uint8, ln_string, ia_sl_uint8, ld_uint8, cv_uint8_int, bd_weights_Code_0_1, ia_sl_weights_Code, bd_lightermanref08_C_, ix_string, bd_lightermanref08_C_0_1, ia_sl_lightermanref08_C, sl_sl_uint8_lo, sl_sl_uint8_hi, ln_sl_uint32, ia_sl_uint32, ld_uint32, cv_uint32_uint64, sl_sl_uint32_hi, ln_sl_int, ia_sl_int, ld_int, cv_uint_uint32, seql_sl_uint8, cv_uint32_uint8, cv_uint64_uint8, isBu, d1, g1, g1d, d2, f1, e8, hsh, d3, d4, f2, g2, d5]
            exact ⟨ns.length - (i + 1), by omega, i + 1, _, rfl, rfl, by omega, new h0 h11, x1d⟩
          · have d5 : decide (((out.getD a 0 : Nat) : Int) < ((out.getD i 0 : Nat) : Int)) = false := by simp only [decide_eq_false_iff_not]; omega
            by_cases h6 : out.getD i 0 = out.getD a 0
            · have d6 : (((out.getD i 0 : Nat) : Int) == ((out.getD a 0 : Nat) : Int)) = true := by rw [h6]; simp
              by_cases h7 : ns.getD a 0 < ns.getD i 0
              · have d7 : decide (((ns.getD a 0 : Nat) : Int) < ((ns.getD i 0 : Nat) : Int)) = true := by simp only [decide_eq_true_eq]; omega
                simp (maxSteps := 4000000) (disch := omega) only [Stp, Same, stepR_value, stepR_skip, r_add, r_sub, r_mul, r_quo, r_rem, r_and, r_or, r_xor, r_andNot, r_shl, r_shr, r_eql, r_neq, r_lss, r_leq, r_gtr, r_geq, r_neg, r_cpl, r_not, r_pick, r_min, r_max, r_nil, x20, x21, x30, x31, x32, x40, x41, x42, x43, ldC_some, Result.ok.injEq, Next.value.injEq, true_and, and_true, w_i64, w_u64, w_i32, w_u32, w_u16, w_u8, Int.toNat_natCast, isB_tt, isB_tf, isB_ft, isB_ff, Gd_true, Gd_false, Gs_true, Gs_false, Cnd_true, Cnd_false, if_true, if_false, Bool.false_eq_true, Nat.zero_add, Option.isNone_some, Option.isNone_none, Bool.not_true, Bool.not_false, List.getElem?_cons_succ, List.getElem?_cons_zero, ln_sl_uint8, cv_int_uint, cv_int_uint8, ln_string, ia_sl_uint8, ld_uint8, cv_uint8_int, bd_weights_Code_0_1, ia_sl_weights_Code, bd_lightermanref08_C_, ix_string, bd_lightermanref08_C_0_1, ia_sl_lightermanref08_C, sl_sl_uint8_lo, sl_sl_uint8_hi, ln_sl_uint32, ia_sl_uint32, ld_uint32, cv_uint32_uint64, sl_sl_uint32_hi, ln_sl_int, ia_sl_int, ld_int, cv_uint_uint32, seql_sl_uint8, cv_uint32_uint8, cv_uint64_uint8, isBu, d1, g1, g1d, d2, f1, e8, hsh, d3, d4, f2, g2, d5, d6, d7]
                exact ⟨ns.length - (i + 1), by omega, i + 1, _, rfl, rfl, by omega, new h0 h11, x1d⟩
              · have d7 : decide (((ns.getD a 0 : Nat) : Int) < ((ns.getD i 0 : Nat) : Int)) = false := by simp only [decide_eq_false_iff_not]; omega
                simp (maxSteps := 4000000) (disch := omega) only [Stp, Same, stepR_value, stepR_skip, r_add, r_sub, r_mul, r_quo, r_rem, r_and, r_or, r_xor, r_andNot, r_shl, r_shr, r_eql, r_neq, r_lss, r_leq, r_gtr, r_geq, r_neg, r_cpl, r_not, r_pick, r_min, r_max, r_nil, x20, x21, x30, x31, x32, x40, x41, x42, x43, ldC_some, Result.ok.injEq, Next.value.injEq, true_and, and_true, w_i64, w_u64, w_i32, w_u32, w_u16, w_u8, Int.toNat_natCast, isB_tt, isB_tf, isB_ft, isB_ff, Gd_true, Gd_false, Gs_true, Gs_false, Cnd_true, Cnd_false, if_true, if_false, Bool.false_eq_true, Nat.zero_add, Option.isNone_some, Option.isNone_none, Bool.not_true, Bool.not_false, List.getElem?_cons_succ, List.getElem?_cons_zero, ln_sl_uint8, cv_int_uint, cv_int_uint8, ln_string, ia_sl_uint8, ld_uint8, cv_uint8_int, bd_weights_Code_0_1, ia_sl_weights_Code, bd_lightermanref08_C_, ix_string, bd_lightermanref08_C_0_1, ia_sl_lightermanref08_C, sl_sl_uint8_lo, sl_sl_uint8_hi, ln_sl_uint32, ia_sl_uint32, ld_uint32, cv_uint32_uint64, sl_sl_uint32_hi, ln_sl_int, ia_sl_int, ld_int, cv_uint_uint32, seql_sl_uint8, cv_uint32_uint8, cv_uint64_uint8, isBu, d1, g1, g1d, d2, f1, e8, hsh, d3, d4, f2, g2, d5, d6, d7]
                exact ⟨ns.length - (i + 1), by omega, i + 1, _, rfl, rfl, by omega, .inr ⟨a, rfl, ha, ha0, har⟩, x1d⟩
            · have d6 : (((out.getD i 0 : Nat) : Int) == ((out.getD a 0 : Nat) : Int)) = false := beq_eq_false_iff_ne.2 (by omega)
              simp (maxSteps := 4000000) (disch := omega) only [Stp, Same, stepR_value, stepR_skip, r_add, r_sub, r_mul, r_quo, r_rem, r_and, r_or, r_xor, r_andNot, r_shl, r_shr, r_eql, r_neq, r_lss, r_leq, r_gtr, r_geq, r_neg, r_cpl, r_not, r_pick, r_min, r_max, r_nil, x20, x21, x30, x31, x32, x40, x41, x42, x43, ldC_some, Result.ok.injEq, Next.value.injEq, true_and, and_true, w_i64, w_u64, w_i32, w_u32, w_u16, w_u8, Int.toNat_natCast, isB_tt, isB_tf, isB_ft, isB_ff, Gd_true, Gd_false, Gs_true, Gs_false, Cnd_true, Cnd_false, if_true, if_false, Bool.false_eq_true, Nat.zero_add, Option.isNone_some, Option.isNone_none, Bool.not_true, Bool.not_false, List.getElem?_cons_succ, List.getElem?_cons_zero, ln_sl_uint8, cv_int_uint, cv_int_uint8, ln_string, ia_sl_uint8, ld_uint8, cv_uint8_int, bd_weights_Code_0_1, ia_sl_weights_Code, bd_lightermanref08_C_, ix_string, bd_lightermanref08_C_0_1, ia_sl_lightermanref08_C, sl_sl_uint8_lo, sl_sl_uint8_hi, ln_sl_uint32, ia_sl_uint32, ld_uint32, cv_uint32_uint64, sl_sl_uint32_hi, ln_sl_int, ia_sl_int, ld_int, cv_uint_uint32, seql_sl_uint8, cv_uint32_uint8, cv_uint64_uint8, isBu, d1, g1, g1d, d2, f1, e8, hsh, d3, d4, f2, g2, d5, d6]
              exact ⟨ns.length - (i + 1), by omega, i + 1, _, rfl, rfl, by omega, .inr ⟨a, rfl, ha, ha0, har⟩, x1d⟩
      · have d3 : decide (((2 ^ (11 - out.getD i 0) : Nat) : Int) ≤ (r : Int)) = false := by simp only [decide_eq_false_iff_not]; omega
        simp (disch := omega) only [Stp, Same, stepR_value, stepR_skip, r_add, r_sub, r_mul, r_quo, r_rem, r_and, r_or, r_xor, r_andNot, r_shl, r_shr, r_eql, r_neq, r_lss, r_leq, r_gtr, r_geq, r_neg, r_cpl, r_not, r_pick, r_min, r_max, r_nil, x20, x21, x30, x31, x32, x40, x41, x42, x43, ldC_some, Result.ok.injEq, Next.value.injEq, true_and, and_true, w_i64, w_u64, w_i32, w_u32, w_u16, w_u8, Int.toNat_natCast, isB_tt, isB_tf, isB_ft, isB_ff, Gd_true, Gd_false, Gs_true, Gs_false, Cnd_true, Cnd_false, if_true, if_false, Bool.false_eq_true, Nat.zero_add, Option.isNone_some, Option.isNone_none, Bool.not_true, Bool.not_false, List.getElem?_cons_succ, List.getElem?_cons_zero, ln_sl_uint8, cv_int_uint, cv_int_uint8, ln_string, ia_sl_uint8, ld_uint8, cv_uint8_int, bd_weights_Code_0_1, ia_sl_weights_Code, bd_lightermanref08_C_, ix_string, bd_lightermanref08_C_0_1, ia_sl_lightermanref08_C, sl_sl_uint8_lo, sl_sl_uint8_hi, ln_sl_uint32, ia_sl_uint32, ld_uint32, cv_uint32_uint64, sl_sl_uint32_hi, ln_sl_int, ia_sl_int, ld_int, cv_uint_uint32, seql_sl_uint8, cv_uint32_uint8, cv_uint64_uint8, isBu, d1, g1, g1d, d2, f1, e8, hsh, d3]
        exact ⟨ns.length - (i + 1), by omega, i + 1, _, rfl, rfl, by omega, keep (by omega), x1d⟩
    · have d2 : decide ((0 : Int) < ((ns.getD i 0 : Nat) : Int)) = false := by simp only [decide_eq_false_iff_not]; omega
      simp (disch := omega) only [Stp, Same, stepR_value, stepR_skip, r_add, r_sub, r_mul, r_quo, r_rem, r_and, r_or, r_xor, r_andNot, r_shl, r_shr, r_eql, r_neq, r_lss, r_leq, r_gtr, r_geq, r_neg, r_cpl, r_not, r_pick, r_min, r_max, r_nil, x20, x21, x30, x31, x32, x40, x41, x42, x43, ldC_some, Result.ok.injEq, Next.value.injEq, true_and, and_true, w_i64, w_u64, w_i32, w_u32, w_u16, w_u8, Int.toNat_natCast, isB_tt, isB_tf, isB_ft, isB_ff, Gd_true, Gd_false, Gs_true, Gs_false, Cnd_true, Cnd_false, if_true, if_false, Bool.false_eq_true, Nat.zero_add, Option.isNone_some, Option.isNone_none, Bool.not_true, Bool.not_false, List.getElem?_cons_succ, List.getElem?_cons_zero, ln_sl_uint8, cv_int_uint, cv_int_uint8, ln_string, ia_sl_uint8, ld_uint8, cv_uint8_int, bd_weights_Code_0_1, ia_sl_weights_Code, bd_lightermanref08_C_, ix_string, bd_lightermanref08_C_0_1, ia_sl_lightermanref08_C, sl_sl_uint8_lo, sl_sl_uint8_hi, ln_sl_uint32, ia_sl_uint32, ld_uint32, cv_uint32_uint64, sl_sl_uint32_hi, ln_sl_int, ia_sl_int, ld_int, cv_uint_uint32, seql_sl_uint8, cv_uint32_uint8, cv_uint64_uint8, isBu, d1, g1, g1d, d2]
      exact ⟨ns.length - (i + 1), by omega, i + 1, _, rfl, rfl, by omega, keep (by omega), x1d⟩
  · have d1 : decide ((i : Int) < (ns.length : Int)) = false := by simp; omega
    obtain rfl : i = ns.length := by omega
    simp (disch := omega) only [Stp, Same, stepR_value, stepR_skip, r_add, r_sub, r_mul, r_quo, r_rem, r_and, r_or, r_xor, r_andNot, r_shl, r_shr, r_eql, r_neq, r_lss, r_leq, r_gtr, r_geq, r_neg, r_cpl, r_not, r_pick, r_min, r_max, r_nil, x20, x21, x30, x31, x32, x40, x41, x42, x43, ldC_some, Result.ok.injEq, Next.value.injEq, true_and, and_true, w_i64, w_u64, w_i32, w_u32, w_u16, w_u8, Int.toNat_natCast, isB_tt, isB_tf, isB_ft, isB_ff, Gd_true, Gd_false, Gs_true, Gs_false, Cnd_true, Cnd_false, if_true, if_false, Bool.false_eq_true, Nat.zero_add, Option.isNone_some, Option.isNone_none, Bool.not_true, Bool.not_false, List.getElem?_cons_succ, List.getElem?_cons_zero, ln_sl_uint8, cv_int_uint, cv_int_uint8, ln_string, ia_sl_uint8, ld_uint8, cv_uint8_int, bd_weights_Code_0_1, ia_sl_weights_Code, bd_lightermanref08_C_, ix_string, bd_lightermanref08_C_0_1, ia_sl_lightermanref08_C, sl_sl_uint8_lo, sl_sl_uint8_hi, ln_sl_uint32, ia_sl_uint32, ld_uint32, cv_uint32_uint64, sl_sl_uint32_hi, ln_sl_int, ia_sl_int, ld_int, cv_uint_uint32, seql_sl_uint8, cv_uint32_uint8, cv_uint64_uint8, d1]
    exact hK at' w1 hp x1


theorem len_loop3 {pb : Nat} {ov : Value} {ns out : List Nat} {w : World} (hs : Sl w ov (u32s ns)) (hn : ∀ n ∈ ns, n ≤ 4294967295) (hl : ns.length ≤ 256) (h2 : 2 ≤ ns.countP isOn) (h : LenI ns out) (hk : kraft out ≤ 2048) (ob : Own w pb (oc out)) (hat : ¬ inB ov (fun y => y = pb)) {RR : Value → World → Prop}
    (hK : ∀ out w', LenI ns out → kraft out = 2048 → Own w' pb (oc out) → Ext w w' (fun y => y = pb) → RR (.slice (some ⟨pb, 0, none⟩) ns.length ns.length) w') :
    weights_lengths_p18 RR ov (.slice (some ⟨pb, 0, none⟩) ns.length ns.length) (.int .i64 (2048 - (kraft out : Nat))) w := by
  unfold weights_lengths_p18 weights_lengths_p17 weights_lengths_p16
  refine LoopD.rule (fun m (t : Value) w' => ∃ out : List Nat, m = 2048 - kraft out ∧ t = .int .i64 (2048 - (kraft out : Nat)) ∧ LenI ns out ∧ kraft out ≤ 2048 ∧ Own w' pb (oc out) ∧ Ext w w' (fun y => y = pb)) (2048 - kraft out) ⟨out, rfl, rfl, h, hk, ob, Ext.refl _ _⟩ ?_
  rintro m t w1 ⟨out, rfl, rfl, h1, hk1, ob1, x1⟩
  have hlen := h1.len
  have e0 : (2048 : Int) - ((kraft out : Nat) : Int) = ((2048 - kraft out : Nat) : Int) := by omega
  rw [e0]
  unfold weights_lengths_p15 weights_lengths_p14
  by_cases hpos : kraft out < 2048
  · have d1 : decide ((0 : Int) < ((2048 - kraft out : Nat) : Int)) = true := by simp only [decide_eq_true_eq]; omega
    simp (disch := omega) only [Stp, Same, stepR_value, stepR_skip, r_add, r_sub, r_mul, r_quo, r_rem, r_and, r_or, r_xor, r_andNot, r_shl, r_shr, r_eql, r_neq, r_lss, r_leq, r_gtr, r_geq, r_neg, r_cpl, r_not, r_pick, r_min, r_max, r_nil, x20, x21, x30, x31, x32, x40, x41, x42, x43, ldC_some, Result.ok.injEq, Next.value.injEq, true_and, and_true, w_i64, w_u64, w_i32, w_u32, w_u16, w_u8, Int.toNat_natCast, isB_tt, isB_tf, isB_ft, isB_ff, Gd_true, Gd_false, Gs_true, Gs_false, Cnd_true, Cnd_false, if_true, if_false, Bool.false_eq_true, Nat.zero_add, Option.isNone_some, Option.isNone_none, Bool.not_true, Bool.not_false, List.getElem?_cons_succ, List.getElem?_cons_zero, ln_sl_uint8, cv_int_uint, cv_int_uint8, ln_string, ia_sl_uint8, ld_uint8, cv_uint8_int, bd_weights_Code_0_1, ia_sl_weights_Code, bd_lightermanref08_C_, ix_string, bd_lightermanref08_C_0_1, ia_sl_lightermanref08_C, sl_sl_uint8_lo, sl_sl_uint8_hi, ln_sl_uint32, ia_sl_uint32, ld_uint32, cv_uint32_uint64, sl_sl_uint32_hi, ln_sl_int, ia_sl_int, ld_int, cv_uint_uint32, seql_sl_uint8, cv_uint32_uint8, cv_uint64_uint8, d1]
    unfold weights_lengths_p13 weights_lengths_p12 weights_lengths_p11 weights_lengths_p10
    refine len_seek6 (r := 2048 - kraft out) (hs.ext x1 hat) hn hl h1 (by omega) ob1 fun at' w2 hp x2 => ?_
    obtain ⟨t0, ht0, ht1, _⟩ := two_on (c := ns.length) h2
    rcases hp with ⟨_, q⟩ | ⟨a, rfl, ha, ha0, har⟩
    · exfalso
      obtain ⟨j, j1, j2, j3⟩ := room_longest h1 ht0 ht1 hpos
      exact q j j1 ⟨j2, j3⟩
    obtain ⟨b, hb, hb0, hba⟩ := two_on (c := a) h2
    have hge2 := short_two h1 ha hb (fun e => hba e.symm) ha0 hb0 har hk1
    have ob2 := ob1.ext x2 (fun h => h)
    have f1 := ob2.cell (off := a)
    rw [oc_get (by omega)] at f1
    have hon := h1.on a ha ha0
    have hks := kraft_set (l := out) (i := a) (out.getD a 0 - 1) (by omega)
    have hset := h1.set (o := out.getD a 0 - 1) ha ha0 (by omega) (by omega)
    rw [← getD_at (by omega)] at hks
    have hk3 : kTerm (out.getD a 0) = 2 ^ (11 - out.getD a 0) := by unfold kTerm; rw [if_neg (by omega)]
    have hk2 : kTerm (out.getD a 0 - 1) = 2 * 2 ^ (11 - out.getD a 0) := by
      unfold kTerm
      rw [if_neg (by omega), ← Nat.pow_succ']
      congr 1; omega
    rw [hk3, hk2] at hks
    generalize hov : out.getD a 0 = o at *
    have e1 : (11 : Int) - (o : Int) = ((11 - o : Nat) : Int) := by omega
    have hsh := shl1 (n := 11 - o) (by omega)
    have hp10 := Nat.two_pow_pos (11 - o)
    have e3 : ((2048 - kraft out : Nat) : Int) - ((2 ^ (11 - o) : Nat) : Int) = 2048 - ((kraft (out.set a (o - 1)) : Nat) : Int) := by omega
    have e4 : (o : Int) - 1 = ((o - 1 : Nat) : Int) := by omega
    unfold weights_lengths_p2
    simp (disch := omega) only [Stp, Same, stepR_value, stepR_skip, r_add, r_sub, r_mul, r_quo, r_rem, r_and, r_or, r_xor, r_andNot, r_shl, r_shr, r_eql, r_neq, r_lss, r_leq, r_gtr, r_geq, r_neg, r_cpl, r_not, r_pick, r_min, r_max, r_nil, x20, x21, x30, x31, x32, x40, x41, x42, x43, ldC_some, Result.ok.injEq, Next.value.injEq, true_and, and_true, w_i64, w_u64, w_i32, w_u32, w_u16, w_u8, Int.toNat_natCast, isB_tt, isB_tf, isB_ft, isB_ff, Gd_true, Gd_false, Gs_true, Gs_false, Cnd_true, Cnd_false, if_true, if_false, Bool.false_eq_true, Nat.zero_add, Option.isNone_some, Option.isNone_none, Bool.not_true, Bool.not_false, List.getElem?_cons_succ, List.getElem?_cons_zero, ln_sl_uint8, cv_int_uint, cv_int_uint8, ln_string, ia_sl_uint8, ld_uint8, cv_uint8_int, bd_weights_Code_0_1, ia_sl_weights_Code, bd_lightermanref08_C_, ix_string, bd_lightermanref08_C_0_1, ia_sl_lightermanref08_C, sl_sl_uint8_lo, sl_sl_uint8_hi, ln_sl_uint32, ia_sl_uint32, ld_uint32, cv_uint32_uint64, sl_sl_uint32_hi, ln_sl_int, ia_sl_int, ld_int, cv_uint_uint32, seql_sl_uint8, cv_uint32_uint8, cv_uint64_uint8, f1, e1, hsh, e3, e4]
    refine st_int ob2 rfl (by rw [List.length_map]; omega) fun w3 ob3 x3 s3 => ?_
    rw [oc_set] at ob3
    exact ⟨2048 - kraft (out.set a (o - 1)), by omega, _, rfl, rfl, hset, by omega, ob3, (x1.seq (x2.mono fun _ _ h => h.elim)).trans x3 fun _ _ h => h⟩
  · have d1 : decide ((0 : Int) < ((2048 - kraft out : Nat) : Int)) = false := by simp only [decide_eq_false_iff_not]; omega
    unfold weights_lengths_p1
    simp (disch := omega) only [Stp, Same, stepR_value, stepR_skip, r_add, r_sub, r_mul, r_quo, r_rem, r_and, r_or, r_xor, r_andNot, r_shl, r_shr, r_eql, r_neq, r_lss, r_leq, r_gtr, r_geq, r_neg, r_cpl, r_not, r_pick, r_min, r_max, r_nil, x20, x21, x30, x31, x32, x40, x41, x42, x43, ldC_some, Result.ok.injEq, Next.value.injEq, true_and, and_true, w_i64, w_u64, w_i32, w_u32, w_u16, w_u8, Int.toNat_natCast, isB_tt, isB_tf, isB_ft, isB_ff, Gd_true, Gd_false, Gs_true, Gs_false, Cnd_true, Cnd_false, if_true, if_false, Bool.false_eq_true, Nat.zero_add, Option.isNone_some, Option.isNone_none, Bool.not_true, Bool.not_false, List.getElem?_cons_succ, List.getElem?_cons_zero, ln_sl_uint8, cv_int_uint, cv_int_uint8, ln_string, ia_sl_uint8, ld_uint8, cv_uint8_int, bd_weights_Code_0_1, ia_sl_weights_Code, bd_lightermanref08_C_, ix_string, bd_lightermanref08_C_0_1, ia_sl_lightermanref08_C, sl_sl_uint8_lo, sl_sl_uint8_hi, ln_sl_uint32, ia_sl_uint32, ld_uint32, cv_uint32_uint64, sl_sl_uint32_hi, ln_sl_int, ia_sl_int, ld_int, cv_uint_uint32, seql_sl_uint8, cv_uint32_uint8, cv_uint64_uint8, d1]
    exact hK out w1 h1 (by omega) ob1 x1

theorem lengths_c {ov : Value} {S : Nat} {ns : List Nat} {w : World} (hs : Sl w ov (u32s ns)) (hn : ∀ n ∈ ns, n ≤ 4294967295) (hl : ns.length ≤ 256) (h2 : 2 ≤ ns.countP isOn) (hS0 : 0 < S) (hS : S ≤ 2147483647) :
    Does pg F_weights_lengths #[ov, .int .u64 S] w (fun r w' => ∃ pb out, r = .slice (some ⟨pb, 0, none⟩) ns.length ns.length ∧ w.heap.size ≤ pb ∧ Own w' pb (oc out) ∧ LenI ns out ∧ kraft out = 2048 ∧ Ext w w' nob) := by
  refine weights_lengths_does ?_
  obtain ⟨a, c, hv, hc⟩ := hs.len
  rw [List.length_map] at hv hc
  subst hv
  unfold weights_lengths weights_lengths_p45 weights_lengths_p44
  simp (disch := omega) only [Stp, Same, stepR_value, stepR_skip, r_add, r_sub, r_mul, r_quo, r_rem, r_and, r_or, r_xor, r_andNot, r_shl, r_shr, r_eql, r_neq, r_lss, r_leq, r_gtr, r_geq, r_neg, r_cpl, r_not, r_pick, r_min, r_max, r_nil, x20, x21, x30, x31, x32, x40, x41, x42, x43, ldC_some, Result.ok.injEq, Next.value.injEq, true_and, and_true, w_i64, w_u64, w_i32, w_u32, w_u16, w_u8, Int.toNat_natCast, isB_tt, isB_tf, isB_ft, isB_ff, Gd_true, Gd_false, Gs_true, Gs_false, Cnd_true, Cnd_false, if_true, if_false, Bool.false_eq_true, Nat.zero_add, Option.isNone_some, Option.isNone_none, Bool.not_true, Bool.not_false, List.getElem?_cons_succ, List.getElem?_cons_zero, ln_sl_uint8, cv_int_uint, cv_int_uint8, ln_string, ia_sl_uint8, ld_uint8, cv_uint8_int, bd_weights_Code_0_1, ia_sl_weights_Code, bd_lightermanref08_C_, ix_string, bd_lightermanref08_C_0_1, ia_sl_lightermanref08_C, sl_sl_uint8_lo, sl_sl_uint8_hi, ln_sl_uint32, ia_sl_uint32, ld_uint32, cv_uint32_uint64, sl_sl_uint32_hi, ln_sl_int, ia_sl_int, ld_int, cv_uint_uint32, seql_sl_uint8, cv_uint32_uint8, cv_uint64_uint8]
  refine mk_sl_int (by omega) (by omega) fun w1 o1 x1 s1 => ?_
  rw [Int.toNat_natCast] at o1 ⊢
  have ho1 : Own w1 w.heap.size (oc (List.replicate ns.length 0)) := by
    unfold oc; rw [List.map_replicate]; exact o1
  have hat : ¬ inB (.slice a ns.length c) (fun y => y = w.heap.size) := fun h => hs.old (inB_mono h fun b hb => by omega)
  have hs1 := hs.ext x1 (inB_nob _)
  refine len_loop1 hs1 hn hl hS0 hS ho1 hat fun out w2 h2' ob2 x2 => ?_
  refine len_loop2 (hs1.ext x2 hat) hn hl h2' ob2 hat fun out w3 h3 hk3 ob3 x3 => ?_
  refine len_loop3 ((hs1.ext x2 hat).ext x3 hat) hn hl h2 h3 hk3 ob3 hat fun out w4 h4 hk4 ob4 x4 => ?_
  exact ⟨_, out, rfl, Nat.le_refl _, ob4, h4, hk4, ((x1.trans x2 fun b hb h => by omega).trans x3 fun b hb h => by omega).trans x4 fun b hb h => by omega⟩
end Go.Proofs.Ytoepfjgekpdddaa
/- Contract: weights made of how often symbols are. -/
namespace Go.Proofs.Ytoepfjgekpdddaa
open Go Go.En Go.Pu
set_option maxRecDepth 4000
set_option linter.unusedSimpArgs false
set_option linter.unusedVariables false

theorem maxI_c {pb : Nat} {out : List Nat} {w : World} (ob : Own w pb (oc out)) (h0 : 0 < out.length) (hl : out.length ≤ 100000) (hb : ∀ o ∈ out, o ≤ 1000000) :
    Does pg F_slices_Max_inst #[.slice (some ⟨pb, 0, none⟩) out.length out.length] w (fun r w' => (∃ m : Nat, r = .int .i64 m ∧ (∀ x ∈ out, x ≤ m) ∧ m ∈ out) ∧ w' = w) := by
  refine slices_Max_inst_does ?_
  unfold slices_Max_inst slices_Max_inst_p11 slices_Max_inst_p10
  have d0 : decide ((out.length : Int) < 1) = false := by simp; omega
  have g0 := ob.cell (off := 0)
  rw [oc_get h0] at g0
  have t0 : (0 : Int).toNat = 0 := rfl
  simp (disch := omega) only [Stp, Same, stepR_value, stepR_skip, r_add, r_sub, r_mul, r_quo, r_rem, r_and, r_or, r_xor, r_andNot, r_shl, r_shr, r_eql, r_neq, r_lss, r_leq, r_gtr, r_geq, r_neg, r_cpl, r_not, r_pick, r_min, r_max, r_nil, x20, x21, x30, x31, x32, x40, x41, x42, x43, ldC_some, Result.ok.injEq, Next.value.injEq, true_and, and_true, w_i64, w_u64, w_i32, w_u32, w_u16, w_u8, Int.toNat_natCast, isB_tt, isB_tf, isB_ft, isB_ff, Gd_true, Gd_false, Gs_true, Gs_false, Cnd_true, Cnd_false, if_true, if_false, Bool.false_eq_true, Nat.zero_add, Option.isNone_some, Option.isNone_none, Bool.not_true, Bool.not_false, List.getElem?_cons_succ, List.getElem?_cons_zero, ln_sl_uint8, cv_int_uint, cv_int_uint8, ln_string, ia_sl_uint8, ld_uint8, cv_uint8_int, bd_weights_Code_0_1, ia_sl_weights_Code, bd_lightermanref08_C_, ix_string, bd_lightermanref08_C_0_1, ia_sl_lightermanref08_C, sl_sl_uint8_lo, sl_sl_uint8_hi, ln_sl_uint32, ia_sl_uint32, ld_uint32, cv_uint32_uint64, sl_sl_uint32_hi, ln_sl_int, ia_sl_int, ld_int, cv_uint_uint32, seql_sl_uint8, cv_uint32_uint8, cv_uint64_uint8, d0]
  unfold slices_Max_inst_p9 slices_Max_inst_p8
  simp (disch := omega) only [Stp, Same, stepR_value, stepR_skip, r_add, r_sub, r_mul, r_quo, r_rem, r_and, r_or, r_xor, r_andNot, r_shl, r_shr, r_eql, r_neq, r_lss, r_leq, r_gtr, r_geq, r_neg, r_cpl, r_not, r_pick, r_min, r_max, r_nil, x20, x21, x30, x31, x32, x40, x41, x42, x43, ldC_some, Result.ok.injEq, Next.value.injEq, true_and, and_true, w_i64, w_u64, w_i32, w_u32, w_u16, w_u8, Int.toNat_natCast, isB_tt, isB_tf, isB_ft, isB_ff, Gd_true, Gd_false, Gs_true, Gs_false, Cnd_true, Cnd_false, if_true, if_false, Bool.false_eq_true, Nat.zero_add, Option.isNone_some, Option.isNone_none, Bool.not_true, Bool.not_false, List.getElem?_cons_succ, List.getElem?_cons_zero, ln_sl_uint8, cv_int_uint, cv_int_uint8, ln_string, ia_sl_uint8, ld_uint8, cv_uint8_int, bd_weights_Code_0_1, ia_sl_weights_Code, bd_lightermanref08_C_, ix_string, bd_lightermanref08_C_0_1, ia_sl_lightermanref08_C, sl_sl_uint8_lo, sl_sl_uint8_hi, ln_sl_uint32, ia_sl_uint32, ld_uint32, cv_uint32_uint64, sl_sl_uint32_hi, ln_sl_int, ia_sl_int, ld_int, cv_uint_uint32, seql_sl_uint8, cv_uint32_uint8, cv_uint64_uint8, g0, t0]
  unfold slices_Max_inst_p7 slices_Max_inst_p6 slices_Max_inst_p5 slices_Max_inst_p4 slices_Max_inst_p3
  refine LoopD.rule (fun m (t : Value × Value) w' => ∃ i q : Nat, m = out.length - i ∧ t = (.int .i64 q, .int .i64 i) ∧ 1 ≤ i ∧ i ≤ out.length ∧ (∀ x ∈ out.take i, x ≤ q) ∧ q ∈ out.take i ∧ w' = w) (out.length - 1)
    ⟨1, out.getD 0 0, by omega, rfl, by omega, by omega, ?_, ?_, rfl⟩ ?_
  · intro x hx
    rw [take_snocD (i := 0) h0] at hx
    simp at hx; simp; omega
  · rw [take_snocD (i := 0) h0]; simp
  rintro m t w1 ⟨i, q, rfl, rfl, hi1, hi, hle, hmem, rfl⟩
  unfold slices_Max_inst_p2
  by_cases hlt : i < out.length
  · have d1 : decide ((i : Int) < (out.length : Int)) = true := by simp; omega
    have g1 := ob.cell (off := i)
    rw [oc_get hlt] at g1
    have ht := take_snocD hlt
    have hxb : out.getD i 0 ≤ 1000000 := by rw [getD_at hlt]; exact hb _ (List.getElem_mem hlt)
    have hqb : q ≤ 1000000 := hb q (List.mem_of_mem_take hmem)
    generalize out.getD i 0 = x at *
    have hmx : (if (q : Int) < (x : Int) then (x : Int) else (q : Int)) = ((max q x : Nat) : Int) := by split <;> omega
    have hmx2 : (if (x : Int) > (q : Int) then (x : Int) else (q : Int)) = ((max q x : Nat) : Int) := by split <;> omega
    simp (disch := omega) only [Stp, Same, stepR_value, stepR_skip, r_add, r_sub, r_mul, r_quo, r_rem, r_and, r_or, r_xor, r_andNot, r_shl, r_shr, r_eql, r_neq, r_lss, r_leq, r_gtr, r_geq, r_neg, r_cpl, r_not, r_pick, r_min, r_max, r_nil, x20, x21, x30, x31, x32, x40, x41, x42, x43, ldC_some, Result.ok.injEq, Next.value.injEq, true_and, and_true, w_i64, w_u64, w_i32, w_u32, w_u16, w_u8, Int.toNat_natCast, isB_tt, isB_tf, isB_ft, isB_ff, Gd_true, Gd_false, Gs_true, Gs_false, Cnd_true, Cnd_false, if_true, if_false, Bool.false_eq_true, Nat.zero_add, Option.isNone_some, Option.isNone_none, Bool.not_true, Bool.not_false, List.getElem?_cons_succ, List.getElem?_cons_zero, ln_sl_uint8, cv_int_uint, cv_int_uint8, ln_string, ia_sl_uint8, ld_uint8, cv_uint8_int, bd_weights_Code_0_1, ia_sl_weights_Code, bd_lightermanref08_C_, ix_string, bd_lightermanref08_C_0_1, ia_sl_lightermanref08_C, sl_sl_uint8_lo, sl_sl_uint8_hi, ln_sl_uint32, ia_sl_uint32, ld_uint32, cv_uint32_uint64, sl_sl_uint32_hi, ln_sl_int, ia_sl_int, ld_int, cv_uint_uint32, seql_sl_uint8, cv_uint32_uint8, cv_uint64_uint8, d1, g1, hmx, hmx2]
    refine ⟨out.length - (i + 1), by omega, i + 1, max q x, rfl, rfl, by omega, by omega, ?_, ?_⟩
    · intro y hy
      rw [ht] at hy
      rcases List.mem_append.1 hy with hy | hy
      · have := hle y hy; omega
      · rw [List.mem_singleton.1 hy]; omega
    · rw [ht, List.mem_append]
      rcases Nat.le_total q x with h | h
      · rw [Nat.max_eq_right h]; exact .inr (List.mem_singleton.2 rfl)
      · rw [Nat.max_eq_left h]; exact .inl hmem
  · have d1 : decide ((i : Int) < (out.length : Int)) = false := by simp; omega
    obtain rfl : i = out.length := by omega
    rw [List.take_length] at *
    unfold slices_Max_inst_p1
    simp (disch := omega) only [Stp, Same, stepR_value, stepR_skip, r_add, r_sub, r_mul, r_quo, r_rem, r_and, r_or, r_xor, r_andNot, r_shl, r_shr, r_eql, r_neq, r_lss, r_leq, r_gtr, r_geq, r_neg, r_cpl, r_not, r_pick, r_min, r_max, r_nil, x20, x21, x30, x31, x32, x40, x41, x42, x43, ldC_some, Result.ok.injEq, Next.value.injEq, true_and, and_true, w_i64, w_u64, w_i32, w_u32, w_u16, w_u8, Int.toNat_natCast, isB_tt, isB_tf, isB_ft, isB_ff, Gd_true, Gd_false, Gs_true, Gs_false, Cnd_true, Cnd_false, if_true, if_false, Bool.false_eq_true, Nat.zero_add, Option.isNone_some, Option.isNone_none, Bool.not_true, Bool.not_false, List.getElem?_cons_succ, List.getElem?_cons_zero, ln_sl_uint8, cv_int_uint, cv_int_uint8, ln_string, ia_sl_uint8, ld_uint8, cv_uint8_int, bd_weights_Code_0_1, ia_sl_weights_Code, bd_lightermanref08_C_, ix_string, bd_lightermanref08_C_0_1, ia_sl_lightermanref08_C, sl_sl_uint8_lo, sl_sl_uint8_hi, ln_sl_uint32, ia_sl_uint32, ld_uint32, cv_uint32_uint64, sl_sl_uint32_hi, ln_sl_int, ia_sl_int, ld_int, cv_uint_uint32, seql_sl_uint8, cv_uint32_uint8, cv_uint64_uint8, d1]
    exact ⟨q, rfl, hle, hmem⟩

/-- how often symbols are may have weights -/
def ofwOk (ns : List Nat) : Bool := decide (ns.length ≤ 256 ∧ 2 ≤ ns.countP isOn ∧ ns.sum ≤ 2147483647)

theorem ofw_loop1 {ov : Value} {ns : List Nat} {w : World} (hs : Sl w ov (u32s ns)) (hn : ∀ n ∈ ns, n ≤ 4294967295) (hl : ns.length ≤ 300) {RR : Value → World → Prop}
    (hK : ∀ last, LastI ns ns.length last → weights_Of_p16 RR ov (.int .u64 ns.sum) (.int .i64 (ns.countP isOn : Nat)) (.int .i64 last) w) :
    weights_Of_p24 RR ov (.int .u64 0) (.int .i64 0) (.int .i64 0) w := by
  unfold weights_Of_p24 weights_Of_p23 weights_Of_p22
  obtain ⟨a, c, hv, hc⟩ := hs.len
  rw [List.length_map] at hv
  subst hv
  simp (disch := omega) only [Stp, Same, stepR_value, stepR_skip, r_add, r_sub, r_mul, r_quo, r_rem, r_and, r_or, r_xor, r_andNot, r_shl, r_shr, r_eql, r_neq, r_lss, r_leq, r_gtr, r_geq, r_neg, r_cpl, r_not, r_pick, r_min, r_max, r_nil, x20, x21, x30, x31, x32, x40, x41, x42, x43, ldC_some, Result.ok.injEq, Next.value.injEq, true_and, and_true, w_i64, w_u64, w_i32, w_u32, w_u16, w_u8, Int.toNat_natCast, isB_tt, isB_tf, isB_ft, isB_ff, Gd_true, Gd_false, Gs_true, Gs_false, Cnd_true, Cnd_false, if_true, if_false, Bool.false_eq_true, Nat.zero_add, Option.isNone_some, Option.isNone_none, Bool.not_true, Bool.not_false, List.getElem?_cons_succ, List.getElem?_cons_zero, ln_sl_uint8, cv_int_uint, cv_int_uint8, ln_string, ia_sl_uint8, ld_uint8, cv_uint8_int, bd_weights_Code_0_1, ia_sl_weights_Code, bd_lightermanref08_C_, ix_string, bd_lightermanref08_C_0_1, ia_sl_lightermanref08_C, sl_sl_uint8_lo, sl_sl_uint8_hi, ln_sl_uint32, ia_sl_uint32, ld_uint32, cv_uint32_uint64, sl_sl_uint32_hi, ln_sl_int, ia_sl_int, ld_int, cv_uint_uint32, seql_sl_uint8, cv_uint32_uint8, cv_uint64_uint8]
  unfold weights_Of_p21 weights_Of_p20
  refine LoopD.rule (fun m (t : Value × Value × Value × Value) w' => ∃ i last : Nat, m = ns.length - i ∧ t = (.int .u64 (ns.take i).sum, .int .i64 ((ns.take i).countP isOn : Nat), .int .i64 last, .int .i64 i) ∧ i ≤ ns.length ∧ LastI ns i last ∧ last ≤ i ∧ w' = w) ns.length
    ⟨0, 0, rfl, by simp, by omega, .inl ⟨rfl, fun j h => by omega⟩, by omega, rfl⟩ ?_
  rintro m t w1 ⟨i, last, rfl, rfl, hi, hla, hli, rfl⟩
  unfold weights_Of_p19 weights_Of_p18
  by_cases hlt : i < ns.length
  · have d1 : decide ((i : Int) < (ns.length : Int)) = true := by simp; omega
    obtain ⟨b, off, rfl, hcell⟩ := slA hs (by omega)
    have g1 := hcell i hlt
    rw [u32_get hlt] at g1
    have hni : ns.getD i 0 ≤ 4294967295 := by rw [getD_at hlt]; exact hn _ (List.getElem_mem hlt)
    have hsl := sum_le (B := 4294967295) (l := ns.take i) fun n hn' => hn n (List.mem_of_mem_take hn')
    rw [List.length_take, Nat.min_eq_left (by omega)] at hsl
    have hsl2 : i * 4294967295 ≤ 300 * 4294967295 := Nat.mul_le_mul_right _ (by omega)
    have hct : (ns.take i).countP isOn ≤ i := by
      have := List.countP_le_length (l := ns.take i) (p := isOn)
      rw [List.length_take] at this; omega
    have hsum : (ns.take (i + 1)).sum = (ns.take i).sum + ns.getD i 0 := by rw [take_snocD hlt, List.sum_append]; simp
    have hcnt : (ns.take (i + 1)).countP isOn = (ns.take i).countP isOn + (if 0 < ns.getD i 0 then 1 else 0) := by
      rw [take_snocD hlt, List.countP_append, List.countP_singleton]
      unfold isOn; simp only [decide_eq_true_eq]
    have hstep := hla.step
    generalize ns.getD i 0 = n at *
    have e1 : (((ns.take i).sum : Nat) : Int) + (n : Int) = (((ns.take i).sum + n : Nat) : Int) := by omega
    by_cases h0 : 0 < n
    · have d2 : decide ((0 : Int) < (n : Int)) = true := by simp; omega
      rw [if_pos h0] at hcnt hstep
      unfold weights_Of_p17
      simp (disch := omega) only [Stp, Same, stepR_value, stepR_skip, r_add, r_sub, r_mul, r_quo, r_rem, r_and, r_or, r_xor, r_andNot, r_shl, r_shr, r_eql, r_neq, r_lss, r_leq, r_gtr, r_geq, r_neg, r_cpl, r_not, r_pick, r_min, r_max, r_nil, x20, x21, x30, x31, x32, x40, x41, x42, x43, ldC_some, Result.ok.injEq, Next.value.injEq, true_and, and_true, w_i64, w_u64, w_i32, w_u32, w_u16, w_u8, Int.toNat_natCast, isB_tt, isB_tf, isB_ft, isB_ff, Gd_true, Gd_false, Gs_true, Gs_false, Cnd_true, Cnd_false, if_true, if_false, Bool.false_eq_true, Nat.zero_add, Option.isNone_some, Option.isNone_none, Bool.not_true, Bool.not_false, List.getElem?_cons_succ, List.getElem?_cons_zero, ln_sl_uint8, cv_int_uint, cv_int_uint8, ln_string, ia_sl_uint8, ld_uint8, cv_uint8_int, bd_weights_Code_0_1, ia_sl_weights_Code, bd_lightermanref08_C_, ix_string, bd_lightermanref08_C_0_1, ia_sl_lightermanref08_C, sl_sl_uint8_lo, sl_sl_uint8_hi, ln_sl_uint32, ia_sl_uint32, ld_uint32, cv_uint32_uint64, sl_sl_uint32_hi, ln_sl_int, ia_sl_int, ld_int, cv_uint_uint32, seql_sl_uint8, cv_uint32_uint8, cv_uint64_uint8, d1, g1, d2, e1]
      exact ⟨ns.length - (i + 1), by omega, i + 1, i, rfl, by rw [hsum, hcnt]; rfl, by omega, hstep, by omega⟩
    · have d2 : decide ((0 : Int) < (n : Int)) = false := by simp; omega
      rw [if_neg h0] at hcnt hstep
      unfold weights_Of_p17
      simp (disch := omega) only [Stp, Same, stepR_value, stepR_skip, r_add, r_sub, r_mul, r_quo, r_rem, r_and, r_or, r_xor, r_andNot, r_shl, r_shr, r_eql, r_neq, r_lss, r_leq, r_gtr, r_geq, r_neg, r_cpl, r_not, r_pick, r_min, r_max, r_nil, x20, x21, x30, x31, x32, x40, x41, x42, x43, ldC_some, Result.ok.injEq, Next.value.injEq, true_and, and_true, w_i64, w_u64, w_i32, w_u32, w_u16, w_u8, Int.toNat_natCast, isB_tt, isB_tf, isB_ft, isB_ff, Gd_true, Gd_false, Gs_true, Gs_false, Cnd_true, Cnd_false, if_true, if_false, Bool.false_eq_true, Nat.zero_add, Option.isNone_some, Option.isNone_none, Bool.not_true, Bool.not_false, List.getElem?_cons_succ, List.getElem?_cons_zero, ln_sl_uint8, cv_int_uint, cv_int_uint8, ln_string, ia_sl_uint8, ld_uint8, cv_uint8_int, bd_weights_Code_0_1, ia_sl_weights_Code, bd_lightermanref08_C_, ix_string, bd_lightermanref08_C_0_1, ia_sl_lightermanref08_C, sl_sl_uint8_lo, sl_sl_uint8_hi, ln_sl_uint32, ia_sl_uint32, ld_uint32, cv_uint32_uint64, sl_sl_uint32_hi, ln_sl_int, ia_sl_int, ld_int, cv_uint_uint32, seql_sl_uint8, cv_uint32_uint8, cv_uint64_uint8, d1, g1, d2, e1]
      exact ⟨ns.length - (i + 1), by omega, i + 1, last, rfl, by rw [hsum, hcnt]; rfl, by omega, hstep, by omega⟩
  · have d1 : decide ((i : Int) < (ns.length : Int)) = false := by simp; omega
    obtain rfl : i = ns.length := by omega
    rw [List.take_of_length_le (Nat.le_refl _)]
    simp (disch := omega) only [Stp, Same, stepR_value, stepR_skip, r_add, r_sub, r_mul, r_quo, r_rem, r_and, r_or, r_xor, r_andNot, r_shl, r_shr, r_eql, r_neq, r_lss, r_leq, r_gtr, r_geq, r_neg, r_cpl, r_not, r_pick, r_min, r_max, r_nil, x20, x21, x30, x31, x32, x40, x41, x42, x43, ldC_some, Result.ok.injEq, Next.value.injEq, true_and, and_true, w_i64, w_u64, w_i32, w_u32, w_u16, w_u8, Int.toNat_natCast, isB_tt, isB_tf, isB_ft, isB_ff, Gd_true, Gd_false, Gs_true, Gs_false, Cnd_true, Cnd_false, if_true, if_false, Bool.false_eq_true, Nat.zero_add, Option.isNone_some, Option.isNone_none, Bool.not_true, Bool.not_false, List.getElem?_cons_succ, List.getElem?_cons_zero, ln_sl_uint8, cv_int_uint, cv_int_uint8, ln_string, ia_sl_uint8, ld_uint8, cv_uint8_int, bd_weights_Code_0_1, ia_sl_weights_Code, bd_lightermanref08_C_, ix_string, bd_lightermanref08_C_0_1, ia_sl_lightermanref08_C, sl_sl_uint8_lo, sl_sl_uint8_hi, ln_sl_uint32, ia_sl_uint32, ld_uint32, cv_uint32_uint64, sl_sl_uint32_hi, ln_sl_int, ia_sl_int, ld_int, cv_uint_uint32, seql_sl_uint8, cv_uint32_uint8, cv_uint64_uint8, d1]
    exact hK last hla

/-- what Of tells -/
def OfwRes (w : World) (base : Nat) (ns : List Nat) (r : Value) : Prop :=
  (ofwOk ns = false ∧ r = .tuple #[.slice none 0 0, .int .i64 1]) ∨
  (ofwOk ns = true ∧ ∃ (last : Nat) (v : Value) (wl : List Nat), LastI ns ns.length last ∧ last < ns.length ∧ wl.length = last + 1 ∧ depthN wl ≠ 0 ∧ (∀ x ∈ wl, x ≤ 11) ∧ (∀ i, i < last + 1 → (0 < wl.getD i 0 ↔ 0 < ns.getD i 0)) ∧
    r = .tuple #[v, .int .i64 0] ∧ OSl w base 1 v (last + 1) ((byts wl).map b2v))

theorem of_weights {ns out : List Nat} {d last : Nat} (h : LenI (ns.take (last + 1)) out) (hk : kraft out = 2048) (hd : ∀ o ∈ out, o ≤ d) (hdm : d ∈ out) (hl : last < ns.length) (hl2 : ns.length ≤ 256) (hlast : 0 < ns.getD last 0) (h2 : 2 ≤ (ns.take (last + 1)).countP isOn) :
    depthN (out.map (wOf d)) = d ∧ d ≠ 0 ∧ d ≤ 11 ∧ ∀ i, i < last + 1 → (0 < (out.map (wOf d)).getD i 0 ↔ 0 < ns.getD i 0) := by
  have hlen := h.len
  have htl : (ns.take (last + 1)).length = last + 1 := by rw [List.length_take]; omega
  have htd : ∀ i, i < last + 1 → (ns.take (last + 1)).getD i 0 = ns.getD i 0 := fun i hi => by
    rw [List.getD_eq_getElem?_getD, List.getD_eq_getElem?_getD, List.getElem?_take_of_lt hi]
  have hd11 : d ≤ 11 := by
    obtain ⟨i, hi, rfl⟩ := List.getElem_of_mem hdm
    exact h.le hi
  have hon := h.on last (by omega) (by rw [htd last (by omega)]; exact hlast)
  have hd0 : 1 ≤ d := by
    have := hd (out.getD last 0) (by rw [getD_at (by omega)]; exact List.getElem_mem _)
    omega
  have hW := worth_of hd11 hd hk
  have hget : ∀ i, i < last + 1 → (out.map (wOf d)).getD i 0 = wOf d (out.getD i 0) := fun i hi => by
    rw [getD_at (by rw [List.length_map]; omega), List.getElem_map, getD_at (by omega)]
  have hiff : ∀ i, i < last + 1 → (0 < (out.map (wOf d)).getD i 0 ↔ 0 < ns.getD i 0) := fun i hi => by
    rw [hget i hi, ← htd i hi]
    have hdi := hd (out.getD i 0) (by rw [getD_at (by omega)]; exact List.getElem_mem _)
    constructor
    · intro h0
      rcases Nat.eq_zero_or_pos ((ns.take (last + 1)).getD i 0) with h' | h'
      · rw [h.off i (by omega) h'] at h0
        simp [wOf] at h0
      · exact h'
    · intro h0
      have := h.on i (by omega) h0
      unfold wOf
      rw [if_neg (by omega)]; omega
  have hlast2 : 2 ≤ last + 1 := by
    have := List.countP_le_length (l := ns.take (last + 1)) (p := isOn)
    omega
  refine ⟨depthN_of ?_ hd11 (by rw [List.length_map]; omega) (by rw [List.length_map]; omega) ?_ hW, by omega, hd11, hiff⟩
  · intro w hw
    obtain ⟨o, ho, rfl⟩ := List.mem_map.1 hw
    have := hd o ho
    unfold wOf
    split <;> omega
  · intro hq
    rw [List.getLast?_eq_getElem?, List.length_map, hlen, htl, Nat.add_sub_cancel] at hq
    have := (hiff last (by omega)).2 hlast
    rw [List.getD_eq_getElem?_getD, hq] at this
    simp at this
end Go.Proofs.Ytoepfjgekpdddaa
/- Contract: weights made of how often symbols are, whole. -/
namespace Go.Proofs.Ytoepfjgekpdddaa
open Go Go.En Go.Pu
set_option maxRecDepth 4000
set_option linter.unusedSimpArgs false
set_option linter.unusedVariables false

theorem of_push {base i x : Nat} {d10 v' t51 t52 t53 : Value} {cells : List Value} {w : World} (o : OSl w base 1 v' i cells) (hb : base ≤ w.heap.size) (hi : i ≤ 100000) (hx : x < 256) {kn : Value → Value → Value → Value → Value → World → Prop}
    (hK : ∀ v2 w2, OSl w2 base 1 v2 (i + 1) (cells ++ [.int .u8 x]) → Ext w w2 (fun y => base ≤ y) → kn d10 v2 t51 t52 t53 w2) : weights_Of_p3 kn d10 v' (.int .i64 x) t51 t52 t53 w := by
  unfold weights_Of_p3
  obtain ⟨av, cv, rfl⟩ := o.len
  have e8 : IntKind.u8.wrap (x : Int) = (x : Int) := w_u8 (by omega) (by omega)
  simp (disch := omega) only [Stp, Same, stepR_value, stepR_skip, r_add, r_sub, r_mul, r_quo, r_rem, r_and, r_or, r_xor, r_andNot, r_shl, r_shr, r_eql, r_neq, r_lss, r_leq, r_gtr, r_geq, r_neg, r_cpl, r_not, r_pick, r_min, r_max, r_nil, x20, x21, x30, x31, x32, x40, x41, x42, x43, ldC_some, Result.ok.injEq, Next.value.injEq, true_and, and_true, w_i64, w_u64, w_i32, w_u32, w_u16, w_u8, Int.toNat_natCast, isB_tt, isB_tf, isB_ft, isB_ff, Gd_true, Gd_false, Gs_true, Gs_false, Cnd_true, Cnd_false, if_true, if_false, Bool.false_eq_true, Nat.zero_add, Option.isNone_some, Option.isNone_none, Bool.not_true, Bool.not_false, List.getElem?_cons_succ, List.getElem?_cons_zero, ln_sl_uint8, cv_int_uint, cv_int_uint8, ln_string, ia_sl_uint8, ld_uint8, cv_uint8_int, bd_weights_Code_0_1, ia_sl_weights_Code, bd_lightermanref08_C_, ix_string, bd_lightermanref08_C_0_1, ia_sl_lightermanref08_C, sl_sl_uint8_lo, sl_sl_uint8_hi, ln_sl_uint32, ia_sl_uint32, ld_uint32, cv_uint32_uint64, sl_sl_uint32_hi, ln_sl_int, ia_sl_int, ld_int, cv_uint_uint32, seql_sl_uint8, cv_uint32_uint8, cv_uint64_uint8, e8]
  refine bs_sl_uint8 (cells := #[.int .u8 x]) (by decide) (by decide) (by kernel_rfl) fun w5 o5 x5 s5 => ?_
  have z5 := x5.size
  refine ap_sl_uint8_sl_uint8 (m := 1) (news := [.int .u8 x]) (o.ext x5 (fun _ _ h => h)) (o5.cl (off := 0) (l := [.int .u8 x]) (n := 1) rfl (fun i hi => by rw [Nat.zero_add])) (by simp [one]) (by omega) (by omega) fun v6 w6 o6 x6 => ?_
  exact hK v6 w6 o6 ((x5.mono fun _ _ h => h.elim).seq x6)

theorem ofw_c {ov : Value} {ns : List Nat} {w : World} (hs : Sl w ov (u32s ns)) (hn : ∀ n ∈ ns, n ≤ 4294967295) (hl : ns.length ≤ 300) :
    Does pg F_weights_Of #[ov] w (fun r w' => OfwRes w' w.heap.size ns r ∧ Ext w w' nob) := by
  refine weights_Of_does ?_
  unfold weights_Of weights_Of_p26 weights_Of_p25
  refine ofw_loop1 hs hn hl fun last hlast => ?_
  unfold weights_Of_p16 weights_Of_p15
  obtain ⟨a, c, hv, hc⟩ := hs.len
  rw [List.length_map] at hv hc
  subst hv
  have no : ¬ (ns.length ≤ 256 ∧ 2 ≤ ns.countP isOn ∧ ns.sum ≤ 2147483647) → ofwOk ns = false := fun h => by unfold ofwOk; exact decide_eq_false h
  have hcl : ns.countP isOn ≤ ns.length := List.countP_le_length
  have hsl := sum_le (B := 4294967295) hn
  have hsl2 : ns.length * 4294967295 ≤ 300 * 4294967295 := Nat.mul_le_mul_right _ (by omega)
  by_cases h4 : 256 < ns.length
  · have d4 : decide ((256 : Int) < (ns.length : Int)) = true := by simp; omega
    simp (disch := omega) only [Stp, Same, stepR_value, stepR_skip, r_add, r_sub, r_mul, r_quo, r_rem, r_and, r_or, r_xor, r_andNot, r_shl, r_shr, r_eql, r_neq, r_lss, r_leq, r_gtr, r_geq, r_neg, r_cpl, r_not, r_pick, r_min, r_max, r_nil, x20, x21, x30, x31, x32, x40, x41, x42, x43, ldC_some, Result.ok.injEq, Next.value.injEq, true_and, and_true, w_i64, w_u64, w_i32, w_u32, w_u16, w_u8, Int.toNat_natCast, isB_tt, isB_tf, isB_ft, isB_ff, Gd_true, Gd_false, Gs_true, Gs_false, Cnd_true, Cnd_false, if_true, if_false, Bool.false_eq_true, Nat.zero_add, Option.isNone_some, Option.isNone_none, Bool.not_true, Bool.not_false, List.getElem?_cons_succ, List.getElem?_cons_zero, ln_sl_uint8, cv_int_uint, cv_int_uint8, ln_string, ia_sl_uint8, ld_uint8, cv_uint8_int, bd_weights_Code_0_1, ia_sl_weights_Code, bd_lightermanref08_C_, ix_string, bd_lightermanref08_C_0_1, ia_sl_lightermanref08_C, sl_sl_uint8_lo, sl_sl_uint8_hi, ln_sl_uint32, ia_sl_uint32, ld_uint32, cv_uint32_uint64, sl_sl_uint32_hi, ln_sl_int, ia_sl_int, ld_int, cv_uint_uint32, seql_sl_uint8, cv_uint32_uint8, cv_uint64_uint8, d4]
    exact ⟨.inl ⟨no (by omega), rfl⟩, Ext.refl _ _⟩
  have d4 : decide ((256 : Int) < (ns.length : Int)) = false := by simp; omega
  by_cases h5 : ns.countP isOn < 2
  · have d5 : decide (((ns.countP isOn : Nat) : Int) < 2) = true := by simp only [decide_eq_true_eq]; omega
    simp (disch := omega) only [Stp, Same, stepR_value, stepR_skip, r_add, r_sub, r_mul, r_quo, r_rem, r_and, r_or, r_xor, r_andNot, r_shl, r_shr, r_eql, r_neq, r_lss, r_leq, r_gtr, r_geq, r_neg, r_cpl, r_not, r_pick, r_min, r_max, r_nil, x20, x21, x30, x31, x32, x40, x41, x42, x43, ldC_some, Result.ok.injEq, Next.value.injEq, true_and, and_true, w_i64, w_u64, w_i32, w_u32, w_u16, w_u8, Int.toNat_natCast, isB_tt, isB_tf, isB_ft, isB_ff, Gd_true, Gd_false, Gs_true, Gs_false, Cnd_true, Cnd_false, if_true, if_false, Bool.false_eq_true, Nat.zero_add, Option.isNone_some, Option.isNone_none, Bool.not_true, Bool.not_false, List.getElem?_cons_succ, List.getElem?_cons_zero, ln_sl_uint8, cv_int_uint, cv_int_uint8, ln_string, ia_sl_uint8, ld_uint8, cv_uint8_int, bd_weights_Code_0_1, ia_sl_weights_Code, bd_lightermanref08_C_, ix_string, bd_lightermanref08_C_0_1, ia_sl_lightermanref08_C, sl_sl_uint8_lo, sl_sl_uint8_hi, ln_sl_uint32, ia_sl_uint32, ld_uint32, cv_uint32_uint64, sl_sl_uint32_hi, ln_sl_int, ia_sl_int, ld_int, cv_uint_uint32, seql_sl_uint8, cv_uint32_uint8, cv_uint64_uint8, d4, d5]
    exact ⟨.inl ⟨no (by omega), rfl⟩, Ext.refl _ _⟩
  have d5 : decide (((ns.countP isOn : Nat) : Int) < 2) = false := by simp only [decide_eq_false_iff_not]; omega
  by_cases h7 : 2147483647 < ns.sum
  · have d7 : decide ((2147483647 : Int) < ((ns.sum : Nat) : Int)) = true := by simp only [decide_eq_true_eq]; omega
    simp (disch := omega) only [Stp, Same, stepR_value, stepR_skip, r_add, r_sub, r_mul, r_quo, r_rem, r_and, r_or, r_xor, r_andNot, r_shl, r_shr, r_eql, r_neq, r_lss, r_leq, r_gtr, r_geq, r_neg, r_cpl, r_not, r_pick, r_min, r_max, r_nil, x20, x21, x30, x31, x32, x40, x41, x42, x43, ldC_some, Result.ok.injEq, Next.value.injEq, true_and, and_true, w_i64, w_u64, w_i32, w_u32, w_u16, w_u8, Int.toNat_natCast, isB_tt, isB_tf, isB_ft, isB_ff, Gd_true, Gd_false, Gs_true, Gs_false, Cnd_true, Cnd_false, if_true, if_false, Bool.false_eq_true, Nat.zero_add, Option.isNone_some, Option.isNone_none, Bool.not_true, Bool.not_false, List.getElem?_cons_succ, List.getElem?_cons_zero, ln_sl_uint8, cv_int_uint, cv_int_uint8, ln_string, ia_sl_uint8, ld_uint8, cv_uint8_int, bd_weights_Code_0_1, ia_sl_weights_Code, bd_lightermanref08_C_, ix_string, bd_lightermanref08_C_0_1, ia_sl_lightermanref08_C, sl_sl_uint8_lo, sl_sl_uint8_hi, ln_sl_uint32, ia_sl_uint32, ld_uint32, cv_uint32_uint64, sl_sl_uint32_hi, ln_sl_int, ia_sl_int, ld_int, cv_uint_uint32, seql_sl_uint8, cv_uint32_uint8, cv_uint64_uint8, d4, d5, d7]
    exact ⟨.inl ⟨no (by omega), rfl⟩, Ext.refl _ _⟩
  have d7 : decide ((2147483647 : Int) < ((ns.sum : Nat) : Int)) = false := by simp only [decide_eq_false_iff_not]; omega
  have hok : ofwOk ns = true := by unfold ofwOk; exact decide_eq_true (by omega)
  have hl2 : last < ns.length ∧ 0 < ns.getD last 0 ∧ ∀ j, last < j → j < ns.length → ns.getD j 0 = 0 := by
    rcases hlast with ⟨rfl, h⟩ | h
    · exfalso
      have : ns.countP isOn = 0 := zeros_cnt fun n hn => by
        obtain ⟨i, hi, rfl⟩ := List.getElem_of_mem hn
        rw [← getD_at hi]; exact h i hi
      omega
    · exact h
  obtain ⟨l1, l2, l3⟩ := hl2
  have hS0 : 0 < ns.sum := by
    have := le_sum (l := ns) (n := ns.getD last 0) (by rw [getD_at l1]; exact List.getElem_mem _)
    omega
  have hz : ∀ n ∈ ns.drop (last + 1), n = 0 := fun n hn => by
    obtain ⟨i, hi, rfl⟩ := List.getElem_of_mem hn
    rw [List.length_drop] at hi
    rw [List.getElem_drop, ← getD_at (by omega)]
    exact l3 _ (by omega) (by omega)
  have hcnt : 2 ≤ (ns.take (last + 1)).countP isOn := by
    have : ns.countP isOn = (ns.take (last + 1) ++ ns.drop (last + 1)).countP isOn := by rw [List.take_append_drop]
    rw [List.countP_append, zeros_cnt hz] at this
    omega
  have htl : (ns.take (last + 1)).length = last + 1 := by rw [List.length_take]; omega
  have e1 : (last : Int) + 1 = ((last + 1 : Nat) : Int) := by omega
  obtain ⟨b0, off0, rfl, _⟩ := slA hs (by omega)
  have e2 : shift? (some ⟨b0, off0, none⟩) c 0 1 = some ⟨b0, off0, none⟩ := by have := shift_some (b := b0) (o := off0) (m := c) (l := 0) (by omega); simpa using this
  have hsub : Sl w (.slice (some ⟨b0, off0, none⟩) (last + 1) c) (u32s (ns.take (last + 1))) := by
    have := slHead hs (k := last + 1) (by omega)
    rw [← List.map_take] at this
    exact this
  simp (disch := omega) only [Stp, Same, stepR_value, stepR_skip, r_add, r_sub, r_mul, r_quo, r_rem, r_and, r_or, r_xor, r_andNot, r_shl, r_shr, r_eql, r_neq, r_lss, r_leq, r_gtr, r_geq, r_neg, r_cpl, r_not, r_pick, r_min, r_max, r_nil, x20, x21, x30, x31, x32, x40, x41, x42, x43, ldC_some, Result.ok.injEq, Next.value.injEq, true_and, and_true, w_i64, w_u64, w_i32, w_u32, w_u16, w_u8, Int.toNat_natCast, isB_tt, isB_tf, isB_ft, isB_ff, Gd_true, Gd_false, Gs_true, Gs_false, Cnd_true, Cnd_false, if_true, if_false, Bool.false_eq_true, Nat.zero_add, Option.isNone_some, Option.isNone_none, Bool.not_true, Bool.not_false, List.getElem?_cons_succ, List.getElem?_cons_zero, ln_sl_uint8, cv_int_uint, cv_int_uint8, ln_string, ia_sl_uint8, ld_uint8, cv_uint8_int, bd_weights_Code_0_1, ia_sl_weights_Code, bd_lightermanref08_C_, ix_string, bd_lightermanref08_C_0_1, ia_sl_lightermanref08_C, sl_sl_uint8_lo, sl_sl_uint8_hi, ln_sl_uint32, ia_sl_uint32, ld_uint32, cv_uint32_uint64, sl_sl_uint32_hi, ln_sl_int, ia_sl_int, ld_int, cv_uint_uint32, seql_sl_uint8, cv_uint32_uint8, cv_uint64_uint8, d4, d5, d7, e1, e2, Nat.sub_zero]
  refine (lengths_c hsub (fun n h => hn n (List.mem_of_mem_take h)) (by omega) hcnt hS0 (by omega)).mono ?_
  rintro r w1 ⟨pb, out, rfl, hpb, ob, hLen, hkr, x1⟩
  rw [htl]
  have hol : out.length = last + 1 := by rw [hLen.len, htl]
  have hm := maxI_c (w := w1) (pb := pb) (out := out) ob (by omega) (by omega) (fun o ho => by
    obtain ⟨i, hi, rfl⟩ := List.getElem_of_mem ho
    have := hLen.le hi; omega)
  rw [hol] at hm
  refine hm.mono ?_
  rintro r w2 ⟨⟨d, rfl, hd1, hd2⟩, rfl⟩
  obtain ⟨hdep, hd0, hd11, hiff⟩ := of_weights hLen hkr hd1 hd2 l1 (by omega) l2 hcnt
  obtain ⟨wl, hwl⟩ : ∃ wl, out.map (wOf d) = wl := ⟨_, rfl⟩
  have hwll : wl.length = last + 1 := by rw [← hwl, List.length_map, hol]
  have hwget : ∀ i, i < last + 1 → wl.getD i 0 = wOf d (out.getD i 0) := fun i hi => by
    rw [← hwl, getD_at (by rw [List.length_map]; omega), List.getElem_map, getD_at (by omega)]
  rw [hwl] at hdep hiff
  have hw11 := (depthN_ok hdep hd0).1
  unfold weights_Of_p14 weights_Of_p13 weights_Of_p12
  simp (disch := omega) only [Stp, Same, stepR_value, stepR_skip, r_add, r_sub, r_mul, r_quo, r_rem, r_and, r_or, r_xor, r_andNot, r_shl, r_shr, r_eql, r_neq, r_lss, r_leq, r_gtr, r_geq, r_neg, r_cpl, r_not, r_pick, r_min, r_max, r_nil, x20, x21, x30, x31, x32, x40, x41, x42, x43, ldC_some, Result.ok.injEq, Next.value.injEq, true_and, and_true, w_i64, w_u64, w_i32, w_u32, w_u16, w_u8, Int.toNat_natCast, isB_tt, isB_tf, isB_ft, isB_ff, Gd_true, Gd_false, Gs_true, Gs_false, Cnd_true, Cnd_false, if_true, if_false, Bool.false_eq_true, Nat.zero_add, Option.isNone_some, Option.isNone_none, Bool.not_true, Bool.not_false, List.getElem?_cons_succ, List.getElem?_cons_zero, ln_sl_uint8, cv_int_uint, cv_int_uint8, ln_string, ia_sl_uint8, ld_uint8, cv_uint8_int, bd_weights_Code_0_1, ia_sl_weights_Code, bd_lightermanref08_C_, ix_string, bd_lightermanref08_C_0_1, ia_sl_lightermanref08_C, sl_sl_uint8_lo, sl_sl_uint8_hi, ln_sl_uint32, ia_sl_uint32, ld_uint32, cv_uint32_uint64, sl_sl_uint32_hi, ln_sl_int, ia_sl_int, ld_int, cv_uint_uint32, seql_sl_uint8, cv_uint32_uint8, cv_uint64_uint8]
  unfold weights_Of_p11 weights_Of_p10
  refine LoopD.rule (fun m (t : Value × Value) w' => ∃ (i : Nat) (v' : Value), m = last + 1 - i ∧ t = (v', .int .i64 i) ∧ i ≤ last + 1 ∧ OSl w' w2.heap.size 1 v' i ((byts (wl.take i)).map b2v) ∧ Ext w2 w' nob) (last + 1)
    ⟨0, _, rfl, rfl, by omega, OSl.nil _ _ _, Ext.refl _ _⟩ ?_
  rintro m t w3 ⟨i, v', rfl, rfl, hi, o3, x3⟩
  have z3 := x3.size
  have z1 := x1.size
  unfold weights_Of_p9 weights_Of_p8
  by_cases hlt : i < last + 1
  · have d1 : decide ((i : Int) < ((last + 1 : Nat) : Int)) = true := by simp only [decide_eq_true_eq]; omega
    have f1 := (ob.ext x3 (fun h => h)).cell (off := i)
    rw [oc_get (by omega)] at f1
    have hs1 := take_snocD (ns := wl) (i := i) (by omega)
    rw [hwget i hlt] at hs1
    have hod := hd1 (out.getD i 0) (by rw [getD_at (by omega)]; exact List.getElem_mem _)
    have hwo : wOf d (out.getD i 0) = if out.getD i 0 = 0 then 0 else d + 1 - out.getD i 0 := rfl
    generalize out.getD i 0 = o at *
    have hcells : ∀ x : Nat, wOf d o = x → x < 256 → ((byts (wl.take i)).map b2v ++ [.int .u8 x]) = (byts (wl.take (i + 1))).map b2v := fun x hx hx2 => by
      rw [hs1, hx]
      simp only [byts, List.map_append, List.map_cons, List.map_nil, b2v_of hx2]
    unfold weights_Of_p7 weights_Of_p6 weights_Of_p5 weights_Of_p4
    by_cases h0 : 0 < o
    · have d2 : decide ((0 : Int) < (o : Int)) = true := by simp; omega
      have e3 : (d : Int) + 1 - (o : Int) = ((d + 1 - o : Nat) : Int) := by omega
      rw [if_neg (by omega)] at hwo
      simp (disch := omega) only [Stp, Same, stepR_value, stepR_skip, r_add, r_sub, r_mul, r_quo, r_rem, r_and, r_or, r_xor, r_andNot, r_shl, r_shr, r_eql, r_neq, r_lss, r_leq, r_gtr, r_geq, r_neg, r_cpl, r_not, r_pick, r_min, r_max, r_nil, x20, x21, x30, x31, x32, x40, x41, x42, x43, ldC_some, Result.ok.injEq, Next.value.injEq, true_and, and_true, w_i64, w_u64, w_i32, w_u32, w_u16, w_u8, Int.toNat_natCast, isB_tt, isB_tf, isB_ft, isB_ff, Gd_true, Gd_false, Gs_true, Gs_false, Cnd_true, Cnd_false, if_true, if_false, Bool.false_eq_true, Nat.zero_add, Option.isNone_some, Option.isNone_none, Bool.not_true, Bool.not_false, List.getElem?_cons_succ, List.getElem?_cons_zero, ln_sl_uint8, cv_int_uint, cv_int_uint8, ln_string, ia_sl_uint8, ld_uint8, cv_uint8_int, bd_weights_Code_0_1, ia_sl_weights_Code, bd_lightermanref08_C_, ix_string, bd_lightermanref08_C_0_1, ia_sl_lightermanref08_C, sl_sl_uint8_lo, sl_sl_uint8_hi, ln_sl_uint32, ia_sl_uint32, ld_uint32, cv_uint32_uint64, sl_sl_uint32_hi, ln_sl_int, ia_sl_int, ld_int, cv_uint_uint32, seql_sl_uint8, cv_uint32_uint8, cv_uint64_uint8, d1, f1, d2, e3]
      refine of_push o3 z3 (by omega) (by omega) fun v4 w4 o4 x4 => ?_
      rw [hcells _ hwo (by omega)] at o4
      unfold weights_Of_p2
      simp (disch := omega) only [Stp, Same, stepR_value, stepR_skip, r_add, r_sub, r_mul, r_quo, r_rem, r_and, r_or, r_xor, r_andNot, r_shl, r_shr, r_eql, r_neq, r_lss, r_leq, r_gtr, r_geq, r_neg, r_cpl, r_not, r_pick, r_min, r_max, r_nil, x20, x21, x30, x31, x32, x40, x41, x42, x43, ldC_some, Result.ok.injEq, Next.value.injEq, true_and, and_true, w_i64, w_u64, w_i32, w_u32, w_u16, w_u8, Int.toNat_natCast, isB_tt, isB_tf, isB_ft, isB_ff, Gd_true, Gd_false, Gs_true, Gs_false, Cnd_true, Cnd_false, if_true, if_false, Bool.false_eq_true, Nat.zero_add, Option.isNone_some, Option.isNone_none, Bool.not_true, Bool.not_false, List.getElem?_cons_succ, List.getElem?_cons_zero, ln_sl_uint8, cv_int_uint, cv_int_uint8, ln_string, ia_sl_uint8, ld_uint8, cv_uint8_int, bd_weights_Code_0_1, ia_sl_weights_Code, bd_lightermanref08_C_, ix_string, bd_lightermanref08_C_0_1, ia_sl_lightermanref08_C, sl_sl_uint8_lo, sl_sl_uint8_hi, ln_sl_uint32, ia_sl_uint32, ld_uint32, cv_uint32_uint64, sl_sl_uint32_hi, ln_sl_int, ia_sl_int, ld_int, cv_uint_uint32, seql_sl_uint8, cv_uint32_uint8, cv_uint64_uint8]
      exact ⟨last + 1 - (i + 1), by omega, i + 1, _, rfl, rfl, by omega, o4, x3.trans x4 fun b hb h => by omega⟩
    · have d2 : decide ((0 : Int) < (o : Int)) = false := by simp; omega
      rw [if_pos (by omega)] at hwo
      simp (disch := omega) only [Stp, Same, stepR_value, stepR_skip, r_add, r_sub, r_mul, r_quo, r_rem, r_and, r_or, r_xor, r_andNot, r_shl, r_shr, r_eql, r_neq, r_lss, r_leq, r_gtr, r_geq, r_neg, r_cpl, r_not, r_pick, r_min, r_max, r_nil, x20, x21, x30, x31, x32, x40, x41, x42, x43, ldC_some, Result.ok.injEq, Next.value.injEq, true_and, and_true, w_i64, w_u64, w_i32, w_u32, w_u16, w_u8, Int.toNat_natCast, isB_tt, isB_tf, isB_ft, isB_ff, Gd_true, Gd_false, Gs_true, Gs_false, Cnd_true, Cnd_false, if_true, if_false, Bool.false_eq_true, Nat.zero_add, Option.isNone_some, Option.isNone_none, Bool.not_true, Bool.not_false, List.getElem?_cons_succ, List.getElem?_cons_zero, ln_sl_uint8, cv_int_uint, cv_int_uint8, ln_string, ia_sl_uint8, ld_uint8, cv_uint8_int, bd_weights_Code_0_1, ia_sl_weights_Code, bd_lightermanref08_C_, ix_string, bd_lightermanref08_C_0_1, ia_sl_lightermanref08_C, sl_sl_uint8_lo, sl_sl_uint8_hi, ln_sl_uint32, ia_sl_uint32, ld_uint32, cv_uint32_uint64, sl_sl_uint32_hi, ln_sl_int, ia_sl_int, ld_int, cv_uint_uint32, seql_sl_uint8, cv_uint32_uint8, cv_uint64_uint8, d1, f1, d2]
      refine of_push (x := 0) o3 z3 (by omega) (by omega) fun v4 w4 o4 x4 => ?_
      rw [hcells _ hwo (by omega)] at o4
      unfold weights_Of_p2
      simp (disch := omega) only [Stp, Same, stepR_value, stepR_skip, r_add, r_sub, r_mul, r_quo, r_rem, r_and, r_or, r_xor, r_andNot, r_shl, r_shr, r_eql, r_neq, r_lss, r_leq, r_gtr, r_geq, r_neg, r_cpl, r_not, r_pick, r_min, r_max, r_nil, x20, x21, x30, x31, x32, x40, x41, x42, x43, ldC_some, Result.ok.injEq, Next.value.injEq, true_and, and_true, w_i64, w_u64, w_i32, w_u32, w_u16, w_u8, Int.toNat_natCast, isB_tt, isB_tf, isB_ft, isB_ff, Gd_true, Gd_false, Gs_true, Gs_false, Cnd_true, Cnd_false, if_true, if_false, Bool.false_eq_true, Nat.zero_add, Option.isNone_some, Option.isNone_none, Bool.not_true, Bool.not_false, List.getElem?_cons_succ, List.getElem?_cons_zero, ln_sl_uint8, cv_int_uint, cv_int_uint8, ln_string, ia_sl_uint8, ld_uint8, cv_uint8_int, bd_weights_Code_0_1, ia_sl_weights_Code, bd_lightermanref08_C_, ix_string, bd_lightermanref08_C_0_1, ia_sl_lightermanref08_C, sl_sl_uint8_lo, sl_sl_uint8_hi, ln_sl_uint32, ia_sl_uint32, ld_uint32, cv_uint32_uint64, sl_sl_uint32_hi, ln_sl_int, ia_sl_int, ld_int, cv_uint_uint32, seql_sl_uint8, cv_uint32_uint8, cv_uint64_uint8]
      exact ⟨last + 1 - (i + 1), by omega, i + 1, _, rfl, rfl, by omega, o4, x3.trans x4 fun b hb h => by omega⟩
  · have d1 : decide ((i : Int) < ((last + 1 : Nat) : Int)) = false := by simp only [decide_eq_false_iff_not]; omega
    obtain rfl : i = last + 1 := by omega
    rw [List.take_of_length_le (by omega)] at o3
    unfold weights_Of_p1
    simp (disch := omega) only [Stp, Same, stepR_value, stepR_skip, r_add, r_sub, r_mul, r_quo, r_rem, r_and, r_or, r_xor, r_andNot, r_shl, r_shr, r_eql, r_neq, r_lss, r_leq, r_gtr, r_geq, r_neg, r_cpl, r_not, r_pick, r_min, r_max, r_nil, x20, x21, x30, x31, x32, x40, x41, x42, x43, ldC_some, Result.ok.injEq, Next.value.injEq, true_and, and_true, w_i64, w_u64, w_i32, w_u32, w_u16, w_u8, Int.toNat_natCast, isB_tt, isB_tf, isB_ft, isB_ff, Gd_true, Gd_false, Gs_true, Gs_false, Cnd_true, Cnd_false, if_true, if_false, Bool.false_eq_true, Nat.zero_add, Option.isNone_some, Option.isNone_none, Bool.not_true, Bool.not_false, List.getElem?_cons_succ, List.getElem?_cons_zero, ln_sl_uint8, cv_int_uint, cv_int_uint8, ln_string, ia_sl_uint8, ld_uint8, cv_uint8_int, bd_weights_Code_0_1, ia_sl_weights_Code, bd_lightermanref08_C_, ix_string, bd_lightermanref08_C_0_1, ia_sl_lightermanref08_C, sl_sl_uint8_lo, sl_sl_uint8_hi, ln_sl_uint32, ia_sl_uint32, ld_uint32, cv_uint32_uint64, sl_sl_uint32_hi, ln_sl_int, ia_sl_int, ld_int, cv_uint_uint32, seql_sl_uint8, cv_uint32_uint8, cv_uint64_uint8, d1]
    refine ⟨.inr ⟨hok, last, v', wl, hlast, l1, hwll, by omega, fun x hx => by have := hw11 x hx; omega, hiff, rfl, o3.1, ?_⟩, x1.seq x3⟩
    rcases o3.2 with h | ⟨b, c, rest', q1, q2, q3⟩
    · exact .inl h
    · exact .inr ⟨b, c, rest', q1, by omega, q3⟩
end Go.Proofs.Ytoepfjgekpdddaa
