/- Contract: the law's examples. -/
import Derived.Test.YtoepfjgekpdddaaAT
import Derived.Test.YtoepfjgekpdddaaBW3
import Derived.Test.YtoepfjgekpdddaaOT
namespace Go.Proofs.Ytoepfjgekpdddaa
open Go Go.En Go.Pu
set_option maxRecDepth 4000
set_option linter.unusedSimpArgs false
set_option linter.unusedVariables false

theorem awake8_c (w : World) : Does pg F_law08_awake #[] w (fun r w' => r = .bool true ∧ Ext w w' nob) := by
  refine law08_awake_does ?_
  unfold law08_awake law08_awake_p5 law08_awake_p4
  refine bs_sl_uint8 (cells := #[.int .u8 1]) (by decide) (by decide) (by kernel_rfl) fun w1 o1 x1 s1 => ?_
  have hb1 : Bs w1 (.slice (some ⟨w.heap.size, 0, none⟩) 1 1) [1] := ⟨_, _, _, rfl, rfl, Nat.le_refl _, fun _ => ⟨_, _, rfl, fun i hi => by rw [o1.cell, Nat.zero_add]; rfl⟩⟩
  refine (whole_c hb1 (by decide)).mono ?_
  rintro r w2 ⟨hwo, x2⟩
  have hw1 : wholeN (nats [1]) = some 1 := by decide +kernel
  rw [hw1] at hwo
  obtain ⟨v2, rfl, o2⟩ := hwo
  have o2 : OSl w2 w1.heap.size 1 v2 2 [.int .u8 1, .int .u8 1] := o2
  obtain ⟨a2, c2, rfl⟩ := o2.len
  simp (disch := omega) only [Stp, Same, stepR_value, stepR_skip, r_add, r_sub, r_mul, r_quo, r_rem, r_and, r_or, r_xor, r_andNot, r_shl, r_shr, r_eql, r_neq, r_lss, r_leq, r_gtr, r_geq, r_neg, r_cpl, r_not, r_pick, r_min, r_max, r_nil, x20, x21, x30, x31, x32, x40, x41, x42, x43, ldC_some, Result.ok.injEq, Next.value.injEq, true_and, and_true, w_i64, w_u64, w_i32, w_u32, w_u16, w_u8, Int.toNat_natCast, isB_tt, isB_tf, isB_ft, isB_ff, Gd_true, Gd_false, Gs_true, Gs_false, Cnd_true, Cnd_false, if_true, if_false, Bool.false_eq_true, Nat.zero_add, Option.isNone_some, Option.isNone_none, Bool.not_true, Bool.not_false, List.getElem?_cons_succ, List.getElem?_cons_zero, ln_sl_uint8, cv_int_uint, cv_int_uint8, ln_string, ia_sl_uint8, ld_uint8, cv_uint8_int, bd_weights_Code_0_1, ia_sl_weights_Code, bd_lightermanref08_C_, ix_string, bd_lightermanref08_C_0_1, ia_sl_lightermanref08_C, sl_sl_uint8_lo, sl_sl_uint8_hi, ln_sl_uint32, ia_sl_uint32, ld_uint32, cv_uint32_uint64, sl_sl_uint32_hi, ln_sl_int, ia_sl_int, ld_int, cv_uint_uint32, seql_sl_uint8, cv_uint32_uint8, cv_uint64_uint8, ln_sl_weights_Code, fa_weights_Code_Bits, fa_weights_Code_Code]
  refine bs_sl_uint8 (cells := #[.int .u8 2, .int .u8 1, .int .u8 1]) (by decide) (by decide) (by kernel_rfl) fun w3 o3 x3 s3 => ?_
  have hb3 : Bs w3 (.slice (some ⟨w2.heap.size, 0, none⟩) 3 3) [2, 1, 1] := ⟨_, _, _, rfl, rfl, Nat.le_refl _, fun _ => ⟨_, _, rfl, fun i hi => by rw [o3.cell, Nat.zero_add]; rfl⟩⟩
  have hd2 : depthN (nats [2, 1, 1]) = 2 := by decide +kernel
  refine (codes_c hb3 hd2 (by decide)).mono ?_
  rintro r w4 ⟨b4, rfl, hb4, o4, x4⟩
  have hcd : cc (codesN (nats [2, 1, 1]) 2) = [.int .i64 1, .int .i64 1, .int .i64 2, .int .i64 0, .int .i64 2, .int .i64 1] := by
    have : codesN (nats [2, 1, 1]) 2 = [(1, 1), (2, 0), (2, 1)] := by decide +kernel
    rw [this]; rfl
  rw [hcd] at o4
  simp (disch := omega) only [Stp, Same, stepR_value, stepR_skip, r_add, r_sub, r_mul, r_quo, r_rem, r_and, r_or, r_xor, r_andNot, r_shl, r_shr, r_eql, r_neq, r_lss, r_leq, r_gtr, r_geq, r_neg, r_cpl, r_not, r_pick, r_min, r_max, r_nil, x20, x21, x30, x31, x32, x40, x41, x42, x43, ldC_some, Result.ok.injEq, Next.value.injEq, true_and, and_true, w_i64, w_u64, w_i32, w_u32, w_u16, w_u8, Int.toNat_natCast, isB_tt, isB_tf, isB_ft, isB_ff, Gd_true, Gd_false, Gs_true, Gs_false, Cnd_true, Cnd_false, if_true, if_false, Bool.false_eq_true, Nat.zero_add, Option.isNone_some, Option.isNone_none, Bool.not_true, Bool.not_false, List.getElem?_cons_succ, List.getElem?_cons_zero, ln_sl_uint8, cv_int_uint, cv_int_uint8, ln_string, ia_sl_uint8, ld_uint8, cv_uint8_int, bd_weights_Code_0_1, ia_sl_weights_Code, bd_lightermanref08_C_, ix_string, bd_lightermanref08_C_0_1, ia_sl_lightermanref08_C, sl_sl_uint8_lo, sl_sl_uint8_hi, ln_sl_uint32, ia_sl_uint32, ld_uint32, cv_uint32_uint64, sl_sl_uint32_hi, ln_sl_int, ia_sl_int, ld_int, cv_uint_uint32, seql_sl_uint8, cv_uint32_uint8, cv_uint64_uint8, ln_sl_weights_Code, fa_weights_Code_Bits, fa_weights_Code_Code]
  refine bs_sl_uint8 (cells := #[.int .u8 2, .int .u8 1, .int .u8 1]) (by decide) (by decide) (by kernel_rfl) fun w5 o5 x5 s5 => ?_
  have hb5 : Bs w5 (.slice (some ⟨w4.heap.size, 0, none⟩) 3 3) [2, 1, 1] := ⟨_, _, _, rfl, rfl, Nat.le_refl _, fun _ => ⟨_, _, rfl, fun i hi => by rw [o5.cell, Nat.zero_add]; rfl⟩⟩
  refine (wwrite_c hb5 hd2 (by decide) (by decide)).mono ?_
  rintro r w6 ⟨v6, rfl, o6, x6⟩
  have hwr : wrB (nats [2, 1, 1]) = [129, 33] := by decide +kernel
  rw [hwr] at o6
  have hb6 : Bs w6 v6 [129, 33] := o6.sl
  have o6 : OSl w6 w5.heap.size 1 v6 2 _ := o6
  obtain ⟨a6, c6, rfl⟩ := o6.len
  simp (disch := omega) only [Stp, Same, stepR_value, stepR_skip, r_add, r_sub, r_mul, r_quo, r_rem, r_and, r_or, r_xor, r_andNot, r_shl, r_shr, r_eql, r_neq, r_lss, r_leq, r_gtr, r_geq, r_neg, r_cpl, r_not, r_pick, r_min, r_max, r_nil, x20, x21, x30, x31, x32, x40, x41, x42, x43, ldC_some, Result.ok.injEq, Next.value.injEq, true_and, and_true, w_i64, w_u64, w_i32, w_u32, w_u16, w_u8, Int.toNat_natCast, isB_tt, isB_tf, isB_ft, isB_ff, Gd_true, Gd_false, Gs_true, Gs_false, Cnd_true, Cnd_false, if_true, if_false, Bool.false_eq_true, Nat.zero_add, Option.isNone_some, Option.isNone_none, Bool.not_true, Bool.not_false, List.getElem?_cons_succ, List.getElem?_cons_zero, ln_sl_uint8, cv_int_uint, cv_int_uint8, ln_string, ia_sl_uint8, ld_uint8, cv_uint8_int, bd_weights_Code_0_1, ia_sl_weights_Code, bd_lightermanref08_C_, ix_string, bd_lightermanref08_C_0_1, ia_sl_lightermanref08_C, sl_sl_uint8_lo, sl_sl_uint8_hi, ln_sl_uint32, ia_sl_uint32, ld_uint32, cv_uint32_uint64, sl_sl_uint32_hi, ln_sl_int, ia_sl_int, ld_int, cv_uint_uint32, seql_sl_uint8, cv_uint32_uint8, cv_uint64_uint8, ln_sl_weights_Code, fa_weights_Code_Bits, fa_weights_Code_Code]
  refine (readDirect_c (h := 129) (rest := [33]) hb6 rfl (by decide) (by decide) (by decide)).mono ?_
  rintro r w7 ⟨hdo, x7⟩
  unfold DirectOf at hdo
  rw [if_neg (by decide)] at hdo
  have hw7 : wholeN (halvesN (nats [33]) (129 - 127)) = some 1 := by decide +kernel
  have hh7 : byts (halvesN (nats [33]) (129 - 127)) ++ [UInt8.ofNat 1] = [2, 1, 1] := by decide +kernel
  rw [hw7] at hdo
  simp only [hh7] at hdo
  obtain ⟨v7, rfl, o7⟩ := hdo
  have o7 : OSl w7 w6.heap.size 1 v7 3 (([2, 1, 1] : List UInt8).map b2v) := o7
  have hb7 : Bs w7 v7 [2, 1, 1] := o7.sl
  obtain ⟨a7, c7, rfl⟩ := o7.len
  simp (disch := omega) only [Stp, Same, stepR_value, stepR_skip, r_add, r_sub, r_mul, r_quo, r_rem, r_and, r_or, r_xor, r_andNot, r_shl, r_shr, r_eql, r_neq, r_lss, r_leq, r_gtr, r_geq, r_neg, r_cpl, r_not, r_pick, r_min, r_max, r_nil, x20, x21, x30, x31, x32, x40, x41, x42, x43, ldC_some, Result.ok.injEq, Next.value.injEq, true_and, and_true, w_i64, w_u64, w_i32, w_u32, w_u16, w_u8, Int.toNat_natCast, isB_tt, isB_tf, isB_ft, isB_ff, Gd_true, Gd_false, Gs_true, Gs_false, Cnd_true, Cnd_false, if_true, if_false, Bool.false_eq_true, Nat.zero_add, Option.isNone_some, Option.isNone_none, Bool.not_true, Bool.not_false, List.getElem?_cons_succ, List.getElem?_cons_zero, ln_sl_uint8, cv_int_uint, cv_int_uint8, ln_string, ia_sl_uint8, ld_uint8, cv_uint8_int, bd_weights_Code_0_1, ia_sl_weights_Code, bd_lightermanref08_C_, ix_string, bd_lightermanref08_C_0_1, ia_sl_lightermanref08_C, sl_sl_uint8_lo, sl_sl_uint8_hi, ln_sl_uint32, ia_sl_uint32, ld_uint32, cv_uint32_uint64, sl_sl_uint32_hi, ln_sl_int, ia_sl_int, ld_int, cv_uint_uint32, seql_sl_uint8, cv_uint32_uint8, cv_uint64_uint8, ln_sl_weights_Code, fa_weights_Code_Bits, fa_weights_Code_Code]
  refine bs_sl_uint32 (cells := #[.int .u32 9, .int .u32 0, .int .u32 1]) (by decide) (by decide) (by kernel_rfl) fun w8 o8 x8 s8 => ?_
  have hs8 : Sl w8 (.slice (some ⟨w7.heap.size, 0, none⟩) 3 3) (u32s [9, 0, 1]) := ⟨_, _, _, rfl, rfl, Nat.le_refl _, fun _ => ⟨_, _, rfl, fun i hi => by rw [o8.cell, Nat.zero_add]; rfl⟩⟩
  refine (ofw_c hs8 (by decide) (by decide)).mono ?_
  rintro r w9 ⟨hof, x9⟩
  rcases hof with ⟨h, _⟩ | ⟨_, last, v9, wl, hla, _, _, _, _, _, rfl, o9⟩
  · exact absurd h (by decide)
  have hlast2 : last = 2 := hla.one (.inr ⟨by decide, by decide, fun j h1 h2 => by simp at h2; omega⟩)
  subst hlast2
  have o9 : OSl w9 w8.heap.size 1 v9 3 _ := o9
  obtain ⟨a9, c9, rfl⟩ := o9.len
  have x79 := x8.seq x9
  have x49 := ((x5.seq x6).seq x7).seq x79
  have x29 := (x3.seq x4).seq x49
  have o2e := o2.ext x29 (fun _ _ h => h)
  have o4e := o4.ext x49 (fun h => h)
  have hb7e := hb7.ext x79 (inB_nob _)
  obtain ⟨b2, off2, rfl, hcell2⟩ := slA o2e.sl (by decide)
  have g2 := hcell2 1 (by decide)
  have k0 := o4e.cell (off := 0)
  have k1 := o4e.cell (off := 1)
  have k5 := o4e.cell (off := 5)
  simp only [List.getElem?_cons_zero, List.getElem?_cons_succ] at g2 k0 k1 k5
  have hcv := cv_sl_uint8_string hb7e
  have hse : ((⟨([2, 1, 1] : List UInt8).toArray⟩ : ByteArray).toList == (⟨#[2, 1, 1]⟩ : ByteArray).toList) = true := by
    have : (⟨([2, 1, 1] : List UInt8).toArray⟩ : ByteArray) = ⟨#[2, 1, 1]⟩ := rfl
    rw [this]; exact str_same _
  have n1 : ((0 : Int) == 0) = true := rfl
  have n2 : (((2 : Nat) : Int) == 2) = true := rfl
  have n3 : (((3 : Nat) : Int) == 3) = true := rfl
  have n4 : ((1 : Int) == 1) = true := rfl
  have n5 : (((1 + (129 - 127 + 1) / 2 : Nat) : Int) == ((2 : Nat) : Int)) = true := rfl
  have n6 : ((([2, 1, 1] : List UInt8).length : Int) == 3) = true := rfl
  have hL3 : ([2, 1, 1] : List UInt8).length = 3 := rfl
  have t0 : (0 : Int).toNat = 0 := rfl
  have t1 : (1 : Int).toNat = 1 := rfl
  have t2 : (2 : Int).toNat = 2 := rfl
  simp (disch := omega) only [Stp, Same, stepR_value, stepR_skip, r_add, r_sub, r_mul, r_quo, r_rem, r_and, r_or, r_xor, r_andNot, r_shl, r_shr, r_eql, r_neq, r_lss, r_leq, r_gtr, r_geq, r_neg, r_cpl, r_not, r_pick, r_min, r_max, r_nil, x20, x21, x30, x31, x32, x40, x41, x42, x43, ldC_some, Result.ok.injEq, Next.value.injEq, true_and, and_true, w_i64, w_u64, w_i32, w_u32, w_u16, w_u8, Int.toNat_natCast, isB_tt, isB_tf, isB_ft, isB_ff, Gd_true, Gd_false, Gs_true, Gs_false, Cnd_true, Cnd_false, if_true, if_false, Bool.false_eq_true, Nat.zero_add, Option.isNone_some, Option.isNone_none, Bool.not_true, Bool.not_false, List.getElem?_cons_succ, List.getElem?_cons_zero, ln_sl_uint8, cv_int_uint, cv_int_uint8, ln_string, ia_sl_uint8, ld_uint8, cv_uint8_int, bd_weights_Code_0_1, ia_sl_weights_Code, bd_lightermanref08_C_, ix_string, bd_lightermanref08_C_0_1, ia_sl_lightermanref08_C, sl_sl_uint8_lo, sl_sl_uint8_hi, ln_sl_uint32, ia_sl_uint32, ld_uint32, cv_uint32_uint64, sl_sl_uint32_hi, ln_sl_int, ia_sl_int, ld_int, cv_uint_uint32, seql_sl_uint8, cv_uint32_uint8, cv_uint64_uint8, ln_sl_weights_Code, fa_weights_Code_Bits, fa_weights_Code_Code]
  unfold law08_awake_p3 law08_awake_p2
  simp (maxSteps := 4000000) (disch := omega) only [Stp, Same, stepR_value, stepR_skip, r_add, r_sub, r_mul, r_quo, r_rem, r_and, r_or, r_xor, r_andNot, r_shl, r_shr, r_eql, r_neq, r_lss, r_leq, r_gtr, r_geq, r_neg, r_cpl, r_not, r_pick, r_min, r_max, r_nil, x20, x21, x30, x31, x32, x40, x41, x42, x43, ldC_some, Result.ok.injEq, Next.value.injEq, true_and, and_true, w_i64, w_u64, w_i32, w_u32, w_u16, w_u8, Int.toNat_natCast, isB_tt, isB_tf, isB_ft, isB_ff, Gd_true, Gd_false, Gs_true, Gs_false, Cnd_true, Cnd_false, if_true, if_false, Bool.false_eq_true, Nat.zero_add, Option.isNone_some, Option.isNone_none, Bool.not_true, Bool.not_false, List.getElem?_cons_succ, List.getElem?_cons_zero, ln_sl_uint8, cv_int_uint, cv_int_uint8, ln_string, ia_sl_uint8, ld_uint8, cv_uint8_int, bd_weights_Code_0_1, ia_sl_weights_Code, bd_lightermanref08_C_, ix_string, bd_lightermanref08_C_0_1, ia_sl_lightermanref08_C, sl_sl_uint8_lo, sl_sl_uint8_hi, ln_sl_uint32, ia_sl_uint32, ld_uint32, cv_uint32_uint64, sl_sl_uint32_hi, ln_sl_int, ia_sl_int, ld_int, cv_uint_uint32, seql_sl_uint8, cv_uint32_uint8, cv_uint64_uint8, ln_sl_weights_Code, fa_weights_Code_Bits, fa_weights_Code_Code, hL3, g2, k0, k1, k5, hcv, r_seql, hse, n1, n2, n3, n4, n5, n6, t0, t1, t2]
  unfold law08_awake_p1
  exact ⟨rfl, (x1.seq x2).seq x29⟩
end Go.Proofs.Ytoepfjgekpdddaa
/- Contract: the law WeightsOf. -/
namespace Go.Proofs.Ytoepfjgekpdddaa
open Go Go.En Go.Pu
set_option maxRecDepth 4000
set_option linter.unusedSimpArgs false
set_option linter.unusedVariables false

theorem ofLaw8_loop1 {ov : Value} {ns : List Nat} {w : World} (hs : Sl w ov (u32s ns)) (hn : ∀ n ∈ ns, n ≤ 4294967295) (hl : ns.length ≤ 300) {RR : Value → World → Prop}
    (hK : ∀ last, LastI ns ns.length last → law08_WeightsOf_p9 RR ov (.int .u64 ns.sum) (.int .i64 (ns.countP isOn : Nat)) (.int .i64 last) w) :
    law08_WeightsOf_p17 RR ov (.int .u64 0) (.int .i64 0) (.int .i64 0) w := by
  unfold law08_WeightsOf_p17 law08_WeightsOf_p16 law08_WeightsOf_p15 law08_WeightsOf_p14 law08_WeightsOf_p13
  obtain ⟨a, c, hv, hc⟩ := hs.len
  rw [List.length_map] at hv
  subst hv
  refine LoopD.rule (fun m (t : Value × Value × Value × Value) w' => ∃ i last : Nat, m = ns.length - i ∧ t = (.int .u64 (ns.take i).sum, .int .i64 ((ns.take i).countP isOn : Nat), .int .i64 last, .int .i64 i) ∧ i ≤ ns.length ∧ LastI ns i last ∧ last ≤ i ∧ w' = w) ns.length
    ⟨0, 0, rfl, by simp, by omega, .inl ⟨rfl, fun j h => by omega⟩, by omega, rfl⟩ ?_
  rintro m t w1 ⟨i, last, rfl, rfl, hi, hla, hli, rfl⟩
  unfold law08_WeightsOf_p12 law08_WeightsOf_p11
  by_cases hlt : i < ns.length
  · have d1 : decide ((i : Int) < (ns.length : Int)) = true := by simp; omega
    obtain ⟨b, off, rfl, hcell⟩ := slA hs (by omega)
    have g1 := hcell i hlt
    rw [u32_get hlt] at g1
    have hni : ns.getD i 0 ≤ 4294967295 := by rw [getD_at hlt]; exact hn _ (List.getElem_mem hlt)
    have hsl := sum_le (B := 4294967295) (l := ns.take i) fun n hn' => hn n (List.mem_of_mem_take hn')
    rw [List.length_take, Nat.min_eq_left (by omega)] at hsl
    have hsl2 : i * 4294967295 ≤ 300 * 4294967295 := Nat.mul_le_mul_right _ (by omega)
    have hct : (ns.take i).countP isOn ≤ i := by
      have := List.countP_le_length (l := ns.take i) (p := isOn)
      rw [List.length_take] at this; omega
    have hsum : (ns.take (i + 1)).sum = (ns.take i).sum + ns.getD i 0 := by rw [take_snocD hlt, List.sum_append]; simp
    have hcnt : (ns.take (i + 1)).countP isOn = (ns.take i).countP isOn + (if 0 < ns.getD i 0 then 1 else 0) := by
      rw [take_snocD hlt, List.countP_append, List.countP_singleton]
      unfold isOn; simp only [decide_eq_true_eq]
    have hstep := hla.step
    generalize ns.getD i 0 = n at *
    have e1 : (((ns.take i).sum : Nat) : Int) + (n : Int) = (((ns.take i).sum + n : Nat) : Int) := by omega
    by_cases h0 : 0 < n
    · have d2 : decide ((0 : Int) < (n : Int)) = true := by simp; omega
      rw [if_pos h0] at hcnt hstep
      unfold law08_WeightsOf_p10
      simp (disch := omega) only [Stp, Same, stepR_value, stepR_skip, r_add, r_sub, r_mul, r_quo, r_rem, r_and, r_or, r_xor, r_andNot, r_shl, r_shr, r_eql, r_neq, r_lss, r_leq, r_gtr, r_geq, r_neg, r_cpl, r_not, r_pick, r_min, r_max, r_nil, x20, x21, x30, x31, x32, x40, x41, x42, x43, ldC_some, Result.ok.injEq, Next.value.injEq, true_and, and_true, w_i64, w_u64, w_i32, w_u32, w_u16, w_u8, Int.toNat_natCast, isB_tt, isB_tf, isB_ft, isB_ff, Gd_true, Gd_false, Gs_true, Gs_false, Cnd_true, Cnd_false, if_true, if_false, Bool.false_eq_true, Nat.zero_add, Option.isNone_some, Option.isNone_none, Bool.not_true, Bool.not_false, List.getElem?_cons_succ, List.getElem?_cons_zero, ln_sl_uint8, cv_int_uint, cv_int_uint8, ln_string, ia_sl_uint8, ld_uint8, cv_uint8_int, bd_weights_Code_0_1, ia_sl_weights_Code, bd_lightermanref08_C_, ix_string, bd_lightermanref08_C_0_1, ia_sl_lightermanref08_C, sl_sl_uint8_lo, sl_sl_uint8_hi, ln_sl_uint32, ia_sl_uint32, ld_uint32, cv_uint32_uint64, sl_sl_uint32_hi, ln_sl_int, ia_sl_int, ld_int, cv_uint_uint32, seql_sl_uint8, cv_uint32_uint8, cv_uint64_uint8, ln_sl_weights_Code, fa_weights_Code_Bits, fa_weights_Code_Code, ln_sl_lightermanref08_C, fa_lightermanref08_C_Bits, fa_lightermanref08_C_Code, bneq_bool, d1, g1, d2, e1]
      exact ⟨ns.length - (i + 1), by omega, i + 1, i, rfl, by rw [hsum, hcnt]; rfl, by omega, hstep, by omega⟩
    · have d2 : decide ((0 : Int) < (n : Int)) = false := by simp; omega
      rw [if_neg h0] at hcnt hstep
      unfold law08_WeightsOf_p10
      simp (disch := omega) only [Stp, Same, stepR_value, stepR_skip, r_add, r_sub, r_mul, r_quo, r_rem, r_and, r_or, r_xor, r_andNot, r_shl, r_shr, r_eql, r_neq, r_lss, r_leq, r_gtr, r_geq, r_neg, r_cpl, r_not, r_pick, r_min, r_max, r_nil, x20, x21, x30, x31, x32, x40, x41, x42, x43, ldC_some, Result.ok.injEq, Next.value.injEq, true_and, and_true, w_i64, w_u64, w_i32, w_u32, w_u16, w_u8, Int.toNat_natCast, isB_tt, isB_tf, isB_ft, isB_ff, Gd_true, Gd_false, Gs_true, Gs_false, Cnd_true, Cnd_false, if_true, if_false, Bool.false_eq_true, Nat.zero_add, Option.isNone_some, Option.isNone_none, Bool.not_true, Bool.not_false, List.getElem?_cons_succ, List.getElem?_cons_zero, ln_sl_uint8, cv_int_uint, cv_int_uint8, ln_string, ia_sl_uint8, ld_uint8, cv_uint8_int, bd_weights_Code_0_1, ia_sl_weights_Code, bd_lightermanref08_C_, ix_string, bd_lightermanref08_C_0_1, ia_sl_lightermanref08_C, sl_sl_uint8_lo, sl_sl_uint8_hi, ln_sl_uint32, ia_sl_uint32, ld_uint32, cv_uint32_uint64, sl_sl_uint32_hi, ln_sl_int, ia_sl_int, ld_int, cv_uint_uint32, seql_sl_uint8, cv_uint32_uint8, cv_uint64_uint8, ln_sl_weights_Code, fa_weights_Code_Bits, fa_weights_Code_Code, ln_sl_lightermanref08_C, fa_lightermanref08_C_Bits, fa_lightermanref08_C_Code, bneq_bool, d1, g1, d2, e1]
      exact ⟨ns.length - (i + 1), by omega, i + 1, last, rfl, by rw [hsum, hcnt]; rfl, by omega, hstep, by omega⟩
  · have d1 : decide ((i : Int) < (ns.length : Int)) = false := by simp; omega
    obtain rfl : i = ns.length := by omega
    rw [List.take_of_length_le (Nat.le_refl _)]
    simp (disch := omega) only [Stp, Same, stepR_value, stepR_skip, r_add, r_sub, r_mul, r_quo, r_rem, r_and, r_or, r_xor, r_andNot, r_shl, r_shr, r_eql, r_neq, r_lss, r_leq, r_gtr, r_geq, r_neg, r_cpl, r_not, r_pick, r_min, r_max, r_nil, x20, x21, x30, x31, x32, x40, x41, x42, x43, ldC_some, Result.ok.injEq, Next.value.injEq, true_and, and_true, w_i64, w_u64, w_i32, w_u32, w_u16, w_u8, Int.toNat_natCast, isB_tt, isB_tf, isB_ft, isB_ff, Gd_true, Gd_false, Gs_true, Gs_false, Cnd_true, Cnd_false, if_true, if_false, Bool.false_eq_true, Nat.zero_add, Option.isNone_some, Option.isNone_none, Bool.not_true, Bool.not_false, List.getElem?_cons_succ, List.getElem?_cons_zero, ln_sl_uint8, cv_int_uint, cv_int_uint8, ln_string, ia_sl_uint8, ld_uint8, cv_uint8_int, bd_weights_Code_0_1, ia_sl_weights_Code, bd_lightermanref08_C_, ix_string, bd_lightermanref08_C_0_1, ia_sl_lightermanref08_C, sl_sl_uint8_lo, sl_sl_uint8_hi, ln_sl_uint32, ia_sl_uint32, ld_uint32, cv_uint32_uint64, sl_sl_uint32_hi, ln_sl_int, ia_sl_int, ld_int, cv_uint_uint32, seql_sl_uint8, cv_uint32_uint8, cv_uint64_uint8, ln_sl_weights_Code, fa_weights_Code_Bits, fa_weights_Code_Code, ln_sl_lightermanref08_C, fa_lightermanref08_C_Bits, fa_lightermanref08_C_Code, bneq_bool, d1]
    exact hK last hla


theorem byts_get {wl : List Nat} (h : ∀ x ∈ wl, x ≤ 11) {i : Nat} (hi : i < wl.length) : ((byts wl).map b2v)[i]? = some (.int .u8 (wl.getD i 0 : Nat)) := by
  have hx : wl.getD i 0 = wl[i] := by rw [List.getD_eq_getElem?_getD, List.getElem?_eq_getElem hi]; rfl
  have hx2 := h _ (List.getElem_mem hi)
  rw [List.getElem?_map]
  show Option.map b2v ((wl.map UInt8.ofNat)[i]?) = _
  rw [List.getElem?_map, List.getElem?_eq_getElem hi, Option.map_some, Option.map_some, b2v_of (by omega), hx]

theorem weightsOf_c {ov : Value} {ns : List Nat} {w : World} (hs : Sl w ov (u32s ns)) (hn : ∀ n ∈ ns, n ≤ 4294967295) (hl : ns.length ≤ 9223372036854775807) :
    Does pg F_law08_WeightsOf #[ov] w (fun r w' => r = .bool true ∧ Ext w w' nob) := by
  refine law08_WeightsOf_does ?_
  unfold law08_WeightsOf law08_WeightsOf_p19 law08_WeightsOf_p18
  obtain ⟨a, c, hv, hc⟩ := hs.len
  rw [List.length_map] at hv hc
  subst hv
  refine (awake8_c w).mono ?_
  rintro r w1 ⟨rfl, x1⟩
  have hs1 := hs.ext x1 (inB_nob _)
  by_cases hl3 : 300 < ns.length
  · have d1 : decide ((300 : Int) < (ns.length : Int)) = true := by simp; omega
    simp (disch := omega) only [Stp, Same, stepR_value, stepR_skip, r_add, r_sub, r_mul, r_quo, r_rem, r_and, r_or, r_xor, r_andNot, r_shl, r_shr, r_eql, r_neq, r_lss, r_leq, r_gtr, r_geq, r_neg, r_cpl, r_not, r_pick, r_min, r_max, r_nil, x20, x21, x30, x31, x32, x40, x41, x42, x43, ldC_some, Result.ok.injEq, Next.value.injEq, true_and, and_true, w_i64, w_u64, w_i32, w_u32, w_u16, w_u8, Int.toNat_natCast, isB_tt, isB_tf, isB_ft, isB_ff, Gd_true, Gd_false, Gs_true, Gs_false, Cnd_true, Cnd_false, if_true, if_false, Bool.false_eq_true, Nat.zero_add, Option.isNone_some, Option.isNone_none, Bool.not_true, Bool.not_false, List.getElem?_cons_succ, List.getElem?_cons_zero, ln_sl_uint8, cv_int_uint, cv_int_uint8, ln_string, ia_sl_uint8, ld_uint8, cv_uint8_int, bd_weights_Code_0_1, ia_sl_weights_Code, bd_lightermanref08_C_, ix_string, bd_lightermanref08_C_0_1, ia_sl_lightermanref08_C, sl_sl_uint8_lo, sl_sl_uint8_hi, ln_sl_uint32, ia_sl_uint32, ld_uint32, cv_uint32_uint64, sl_sl_uint32_hi, ln_sl_int, ia_sl_int, ld_int, cv_uint_uint32, seql_sl_uint8, cv_uint32_uint8, cv_uint64_uint8, ln_sl_weights_Code, fa_weights_Code_Bits, fa_weights_Code_Code, ln_sl_lightermanref08_C, fa_lightermanref08_C_Bits, fa_lightermanref08_C_Code, bneq_bool, d1]
    exact x1
  have d0 : decide ((300 : Int) < (ns.length : Int)) = false := by simp; omega
  simp (disch := omega) only [Stp, Same, stepR_value, stepR_skip, r_add, r_sub, r_mul, r_quo, r_rem, r_and, r_or, r_xor, r_andNot, r_shl, r_shr, r_eql, r_neq, r_lss, r_leq, r_gtr, r_geq, r_neg, r_cpl, r_not, r_pick, r_min, r_max, r_nil, x20, x21, x30, x31, x32, x40, x41, x42, x43, ldC_some, Result.ok.injEq, Next.value.injEq, true_and, and_true, w_i64, w_u64, w_i32, w_u32, w_u16, w_u8, Int.toNat_natCast, isB_tt, isB_tf, isB_ft, isB_ff, Gd_true, Gd_false, Gs_true, Gs_false, Cnd_true, Cnd_false, if_true, if_false, Bool.false_eq_true, Nat.zero_add, Option.isNone_some, Option.isNone_none, Bool.not_true, Bool.not_false, List.getElem?_cons_succ, List.getElem?_cons_zero, ln_sl_uint8, cv_int_uint, cv_int_uint8, ln_string, ia_sl_uint8, ld_uint8, cv_uint8_int, bd_weights_Code_0_1, ia_sl_weights_Code, bd_lightermanref08_C_, ix_string, bd_lightermanref08_C_0_1, ia_sl_lightermanref08_C, sl_sl_uint8_lo, sl_sl_uint8_hi, ln_sl_uint32, ia_sl_uint32, ld_uint32, cv_uint32_uint64, sl_sl_uint32_hi, ln_sl_int, ia_sl_int, ld_int, cv_uint_uint32, seql_sl_uint8, cv_uint32_uint8, cv_uint64_uint8, ln_sl_weights_Code, fa_weights_Code_Bits, fa_weights_Code_Code, ln_sl_lightermanref08_C, fa_lightermanref08_C_Bits, fa_lightermanref08_C_Code, bneq_bool, d0]
  refine ofLaw8_loop1 hs1 hn (by omega) fun last hlast => ?_
  unfold law08_WeightsOf_p9 law08_WeightsOf_p8
  refine (ofw_c hs1 hn (by omega)).mono ?_
  rintro r w2 ⟨hof, x2⟩
  have m1 : ((1 : Int) == 1) = true := rfl
  have m2 : (((0 : Nat) : Int) == 0) = true := rfl
  rcases hof with ⟨hno, rfl⟩ | ⟨hyes, last2, v, wl, hla2, hlt2, hwl, hdep, h11, hiff, rfl, ov⟩
  · have hno' : ¬ (ns.length ≤ 256 ∧ 2 ≤ ns.countP isOn ∧ ns.sum ≤ 2147483647) := by
      unfold ofwOk at hno; exact of_decide_eq_false hno
    by_cases h1 : 256 < ns.length
    · have d1 : decide ((256 : Int) < (ns.length : Int)) = true := by simp; omega
      simp (disch := omega) only [Stp, Same, stepR_value, stepR_skip, r_add, r_sub, r_mul, r_quo, r_rem, r_and, r_or, r_xor, r_andNot, r_shl, r_shr, r_eql, r_neq, r_lss, r_leq, r_gtr, r_geq, r_neg, r_cpl, r_not, r_pick, r_min, r_max, r_nil, x20, x21, x30, x31, x32, x40, x41, x42, x43, ldC_some, Result.ok.injEq, Next.value.injEq, true_and, and_true, w_i64, w_u64, w_i32, w_u32, w_u16, w_u8, Int.toNat_natCast, isB_tt, isB_tf, isB_ft, isB_ff, Gd_true, Gd_false, Gs_true, Gs_false, Cnd_true, Cnd_false, if_true, if_false, Bool.false_eq_true, Nat.zero_add, Option.isNone_some, Option.isNone_none, Bool.not_true, Bool.not_false, List.getElem?_cons_succ, List.getElem?_cons_zero, ln_sl_uint8, cv_int_uint, cv_int_uint8, ln_string, ia_sl_uint8, ld_uint8, cv_uint8_int, bd_weights_Code_0_1, ia_sl_weights_Code, bd_lightermanref08_C_, ix_string, bd_lightermanref08_C_0_1, ia_sl_lightermanref08_C, sl_sl_uint8_lo, sl_sl_uint8_hi, ln_sl_uint32, ia_sl_uint32, ld_uint32, cv_uint32_uint64, sl_sl_uint32_hi, ln_sl_int, ia_sl_int, ld_int, cv_uint_uint32, seql_sl_uint8, cv_uint32_uint8, cv_uint64_uint8, ln_sl_weights_Code, fa_weights_Code_Bits, fa_weights_Code_Code, ln_sl_lightermanref08_C, fa_lightermanref08_C_Bits, fa_lightermanref08_C_Code, bneq_bool, d1, m1, m2]
      exact x1.seq x2
    have d1 : decide ((256 : Int) < (ns.length : Int)) = false := by simp; omega
    by_cases h2 : ns.countP isOn < 2
    · have d2 : decide (((ns.countP isOn : Nat) : Int) < 2) = true := by simp; omega
      simp (disch := omega) only [Stp, Same, stepR_value, stepR_skip, r_add, r_sub, r_mul, r_quo, r_rem, r_and, r_or, r_xor, r_andNot, r_shl, r_shr, r_eql, r_neq, r_lss, r_leq, r_gtr, r_geq, r_neg, r_cpl, r_not, r_pick, r_min, r_max, r_nil, x20, x21, x30, x31, x32, x40, x41, x42, x43, ldC_some, Result.ok.injEq, Next.value.injEq, true_and, and_true, w_i64, w_u64, w_i32, w_u32, w_u16, w_u8, Int.toNat_natCast, isB_tt, isB_tf, isB_ft, isB_ff, Gd_true, Gd_false, Gs_true, Gs_false, Cnd_true, Cnd_false, if_true, if_false, Bool.false_eq_true, Nat.zero_add, Option.isNone_some, Option.isNone_none, Bool.not_true, Bool.not_false, List.getElem?_cons_succ, List.getElem?_cons_zero, ln_sl_uint8, cv_int_uint, cv_int_uint8, ln_string, ia_sl_uint8, ld_uint8, cv_uint8_int, bd_weights_Code_0_1, ia_sl_weights_Code, bd_lightermanref08_C_, ix_string, bd_lightermanref08_C_0_1, ia_sl_lightermanref08_C, sl_sl_uint8_lo, sl_sl_uint8_hi, ln_sl_uint32, ia_sl_uint32, ld_uint32, cv_uint32_uint64, sl_sl_uint32_hi, ln_sl_int, ia_sl_int, ld_int, cv_uint_uint32, seql_sl_uint8, cv_uint32_uint8, cv_uint64_uint8, ln_sl_weights_Code, fa_weights_Code_Bits, fa_weights_Code_Code, ln_sl_lightermanref08_C, fa_lightermanref08_C_Bits, fa_lightermanref08_C_Code, bneq_bool, d1, d2, m1, m2]
      exact x1.seq x2
    have d2 : decide (((ns.countP isOn : Nat) : Int) < 2) = false := by simp; omega
    have d3 : decide ((2147483647 : Int) < ((ns.sum : Nat) : Int)) = true := by simp; omega
    simp (disch := omega) only [Stp, Same, stepR_value, stepR_skip, r_add, r_sub, r_mul, r_quo, r_rem, r_and, r_or, r_xor, r_andNot, r_shl, r_shr, r_eql, r_neq, r_lss, r_leq, r_gtr, r_geq, r_neg, r_cpl, r_not, r_pick, r_min, r_max, r_nil, x20, x21, x30, x31, x32, x40, x41, x42, x43, ldC_some, Result.ok.injEq, Next.value.injEq, true_and, and_true, w_i64, w_u64, w_i32, w_u32, w_u16, w_u8, Int.toNat_natCast, isB_tt, isB_tf, isB_ft, isB_ff, Gd_true, Gd_false, Gs_true, Gs_false, Cnd_true, Cnd_false, if_true, if_false, Bool.false_eq_true, Nat.zero_add, Option.isNone_some, Option.isNone_none, Bool.not_true, Bool.not_false, List.getElem?_cons_succ, List.getElem?_cons_zero, ln_sl_uint8, cv_int_uint, cv_int_uint8, ln_string, ia_sl_uint8, ld_uint8, cv_uint8_int, bd_weights_Code_0_1, ia_sl_weights_Code, bd_lightermanref08_C_, ix_string, bd_lightermanref08_C_0_1, ia_sl_lightermanref08_C, sl_sl_uint8_lo, sl_sl_uint8_hi, ln_sl_uint32, ia_sl_uint32, ld_uint32, cv_uint32_uint64, sl_sl_uint32_hi, ln_sl_int, ia_sl_int, ld_int, cv_uint_uint32, seql_sl_uint8, cv_uint32_uint8, cv_uint64_uint8, ln_sl_weights_Code, fa_weights_Code_Bits, fa_weights_Code_Code, ln_sl_lightermanref08_C, fa_lightermanref08_C_Bits, fa_lightermanref08_C_Code, bneq_bool, d1, d2, d3, m1, m2]
    exact x1.seq x2
  have hyes' : ns.length ≤ 256 ∧ 2 ≤ ns.countP isOn ∧ ns.sum ≤ 2147483647 := by
    unfold ofwOk at hyes; exact of_decide_eq_true hyes
  obtain ⟨h1, h2, h3⟩ := hyes'
  obtain rfl : last2 = last := hla2.one hlast
  have d1 : decide ((256 : Int) < (ns.length : Int)) = false := by simp; omega
  have d2 : decide (((ns.countP isOn : Nat) : Int) < 2) = false := by simp; omega
  have d3 : decide ((2147483647 : Int) < ((ns.sum : Nat) : Int)) = false := by simp; omega
  have hb : Bs w2 v (byts wl) := ov.sl
  have hcv := cv_sl_uint8_string hb
  have hbs := hb
  obtain ⟨av, cv, rfl⟩ := ov.len
  have n1 : ((0 : Int) != 0) = false := rfl
  have n2 : (((last2 + 1 : Nat) : Int) != (last2 : Int) + 1) = false := by simp
  have hlb : lst (⟨(byts wl).toArray⟩ : ByteArray) = byts wl := lst_mk _
  have hzb : (⟨(byts wl).toArray⟩ : ByteArray).size = last2 + 1 := by rw [← lst_length, hlb, List.length_map, hwl]
  simp (disch := omega) only [Stp, Same, stepR_value, stepR_skip, r_add, r_sub, r_mul, r_quo, r_rem, r_and, r_or, r_xor, r_andNot, r_shl, r_shr, r_eql, r_neq, r_lss, r_leq, r_gtr, r_geq, r_neg, r_cpl, r_not, r_pick, r_min, r_max, r_nil, x20, x21, x30, x31, x32, x40, x41, x42, x43, ldC_some, Result.ok.injEq, Next.value.injEq, true_and, and_true, w_i64, w_u64, w_i32, w_u32, w_u16, w_u8, Int.toNat_natCast, isB_tt, isB_tf, isB_ft, isB_ff, Gd_true, Gd_false, Gs_true, Gs_false, Cnd_true, Cnd_false, if_true, if_false, Bool.false_eq_true, Nat.zero_add, Option.isNone_some, Option.isNone_none, Bool.not_true, Bool.not_false, List.getElem?_cons_succ, List.getElem?_cons_zero, ln_sl_uint8, cv_int_uint, cv_int_uint8, ln_string, ia_sl_uint8, ld_uint8, cv_uint8_int, bd_weights_Code_0_1, ia_sl_weights_Code, bd_lightermanref08_C_, ix_string, bd_lightermanref08_C_0_1, ia_sl_lightermanref08_C, sl_sl_uint8_lo, sl_sl_uint8_hi, ln_sl_uint32, ia_sl_uint32, ld_uint32, cv_uint32_uint64, sl_sl_uint32_hi, ln_sl_int, ia_sl_int, ld_int, cv_uint_uint32, seql_sl_uint8, cv_uint32_uint8, cv_uint64_uint8, ln_sl_weights_Code, fa_weights_Code_Bits, fa_weights_Code_Code, ln_sl_lightermanref08_C, fa_lightermanref08_C_Bits, fa_lightermanref08_C_Code, bneq_bool, d1, d2, d3, n1, n2, hcv]
  refine (refDepth_c (x := ⟨(byts wl).toArray⟩) (by omega)).mono ?_
  rintro r w3 ⟨rfl, rfl⟩
  rw [hlb, nats_byts fun x hx => by have := h11 x hx; omega]
  have n3 : (((depthN wl : Nat) : Int) == 0) = false := beq_eq_false_iff_ne.2 (by omega)
  simp (disch := omega) only [Stp, Same, stepR_value, stepR_skip, r_add, r_sub, r_mul, r_quo, r_rem, r_and, r_or, r_xor, r_andNot, r_shl, r_shr, r_eql, r_neq, r_lss, r_leq, r_gtr, r_geq, r_neg, r_cpl, r_not, r_pick, r_min, r_max, r_nil, x20, x21, x30, x31, x32, x40, x41, x42, x43, ldC_some, Result.ok.injEq, Next.value.injEq, true_and, and_true, w_i64, w_u64, w_i32, w_u32, w_u16, w_u8, Int.toNat_natCast, isB_tt, isB_tf, isB_ft, isB_ff, Gd_true, Gd_false, Gs_true, Gs_false, Cnd_true, Cnd_false, if_true, if_false, Bool.false_eq_true, Nat.zero_add, Option.isNone_some, Option.isNone_none, Bool.not_true, Bool.not_false, List.getElem?_cons_succ, List.getElem?_cons_zero, ln_sl_uint8, cv_int_uint, cv_int_uint8, ln_string, ia_sl_uint8, ld_uint8, cv_uint8_int, bd_weights_Code_0_1, ia_sl_weights_Code, bd_lightermanref08_C_, ix_string, bd_lightermanref08_C_0_1, ia_sl_lightermanref08_C, sl_sl_uint8_lo, sl_sl_uint8_hi, ln_sl_uint32, ia_sl_uint32, ld_uint32, cv_uint32_uint64, sl_sl_uint32_hi, ln_sl_int, ia_sl_int, ld_int, cv_uint_uint32, seql_sl_uint8, cv_uint32_uint8, cv_uint64_uint8, ln_sl_weights_Code, fa_weights_Code_Bits, fa_weights_Code_Code, ln_sl_lightermanref08_C, fa_lightermanref08_C_Bits, fa_lightermanref08_C_Code, bneq_bool, n3]
  unfold law08_WeightsOf_p7 law08_WeightsOf_p6 law08_WeightsOf_p5 law08_WeightsOf_p4 law08_WeightsOf_p3
  have hs3 := hs1.ext x2 (inB_nob _)
  refine LoopD.rule (fun m (t : Value) w' => ∃ i : Nat, m = last2 + 1 - i ∧ t = .int .i64 i ∧ i ≤ last2 + 1 ∧ Ext w3 w' nob) (last2 + 1) ⟨0, rfl, rfl, by omega, Ext.refl _ _⟩ ?_
  rintro m t w4 ⟨i, rfl, rfl, hi, x4⟩
  unfold law08_WeightsOf_p2
  by_cases hlt : i < last2 + 1
  · have d5 : decide ((i : Int) < ((last2 + 1 : Nat) : Int)) = true := by simp; omega
    have x4d : Ext w3 (dr w4) nob := x4.seq (Ext.dr _ _)
    have hsd := hs3.ext x4d (inB_nob _)
    have hbd := hbs.ext x4d (inB_nob _)
    obtain ⟨b1, off1, rfl, hca⟩ := slA hsd (by omega)
    obtain ⟨b2, off2, rfl, hcb⟩ := slA hbd (by omega)
    have g1 := hca i (by omega)
    have g2 := hcb i (by omega)
    rw [u32_get (by omega)] at g1
    rw [byts_get h11 (by omega)] at g2
    have hii := hiff i hlt
    generalize ns.getD i 0 = p at *
    generalize wl.getD i 0 = q at *
    have d6 : decide ((0 : Int) < (p : Int)) = decide ((0 : Int) < (q : Int)) := by
      by_cases hq : 0 < q
      · have := hii.1 hq
        rw [decide_eq_true (by omega), decide_eq_true (by omega)]
      · have : ¬ 0 < p := fun h => hq (hii.2 h)
        rw [decide_eq_false (by omega), decide_eq_false (by omega)]
    have d7 : (!(decide ((0 : Int) < (q : Int)) == decide ((0 : Int) < (q : Int)))) = false := by simp
    simp (disch := omega) only [Stp, Same, stepR_value, stepR_skip, r_add, r_sub, r_mul, r_quo, r_rem, r_and, r_or, r_xor, r_andNot, r_shl, r_shr, r_eql, r_neq, r_lss, r_leq, r_gtr, r_geq, r_neg, r_cpl, r_not, r_pick, r_min, r_max, r_nil, x20, x21, x30, x31, x32, x40, x41, x42, x43, ldC_some, Result.ok.injEq, Next.value.injEq, true_and, and_true, w_i64, w_u64, w_i32, w_u32, w_u16, w_u8, Int.toNat_natCast, isB_tt, isB_tf, isB_ft, isB_ff, Gd_true, Gd_false, Gs_true, Gs_false, Cnd_true, Cnd_false, if_true, if_false, Bool.false_eq_true, Nat.zero_add, Option.isNone_some, Option.isNone_none, Bool.not_true, Bool.not_false, List.getElem?_cons_succ, List.getElem?_cons_zero, ln_sl_uint8, cv_int_uint, cv_int_uint8, ln_string, ia_sl_uint8, ld_uint8, cv_uint8_int, bd_weights_Code_0_1, ia_sl_weights_Code, bd_lightermanref08_C_, ix_string, bd_lightermanref08_C_0_1, ia_sl_lightermanref08_C, sl_sl_uint8_lo, sl_sl_uint8_hi, ln_sl_uint32, ia_sl_uint32, ld_uint32, cv_uint32_uint64, sl_sl_uint32_hi, ln_sl_int, ia_sl_int, ld_int, cv_uint_uint32, seql_sl_uint8, cv_uint32_uint8, cv_uint64_uint8, ln_sl_weights_Code, fa_weights_Code_Bits, fa_weights_Code_Code, ln_sl_lightermanref08_C, fa_lightermanref08_C_Bits, fa_lightermanref08_C_Code, bneq_bool, d5, g1, g2, d6, d7]
    exact ⟨last2 + 1 - (i + 1), by omega, i + 1, rfl, rfl, by omega, x4d⟩
  · have d5 : decide ((i : Int) < ((last2 + 1 : Nat) : Int)) = false := by simp; omega
    unfold law08_WeightsOf_p1
    simp (disch := omega) only [Stp, Same, stepR_value, stepR_skip, r_add, r_sub, r_mul, r_quo, r_rem, r_and, r_or, r_xor, r_andNot, r_shl, r_shr, r_eql, r_neq, r_lss, r_leq, r_gtr, r_geq, r_neg, r_cpl, r_not, r_pick, r_min, r_max, r_nil, x20, x21, x30, x31, x32, x40, x41, x42, x43, ldC_some, Result.ok.injEq, Next.value.injEq, true_and, and_true, w_i64, w_u64, w_i32, w_u32, w_u16, w_u8, Int.toNat_natCast, isB_tt, isB_tf, isB_ft, isB_ff, Gd_true, Gd_false, Gs_true, Gs_false, Cnd_true, Cnd_false, if_true, if_false, Bool.false_eq_true, Nat.zero_add, Option.isNone_some, Option.isNone_none, Bool.not_true, Bool.not_false, List.getElem?_cons_succ, List.getElem?_cons_zero, ln_sl_uint8, cv_int_uint, cv_int_uint8, ln_string, ia_sl_uint8, ld_uint8, cv_uint8_int, bd_weights_Code_0_1, ia_sl_weights_Code, bd_lightermanref08_C_, ix_string, bd_lightermanref08_C_0_1, ia_sl_lightermanref08_C, sl_sl_uint8_lo, sl_sl_uint8_hi, ln_sl_uint32, ia_sl_uint32, ld_uint32, cv_uint32_uint64, sl_sl_uint32_hi, ln_sl_int, ia_sl_int, ld_int, cv_uint_uint32, seql_sl_uint8, cv_uint32_uint8, cv_uint64_uint8, ln_sl_weights_Code, fa_weights_Code_Bits, fa_weights_Code_Code, ln_sl_lightermanref08_C, fa_lightermanref08_C_Bits, fa_lightermanref08_C_Code, bneq_bool, d5]
    exact (x1.seq x2).seq x4
end Go.Proofs.Ytoepfjgekpdddaa
/- The law WeightsOf at a list of integers. -/
namespace Go.Proofs.Ytoepfjgekpdddaa
open Go Go.En Go.Pu

theorem weightsOfI_c {ov : Value} {z : List Int} {w : World} (hs : Sl w ov (z.map (Value.int .u32))) (h : ∀ x ∈ z, 0 ≤ x ∧ x ≤ 4294967295) (hl : z.length ≤ 9223372036854775807) :
    Does pg F_law08_WeightsOf #[ov] w (fun r w' => r = .bool true ∧ Ext w w' nob) := by
  have e : z.map (Value.int .u32) = u32s (z.map Int.toNat) := by
    show _ = List.map _ (z.map Int.toNat)
    rw [List.map_map]
    apply List.map_congr_left
    intro x hx
    have := h x hx
    show Value.int .u32 x = Value.int .u32 ((x.toNat : Nat) : Int)
    congr 1; omega
  rw [e] at hs
  refine weightsOf_c hs (fun n hn => ?_) (by simpa using hl)
  obtain ⟨x, hx, rfl⟩ := List.mem_map.1 hn
  have := h x hx
  omega
end Go.Proofs.Ytoepfjgekpdddaa
