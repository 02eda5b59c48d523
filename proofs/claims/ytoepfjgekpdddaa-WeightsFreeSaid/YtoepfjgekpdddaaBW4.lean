/- Contract: the law's examples. -/
import Derived.Test.YtoepfjgekpdddaaAT
import Derived.Test.YtoepfjgekpdddaaBW3
import Derived.Test.YtoepfjgekpdddaaMT
import Derived.Test.YtoepfjgekpdddaaPT
namespace Go.Proofs.Ytoepfjgekpdddaa
open Go Go.En Go.Pu
set_option maxRecDepth 4000
set_option linter.unusedSimpArgs false
set_option linter.unusedVariables false

theorem awake8_c (w : World) : Does pg F_law08_awake #[] w (fun r w' => r = .bool true ∧ Ext w w' nob) := by
  refine law08_awake_does ?_
  unfold law08_awake law08_awake_p5 law08_awake_p4
  refine bs_sl_uint8 (cells := #[.int .u8 1]) (by decide) (by decide) (by kernel_rfl) fun w1 o1 x1 s1 => ?_
  have hb1 : Bs w1 (.slice (some ⟨w.heap.size, 0, none⟩) 1 1) [1] := ⟨_, _, _, rfl, rfl, Nat.le_refl _, fun _ => ⟨_, _, rfl, fun i hi => by rw [o1.cell, Nat.zero_add]; rfl⟩⟩
  refine (whole_c hb1 (by decide)).mono ?_
  rintro r w2 ⟨hwo, x2⟩
  have hw1 : wholeN (nats [1]) = some 1 := by decide +kernel
  rw [hw1] at hwo
  obtain ⟨v2, rfl, o2⟩ := hwo
  have o2 : OSl w2 w1.heap.size 1 v2 2 [.int .u8 1, .int .u8 1] := o2
  obtain ⟨a2, c2, rfl⟩ := o2.len
  simp (disch := omega) only [Stp, Same, stepR_value, stepR_skip, r_add, r_sub, r_mul, r_quo, r_rem, r_and, r_or, r_xor, r_andNot, r_shl, r_shr, r_eql, r_neq, r_lss, r_leq, r_gtr, r_geq, r_neg, r_cpl, r_not, r_pick, r_min, r_max, r_nil, x20, x21, x30, x31, x32, x40, x41, x42, x43, ldC_some, Result.ok.injEq, Next.value.injEq, true_and, and_true, w_i64, w_u64, w_i32, w_u32, w_u16, w_u8, Int.toNat_natCast, isB_tt, isB_tf, isB_ft, isB_ff, Gd_true, Gd_false, Gs_true, Gs_false, Cnd_true, Cnd_false, if_true, if_false, Bool.false_eq_true, Nat.zero_add, Option.isNone_some, Option.isNone_none, Bool.not_true, Bool.not_false, List.getElem?_cons_succ, List.getElem?_cons_zero, ln_sl_uint8, cv_int_uint, cv_int_uint8, ln_string, ia_sl_uint8, ld_uint8, cv_uint8_int, bd_weights_Code_0_1, ia_sl_weights_Code, bd_lightermanref08_C_, ix_string, bd_lightermanref08_C_0_1, ia_sl_lightermanref08_C, sl_sl_uint8_lo, sl_sl_uint8_hi, ln_sl_uint32, ia_sl_uint32, ld_uint32, cv_uint32_uint64, sl_sl_uint32_hi, ln_sl_int, ia_sl_int, ld_int, cv_uint_uint32, seql_sl_uint8, cv_uint32_uint8, cv_uint64_uint8, ln_sl_weights_Code, fa_weights_Code_Bits, fa_weights_Code_Code]
  refine bs_sl_uint8 (cells := #[.int .u8 2, .int .u8 1, .int .u8 1]) (by decide) (by decide) (by kernel_rfl) fun w3 o3 x3 s3 => ?_
  have hb3 : Bs w3 (.slice (some ⟨w2.heap.size, 0, none⟩) 3 3) [2, 1, 1] := ⟨_, _, _, rfl, rfl, Nat.le_refl _, fun _ => ⟨_, _, rfl, fun i hi => by rw [o3.cell, Nat.zero_add]; rfl⟩⟩
  have hd2 : depthN (nats [2, 1, 1]) = 2 := by decide +kernel
  refine (codes_c hb3 hd2 (by decide)).mono ?_
  rintro r w4 ⟨b4, rfl, hb4, o4, x4⟩
  have hcd : cc (codesN (nats [2, 1, 1]) 2) = [.int .i64 1, .int .i64 1, .int .i64 2, .int .i64 0, .int .i64 2, .int .i64 1] := by
    have : codesN (nats [2, 1, 1]) 2 = [(1, 1), (2, 0), (2, 1)] := by decide +kernel
    rw [this]; rfl
  rw [hcd] at o4
  simp (disch := omega) only [Stp, Same, stepR_value, stepR_skip, r_add, r_sub, r_mul, r_quo, r_rem, r_and, r_or, r_xor, r_andNot, r_shl, r_shr, r_eql, r_neq, r_lss, r_leq, r_gtr, r_geq, r_neg, r_cpl, r_not, r_pick, r_min, r_max, r_nil, x20, x21, x30, x31, x32, x40, x41, x42, x43, ldC_some, Result.ok.injEq, Next.value.injEq, true_and, and_true, w_i64, w_u64, w_i32, w_u32, w_u16, w_u8, Int.toNat_natCast, isB_tt, isB_tf, isB_ft, isB_ff, Gd_true, Gd_false, Gs_true, Gs_false, Cnd_true, Cnd_false, if_true, if_false, Bool.false_eq_true, Nat.zero_add, Option.isNone_some, Option.isNone_none, Bool.not_true, Bool.not_false, List.getElem?_cons_succ, List.getElem?_cons_zero, ln_sl_uint8, cv_int_uint, cv_int_uint8, ln_string, ia_sl_uint8, ld_uint8, cv_uint8_int, bd_weights_Code_0_1, ia_sl_weights_Code, bd_lightermanref08_C_, ix_string, bd_lightermanref08_C_0_1, ia_sl_lightermanref08_C, sl_sl_uint8_lo, sl_sl_uint8_hi, ln_sl_uint32, ia_sl_uint32, ld_uint32, cv_uint32_uint64, sl_sl_uint32_hi, ln_sl_int, ia_sl_int, ld_int, cv_uint_uint32, seql_sl_uint8, cv_uint32_uint8, cv_uint64_uint8, ln_sl_weights_Code, fa_weights_Code_Bits, fa_weights_Code_Code]
  refine bs_sl_uint8 (cells := #[.int .u8 2, .int .u8 1, .int .u8 1]) (by decide) (by decide) (by kernel_rfl) fun w5 o5 x5 s5 => ?_
  have hb5 : Bs w5 (.slice (some ⟨w4.heap.size, 0, none⟩) 3 3) [2, 1, 1] := ⟨_, _, _, rfl, rfl, Nat.le_refl _, fun _ => ⟨_, _, rfl, fun i hi => by rw [o5.cell, Nat.zero_add]; rfl⟩⟩
  refine (wwrite_c hb5 hd2 (by decide) (by decide)).mono ?_
  rintro r w6 ⟨v6, rfl, o6, x6⟩
  have hwr : wrB (nats [2, 1, 1]) = [129, 33] := by decide +kernel
  rw [hwr] at o6
  have hb6 : Bs w6 v6 [129, 33] := o6.sl
  have o6 : OSl w6 w5.heap.size 1 v6 2 _ := o6
  obtain ⟨a6, c6, rfl⟩ := o6.len
  simp (disch := omega) only [Stp, Same, stepR_value, stepR_skip, r_add, r_sub, r_mul, r_quo, r_rem, r_and, r_or, r_xor, r_andNot, r_shl, r_shr, r_eql, r_neq, r_lss, r_leq, r_gtr, r_geq, r_neg, r_cpl, r_not, r_pick, r_min, r_max, r_nil, x20, x21, x30, x31, x32, x40, x41, x42, x43, ldC_some, Result.ok.injEq, Next.value.injEq, true_and, and_true, w_i64, w_u64, w_i32, w_u32, w_u16, w_u8, Int.toNat_natCast, isB_tt, isB_tf, isB_ft, isB_ff, Gd_true, Gd_false, Gs_true, Gs_false, Cnd_true, Cnd_false, if_true, if_false, Bool.false_eq_true, Nat.zero_add, Option.isNone_some, Option.isNone_none, Bool.not_true, Bool.not_false, List.getElem?_cons_succ, List.getElem?_cons_zero, ln_sl_uint8, cv_int_uint, cv_int_uint8, ln_string, ia_sl_uint8, ld_uint8, cv_uint8_int, bd_weights_Code_0_1, ia_sl_weights_Code, bd_lightermanref08_C_, ix_string, bd_lightermanref08_C_0_1, ia_sl_lightermanref08_C, sl_sl_uint8_lo, sl_sl_uint8_hi, ln_sl_uint32, ia_sl_uint32, ld_uint32, cv_uint32_uint64, sl_sl_uint32_hi, ln_sl_int, ia_sl_int, ld_int, cv_uint_uint32, seql_sl_uint8, cv_uint32_uint8, cv_uint64_uint8, ln_sl_weights_Code, fa_weights_Code_Bits, fa_weights_Code_Code]
  refine (readDirect_c (h := 129) (rest := [33]) hb6 rfl (by decide) (by decide) (by decide)).mono ?_
  rintro r w7 ⟨hdo, x7⟩
  unfold DirectOf at hdo
  rw [if_neg (by decide)] at hdo
  have hw7 : wholeN (halvesN (nats [33]) (129 - 127)) = some 1 := by decide +kernel
  have hh7 : byts (halvesN (nats [33]) (129 - 127)) ++ [UInt8.ofNat 1] = [2, 1, 1] := by decide +kernel
  rw [hw7] at hdo
  simp only [hh7] at hdo
  obtain ⟨v7, rfl, o7⟩ := hdo
  have o7 : OSl w7 w6.heap.size 1 v7 3 (([2, 1, 1] : List UInt8).map b2v) := o7
  have hb7 : Bs w7 v7 [2, 1, 1] := o7.sl
  obtain ⟨a7, c7, rfl⟩ := o7.len
  simp (disch := omega) only [Stp, Same, stepR_value, stepR_skip, r_add, r_sub, r_mul, r_quo, r_rem, r_and, r_or, r_xor, r_andNot, r_shl, r_shr, r_eql, r_neq, r_lss, r_leq, r_gtr, r_geq, r_neg, r_cpl, r_not, r_pick, r_min, r_max, r_nil, x20, x21, x30, x31, x32, x40, x41, x42, x43, ldC_some, Result.ok.injEq, Next.value.injEq, true_and, and_true, w_i64, w_u64, w_i32, w_u32, w_u16, w_u8, Int.toNat_natCast, isB_tt, isB_tf, isB_ft, isB_ff, Gd_true, Gd_false, Gs_true, Gs_false, Cnd_true, Cnd_false, if_true, if_false, Bool.false_eq_true, Nat.zero_add, Option.isNone_some, Option.isNone_none, Bool.not_true, Bool.not_false, List.getElem?_cons_succ, List.getElem?_cons_zero, ln_sl_uint8, cv_int_uint, cv_int_uint8, ln_string, ia_sl_uint8, ld_uint8, cv_uint8_int, bd_weights_Code_0_1, ia_sl_weights_Code, bd_lightermanref08_C_, ix_string, bd_lightermanref08_C_0_1, ia_sl_lightermanref08_C, sl_sl_uint8_lo, sl_sl_uint8_hi, ln_sl_uint32, ia_sl_uint32, ld_uint32, cv_uint32_uint64, sl_sl_uint32_hi, ln_sl_int, ia_sl_int, ld_int, cv_uint_uint32, seql_sl_uint8, cv_uint32_uint8, cv_uint64_uint8, ln_sl_weights_Code, fa_weights_Code_Bits, fa_weights_Code_Code]
  refine bs_sl_uint32 (cells := #[.int .u32 9, .int .u32 0, .int .u32 1]) (by decide) (by decide) (by kernel_rfl) fun w8 o8 x8 s8 => ?_
  have hs8 : Sl w8 (.slice (some ⟨w7.heap.size, 0, none⟩) 3 3) (u32s [9, 0, 1]) := ⟨_, _, _, rfl, rfl, Nat.le_refl _, fun _ => ⟨_, _, rfl, fun i hi => by rw [o8.cell, Nat.zero_add]; rfl⟩⟩
  refine (ofw_c hs8 (by decide) (by decide)).mono ?_
  rintro r w9 ⟨hof, x9⟩
  rcases hof with ⟨h, _⟩ | ⟨_, last, v9, wl, hla, _, _, _, _, _, rfl, o9⟩
  · exact absurd h (by decide)
  have hlast2 : last = 2 := hla.one (.inr ⟨by decide, by decide, fun j h1 h2 => by simp at h2; omega⟩)
  subst hlast2
  have o9 : OSl w9 w8.heap.size 1 v9 3 _ := o9
  obtain ⟨a9, c9, rfl⟩ := o9.len
  have x79 := x8.seq x9
  have x49 := ((x5.seq x6).seq x7).seq x79
  have x29 := (x3.seq x4).seq x49
  have o2e := o2.ext x29 (fun _ _ h => h)
  have o4e := o4.ext x49 (fun h => h)
  have hb7e := hb7.ext x79 (inB_nob _)
  obtain ⟨b2, off2, rfl, hcell2⟩ := slA o2e.sl (by decide)
  have g2 := hcell2 1 (by decide)
  have k0 := o4e.cell (off := 0)
  have k1 := o4e.cell (off := 1)
  have k5 := o4e.cell (off := 5)
  simp only [List.getElem?_cons_zero, List.getElem?_cons_succ] at g2 k0 k1 k5
  have hcv := cv_sl_uint8_string hb7e
  have hse : ((⟨([2, 1, 1] : List UInt8).toArray⟩ : ByteArray).toList == (⟨#[2, 1, 1]⟩ : ByteArray).toList) = true := by
    have : (⟨([2, 1, 1] : List UInt8).toArray⟩ : ByteArray) = ⟨#[2, 1, 1]⟩ := rfl
    rw [this]; exact str_same _
  have n1 : ((0 : Int) == 0) = true := rfl
  have n2 : (((2 : Nat) : Int) == 2) = true := rfl
  have n3 : (((3 : Nat) : Int) == 3) = true := rfl
  have n4 : ((1 : Int) == 1) = true := rfl
  have n5 : (((1 + (129 - 127 + 1) / 2 : Nat) : Int) == ((2 : Nat) : Int)) = true := rfl
  have n6 : ((([2, 1, 1] : List UInt8).length : Int) == 3) = true := rfl
  have hL3 : ([2, 1, 1] : List UInt8).length = 3 := rfl
  have t0 : (0 : Int).toNat = 0 := rfl
  have t1 : (1 : Int).toNat = 1 := rfl
  have t2 : (2 : Int).toNat = 2 := rfl
  simp (disch := omega) only [Stp, Same, stepR_value, stepR_skip, r_add, r_sub, r_mul, r_quo, r_rem, r_and, r_or, r_xor, r_andNot, r_shl, r_shr, r_eql, r_neq, r_lss, r_leq, r_gtr, r_geq, r_neg, r_cpl, r_not, r_pick, r_min, r_max, r_nil, x20, x21, x30, x31, x32, x40, x41, x42, x43, ldC_some, Result.ok.injEq, Next.value.injEq, true_and, and_true, w_i64, w_u64, w_i32, w_u32, w_u16, w_u8, Int.toNat_natCast, isB_tt, isB_tf, isB_ft, isB_ff, Gd_true, Gd_false, Gs_true, Gs_false, Cnd_true, Cnd_false, if_true, if_false, Bool.false_eq_true, Nat.zero_add, Option.isNone_some, Option.isNone_none, Bool.not_true, Bool.not_false, List.getElem?_cons_succ, List.getElem?_cons_zero, ln_sl_uint8, cv_int_uint, cv_int_uint8, ln_string, ia_sl_uint8, ld_uint8, cv_uint8_int, bd_weights_Code_0_1, ia_sl_weights_Code, bd_lightermanref08_C_, ix_string, bd_lightermanref08_C_0_1, ia_sl_lightermanref08_C, sl_sl_uint8_lo, sl_sl_uint8_hi, ln_sl_uint32, ia_sl_uint32, ld_uint32, cv_uint32_uint64, sl_sl_uint32_hi, ln_sl_int, ia_sl_int, ld_int, cv_uint_uint32, seql_sl_uint8, cv_uint32_uint8, cv_uint64_uint8, ln_sl_weights_Code, fa_weights_Code_Bits, fa_weights_Code_Code]
  unfold law08_awake_p3 law08_awake_p2
  simp (maxSteps := 4000000) (disch := omega) only [Stp, Same, stepR_value, stepR_skip, r_add, r_sub, r_mul, r_quo, r_rem, r_and, r_or, r_xor, r_andNot, r_shl, r_shr, r_eql, r_neq, r_lss, r_leq, r_gtr, r_geq, r_neg, r_cpl, r_not, r_pick, r_min, r_max, r_nil, x20, x21, x30, x31, x32, x40, x41, x42, x43, ldC_some, Result.ok.injEq, Next.value.injEq, true_and, and_true, w_i64, w_u64, w_i32, w_u32, w_u16, w_u8, Int.toNat_natCast, isB_tt, isB_tf, isB_ft, isB_ff, Gd_true, Gd_false, Gs_true, Gs_false, Cnd_true, Cnd_false, if_true, if_false, Bool.false_eq_true, Nat.zero_add, Option.isNone_some, Option.isNone_none, Bool.not_true, Bool.not_false, List.getElem?_cons_succ, List.getElem?_cons_zero, ln_sl_uint8, cv_int_uint, cv_int_uint8, ln_string, ia_sl_uint8, ld_uint8, cv_uint8_int, bd_weights_Code_0_1, ia_sl_weights_Code, bd_lightermanref08_C_, ix_string, bd_lightermanref08_C_0_1, ia_sl_lightermanref08_C, sl_sl_uint8_lo, sl_sl_uint8_hi, ln_sl_uint32, ia_sl_uint32, ld_uint32, cv_uint32_uint64, sl_sl_uint32_hi, ln_sl_int, ia_sl_int, ld_int, cv_uint_uint32, seql_sl_uint8, cv_uint32_uint8, cv_uint64_uint8, ln_sl_weights_Code, fa_weights_Code_Bits, fa_weights_Code_Code, hL3, g2, k0, k1, k5, hcv, r_seql, hse, n1, n2, n3, n4, n5, n6, t0, t1, t2]
  unfold law08_awake_p1
  exact ⟨rfl, (x1.seq x2).seq x29⟩
end Go.Proofs.Ytoepfjgekpdddaa
/- Contract: the law WeightsWhole. -/
namespace Go.Proofs.Ytoepfjgekpdddaa
open Go Go.En Go.Pu
set_option maxRecDepth 4000
set_option linter.unusedSimpArgs false
set_option linter.unusedVariables false

/-- codes at a slice -/
def CodesAt (w : World) (v : Value) (L : List (Nat × Nat)) : Prop :=
  ∃ (a : Option Addr) (c : Nat), v = .slice a L.length c ∧ (0 < L.length → ∃ b rest, a = some ⟨b, 0, none⟩ ∧ Own w b (cc L ++ rest))

theorem cc_cells {w : World} {b : Nat} {L : List (Nat × Nat)} {rest : List Value} (h : Own w b (cc L ++ rest)) {i : Nat} (hi : i < L.length) : w.cell? ⟨b, i * 2, none⟩ = some (.int .i64 (L[i].1 : Nat)) ∧ w.cell? ⟨b, i * 2 + 1, none⟩ = some (.int .i64 (L[i].2 : Nat)) := by
  have hg := cc_get hi
  have hl := cc_length L
  have g0 := h.cell (off := i * 2)
  have g1 := h.cell (off := i * 2 + 1)
  rw [List.getElem?_append_left (by omega)] at g0 g1
  rw [g0, g1]; exact hg

theorem CodesAt.of {w : World} {b c : Nat} {L : List (Nat × Nat)} {rest : List Value} (h : Own w b (cc L ++ rest)) : CodesAt w (.slice (some ⟨b, 0, none⟩) L.length c) L :=
  ⟨_, _, rfl, fun _ => ⟨b, rest, rfl, h⟩⟩

theorem CodesAt.nil (w : World) : CodesAt w (.slice none 0 0) [] := ⟨none, 0, rfl, fun h => absurd h (by simp)⟩

theorem CodesAt.ext {w w' : World} {v : Value} {L : List (Nat × Nat)} (h : CodesAt w v L) (x : Ext w w' nob) : CodesAt w' v L := by
  obtain ⟨a, c, rfl, hc⟩ := h
  refine ⟨a, c, rfl, fun h0 => ?_⟩
  obtain ⟨b, rest, e, o⟩ := hc h0
  exact ⟨b, rest, e, o.ext x (fun h => h)⟩

/-- both sides' codes -/
def codesOf (l : List UInt8) : List (Nat × Nat) := if depthN (nats l) = 0 then [] else codesN (nats l) (depthN (nats l))

theorem codes_any {v : Value} {l : List UInt8} {w : World} (h : Bs w v l) (hl : l.length ≤ 100000) :
    Does pg F_weights_Codes #[v] w (fun r w' => ∃ c, r = .tuple #[c, .int .i64 (if depthN (nats l) = 0 then 1 else 0)] ∧ CodesAt w' c (codesOf l) ∧ Ext w w' nob) := by
  unfold codesOf
  by_cases h0 : depthN (nats l) = 0
  · rw [if_pos h0, if_pos h0]
    refine (codes_bad h hl h0).mono ?_
    rintro r w' ⟨rfl, rfl⟩
    exact ⟨_, rfl, CodesAt.nil _, Ext.refl _ _⟩
  · rw [if_neg h0, if_neg h0]
    refine (codes_c h rfl h0).mono ?_
    rintro r w' ⟨b, rfl, _, o, x⟩
    have hL := codesN_length (nats l) (depthN (nats l))
    rw [nats_length] at hL
    refine ⟨_, rfl, ?_, x⟩
    have := CodesAt.of (c := l.length) (rest := []) (by rw [List.append_nil]; exact o)
    rw [hL] at this
    exact this

theorem refCodes_any {x : ByteArray} {w : World} (hl : x.size ≤ 100000) :
    Does pg F_ref08_Codes #[.string x] w (fun r w' => ∃ c, r = .tuple #[c, .int .i64 (if depthN (nats (lst x)) = 0 then 1 else 0)] ∧ CodesAt w' c (codesOf (lst x)) ∧ Ext w w' nob) := by
  unfold codesOf
  by_cases h0 : depthN (nats (lst x)) = 0
  · rw [if_pos h0, if_pos h0]
    refine (refCodes_bad hl h0).mono ?_
    rintro r w' ⟨rfl, rfl⟩
    exact ⟨_, rfl, CodesAt.nil _, Ext.refl _ _⟩
  · rw [if_neg h0, if_neg h0]
    refine (refCodes_c rfl h0).mono ?_
    rintro r w' ⟨b, cap, rest, rfl, o, xx⟩
    have hL := codesN_length (nats (lst x)) (depthN (nats (lst x)))
    rw [lst_size] at hL
    refine ⟨_, rfl, ?_, xx⟩
    have := CodesAt.of (c := cap) o
    rw [hL] at this
    exact this

theorem codesOf_len (l : List UInt8) : (codesOf l).length ≤ l.length := by
  unfold codesOf
  split
  · simp
  · rw [codesN_length, nats_length]; omega

/-- what Whole tells, at both sides -/
theorem whole_any {v : Value} {l : List UInt8} {w : World} (h : Bs w v l) (hl : l.length ≤ 100000) :
    Does pg F_weights_Whole #[v] w (fun r w' => ∃ a la e, r = .tuple #[a, .int .i64 e] ∧ Bs w' a la ∧ Ext w w' nob ∧ ((wholeN (nats l) = none ∧ la = [] ∧ e = 11) ∨ ∃ k, wholeN (nats l) = some k ∧ la = l ++ [UInt8.ofNat k] ∧ e = 0)) := by
  refine (whole_c h hl).mono ?_
  rintro r w' ⟨hr, x⟩
  unfold WholeOf at hr
  cases hw : wholeN (nats l) with
  | none =>
    rw [hw] at hr
    obtain rfl := hr
    exact ⟨_, [], 11, rfl, Sl.nil _, x, .inl ⟨rfl, rfl, rfl⟩⟩
  | some k =>
    rw [hw] at hr
    obtain ⟨v', rfl, o⟩ := hr
    exact ⟨_, _, 0, rfl, o.sl, x, .inr ⟨k, rfl, rfl, rfl⟩⟩

theorem weightsWhole_c {v : Value} {l : List UInt8} {w : World} (h : Bs w v l) (hl : l.length ≤ 9223372036854775807) :
    Does pg F_law08_WeightsWhole #[v] w (fun r w' => r = .bool true ∧ Ext w w' nob) := by
  refine law08_WeightsWhole_does ?_
  unfold law08_WeightsWhole law08_WeightsWhole_p9 law08_WeightsWhole_p8
  obtain ⟨a, n, c, hv, hn, hc, _⟩ := id h
  rw [List.length_map] at hn
  subst hn
  have hv' := hv
  subst hv'
  refine (awake8_c w).mono ?_
  rintro r w1 ⟨rfl, x1⟩
  by_cases h1 : 300 < l.length
  · have d1 : decide ((300 : Int) < (l.length : Int)) = true := by simp; omega
    simp (disch := omega) only [Stp, Same, stepR_value, stepR_skip, r_add, r_sub, r_mul, r_quo, r_rem, r_and, r_or, r_xor, r_andNot, r_shl, r_shr, r_eql, r_neq, r_lss, r_leq, r_gtr, r_geq, r_neg, r_cpl, r_not, r_pick, r_min, r_max, r_nil, x20, x21, x30, x31, x32, x40, x41, x42, x43, ldC_some, Result.ok.injEq, Next.value.injEq, true_and, and_true, w_i64, w_u64, w_i32, w_u32, w_u16, w_u8, Int.toNat_natCast, isB_tt, isB_tf, isB_ft, isB_ff, Gd_true, Gd_false, Gs_true, Gs_false, Cnd_true, Cnd_false, if_true, if_false, Bool.false_eq_true, Nat.zero_add, Option.isNone_some, Option.isNone_none, Bool.not_true, Bool.not_false, List.getElem?_cons_succ, List.getElem?_cons_zero, ln_sl_uint8, cv_int_uint, cv_int_uint8, ln_string, ia_sl_uint8, ld_uint8, cv_uint8_int, bd_weights_Code_0_1, ia_sl_weights_Code, bd_lightermanref08_C_, ix_string, bd_lightermanref08_C_0_1, ia_sl_lightermanref08_C, sl_sl_uint8_lo, sl_sl_uint8_hi, ln_sl_uint32, ia_sl_uint32, ld_uint32, cv_uint32_uint64, sl_sl_uint32_hi, ln_sl_int, ia_sl_int, ld_int, cv_uint_uint32, seql_sl_uint8, cv_uint32_uint8, cv_uint64_uint8, ln_sl_weights_Code, fa_weights_Code_Bits, fa_weights_Code_Code, ln_sl_lightermanref08_C, fa_lightermanref08_C_Bits, fa_lightermanref08_C_Code, d1]
    exact x1
  have d1 : decide ((300 : Int) < (l.length : Int)) = false := by simp; omega
  simp (disch := omega) only [Stp, Same, stepR_value, stepR_skip, r_add, r_sub, r_mul, r_quo, r_rem, r_and, r_or, r_xor, r_andNot, r_shl, r_shr, r_eql, r_neq, r_lss, r_leq, r_gtr, r_geq, r_neg, r_cpl, r_not, r_pick, r_min, r_max, r_nil, x20, x21, x30, x31, x32, x40, x41, x42, x43, ldC_some, Result.ok.injEq, Next.value.injEq, true_and, and_true, w_i64, w_u64, w_i32, w_u32, w_u16, w_u8, Int.toNat_natCast, isB_tt, isB_tf, isB_ft, isB_ff, Gd_true, Gd_false, Gs_true, Gs_false, Cnd_true, Cnd_false, if_true, if_false, Bool.false_eq_true, Nat.zero_add, Option.isNone_some, Option.isNone_none, Bool.not_true, Bool.not_false, List.getElem?_cons_succ, List.getElem?_cons_zero, ln_sl_uint8, cv_int_uint, cv_int_uint8, ln_string, ia_sl_uint8, ld_uint8, cv_uint8_int, bd_weights_Code_0_1, ia_sl_weights_Code, bd_lightermanref08_C_, ix_string, bd_lightermanref08_C_0_1, ia_sl_lightermanref08_C, sl_sl_uint8_lo, sl_sl_uint8_hi, ln_sl_uint32, ia_sl_uint32, ld_uint32, cv_uint32_uint64, sl_sl_uint32_hi, ln_sl_int, ia_sl_int, ld_int, cv_uint_uint32, seql_sl_uint8, cv_uint32_uint8, cv_uint64_uint8, ln_sl_weights_Code, fa_weights_Code_Bits, fa_weights_Code_Code, ln_sl_lightermanref08_C, fa_lightermanref08_C_Bits, fa_lightermanref08_C_Code, d1]
  have hb1 := h.ext x1 (inB_nob _)
  refine (whole_any hb1 (by omega)).mono ?_
  rintro r w2 ⟨va, la, e, rfl, hva, x2, hwh⟩
  have hb2 := hb1.ext x2 (inB_nob _)
  have hcv := cv_sl_uint8_string hb2
  simp (disch := omega) only [Stp, Same, stepR_value, stepR_skip, r_add, r_sub, r_mul, r_quo, r_rem, r_and, r_or, r_xor, r_andNot, r_shl, r_shr, r_eql, r_neq, r_lss, r_leq, r_gtr, r_geq, r_neg, r_cpl, r_not, r_pick, r_min, r_max, r_nil, x20, x21, x30, x31, x32, x40, x41, x42, x43, ldC_some, Result.ok.injEq, Next.value.injEq, true_and, and_true, w_i64, w_u64, w_i32, w_u32, w_u16, w_u8, Int.toNat_natCast, isB_tt, isB_tf, isB_ft, isB_ff, Gd_true, Gd_false, Gs_true, Gs_false, Cnd_true, Cnd_false, if_true, if_false, Bool.false_eq_true, Nat.zero_add, Option.isNone_some, Option.isNone_none, Bool.not_true, Bool.not_false, List.getElem?_cons_succ, List.getElem?_cons_zero, ln_sl_uint8, cv_int_uint, cv_int_uint8, ln_string, ia_sl_uint8, ld_uint8, cv_uint8_int, bd_weights_Code_0_1, ia_sl_weights_Code, bd_lightermanref08_C_, ix_string, bd_lightermanref08_C_0_1, ia_sl_lightermanref08_C, sl_sl_uint8_lo, sl_sl_uint8_hi, ln_sl_uint32, ia_sl_uint32, ld_uint32, cv_uint32_uint64, sl_sl_uint32_hi, ln_sl_int, ia_sl_int, ld_int, cv_uint_uint32, seql_sl_uint8, cv_uint32_uint8, cv_uint64_uint8, ln_sl_weights_Code, fa_weights_Code_Bits, fa_weights_Code_Code, ln_sl_lightermanref08_C, fa_lightermanref08_C_Bits, fa_lightermanref08_C_Code, hcv]
  have hl1 : lst (⟨l.toArray⟩ : ByteArray) = l := lst_mk l
  have hz1 : (⟨l.toArray⟩ : ByteArray).size = l.length := by rw [← lst_length, hl1]
  refine (refWhole_c (x := ⟨l.toArray⟩) (by omega)).mono ?_
  rintro r w3 ⟨hrw, x3⟩
  rw [hl1] at hrw
  obtain ⟨y, hy, rfl⟩ : ∃ y : ByteArray, y = ⟨la.toArray⟩ ∧ r = .tuple #[.string y, .int .i64 e] := by
    unfold RefWholeOf at hrw
    rcases hwh with ⟨e1, rfl, rfl⟩ | ⟨k, e1, rfl, rfl⟩
    · rw [e1] at hrw; exact ⟨_, rfl, hrw⟩
    · rw [e1] at hrw
      obtain ⟨y, hy, rfl⟩ := hrw
      exact ⟨_, lst_inj (by rw [hy, hl1]; rfl), rfl⟩
  have hb3 := hb2.ext x3 (inB_nob _)
  simp (disch := omega) only [Stp, Same, stepR_value, stepR_skip, r_add, r_sub, r_mul, r_quo, r_rem, r_and, r_or, r_xor, r_andNot, r_shl, r_shr, r_eql, r_neq, r_lss, r_leq, r_gtr, r_geq, r_neg, r_cpl, r_not, r_pick, r_min, r_max, r_nil, x20, x21, x30, x31, x32, x40, x41, x42, x43, ldC_some, Result.ok.injEq, Next.value.injEq, true_and, and_true, w_i64, w_u64, w_i32, w_u32, w_u16, w_u8, Int.toNat_natCast, isB_tt, isB_tf, isB_ft, isB_ff, Gd_true, Gd_false, Gs_true, Gs_false, Cnd_true, Cnd_false, if_true, if_false, Bool.false_eq_true, Nat.zero_add, Option.isNone_some, Option.isNone_none, Bool.not_true, Bool.not_false, List.getElem?_cons_succ, List.getElem?_cons_zero, ln_sl_uint8, cv_int_uint, cv_int_uint8, ln_string, ia_sl_uint8, ld_uint8, cv_uint8_int, bd_weights_Code_0_1, ia_sl_weights_Code, bd_lightermanref08_C_, ix_string, bd_lightermanref08_C_0_1, ia_sl_lightermanref08_C, sl_sl_uint8_lo, sl_sl_uint8_hi, ln_sl_uint32, ia_sl_uint32, ld_uint32, cv_uint32_uint64, sl_sl_uint32_hi, ln_sl_int, ia_sl_int, ld_int, cv_uint_uint32, seql_sl_uint8, cv_uint32_uint8, cv_uint64_uint8, ln_sl_weights_Code, fa_weights_Code_Bits, fa_weights_Code_Code, ln_sl_lightermanref08_C, fa_lightermanref08_C_Bits, fa_lightermanref08_C_Code]
  refine (codes_any hb3 (by omega)).mono ?_
  rintro r w4 ⟨cs, rfl, hcs, x4⟩
  have hcv4 := cv_sl_uint8_string (hb3.ext x4 (inB_nob _))
  simp (disch := omega) only [Stp, Same, stepR_value, stepR_skip, r_add, r_sub, r_mul, r_quo, r_rem, r_and, r_or, r_xor, r_andNot, r_shl, r_shr, r_eql, r_neq, r_lss, r_leq, r_gtr, r_geq, r_neg, r_cpl, r_not, r_pick, r_min, r_max, r_nil, x20, x21, x30, x31, x32, x40, x41, x42, x43, ldC_some, Result.ok.injEq, Next.value.injEq, true_and, and_true, w_i64, w_u64, w_i32, w_u32, w_u16, w_u8, Int.toNat_natCast, isB_tt, isB_tf, isB_ft, isB_ff, Gd_true, Gd_false, Gs_true, Gs_false, Cnd_true, Cnd_false, if_true, if_false, Bool.false_eq_true, Nat.zero_add, Option.isNone_some, Option.isNone_none, Bool.not_true, Bool.not_false, List.getElem?_cons_succ, List.getElem?_cons_zero, ln_sl_uint8, cv_int_uint, cv_int_uint8, ln_string, ia_sl_uint8, ld_uint8, cv_uint8_int, bd_weights_Code_0_1, ia_sl_weights_Code, bd_lightermanref08_C_, ix_string, bd_lightermanref08_C_0_1, ia_sl_lightermanref08_C, sl_sl_uint8_lo, sl_sl_uint8_hi, ln_sl_uint32, ia_sl_uint32, ld_uint32, cv_uint32_uint64, sl_sl_uint32_hi, ln_sl_int, ia_sl_int, ld_int, cv_uint_uint32, seql_sl_uint8, cv_uint32_uint8, cv_uint64_uint8, ln_sl_weights_Code, fa_weights_Code_Bits, fa_weights_Code_Code, ln_sl_lightermanref08_C, fa_lightermanref08_C_Bits, fa_lightermanref08_C_Code, hcv4]
  refine (refCodes_any (x := ⟨l.toArray⟩) (by omega)).mono ?_
  rintro r w5 ⟨ds, rfl, hds, x5⟩
  rw [hl1] at hds
  rw [hl1]
  have x25 := (x3.seq x4).seq x5
  have x05 := (x1.seq x2).seq x25
  have hva5 := hva.ext x25 (inB_nob _)
  have hcv5 := cv_sl_uint8_string hva5
  have hcs5 := hcs.ext x5
  obtain ⟨ac, cc1, rfl, hcc⟩ := hcs5
  obtain ⟨ad, cd1, rfl, hcd⟩ := hds
  have hse : ((⟨la.toArray⟩ : ByteArray).toList == y.toList) = true := by rw [hy]; exact str_same _
  have n1 : (e != e) = false := by simp
  have n2 : (((codesOf l).length : Int) != ((codesOf l).length : Int)) = false := by simp
  have hfe : ∀ f : Int, (f != f) = false := fun f => by simp
  have hcl := codesOf_len l
  generalize codesOf l = L at *
  generalize (if depthN (nats l) = 0 then (1 : Int) else 0) = f at *
  have n3 := hfe f
  simp (disch := omega) only [Stp, Same, stepR_value, stepR_skip, r_add, r_sub, r_mul, r_quo, r_rem, r_and, r_or, r_xor, r_andNot, r_shl, r_shr, r_eql, r_neq, r_lss, r_leq, r_gtr, r_geq, r_neg, r_cpl, r_not, r_pick, r_min, r_max, r_nil, x20, x21, x30, x31, x32, x40, x41, x42, x43, ldC_some, Result.ok.injEq, Next.value.injEq, true_and, and_true, w_i64, w_u64, w_i32, w_u32, w_u16, w_u8, Int.toNat_natCast, isB_tt, isB_tf, isB_ft, isB_ff, Gd_true, Gd_false, Gs_true, Gs_false, Cnd_true, Cnd_false, if_true, if_false, Bool.false_eq_true, Nat.zero_add, Option.isNone_some, Option.isNone_none, Bool.not_true, Bool.not_false, List.getElem?_cons_succ, List.getElem?_cons_zero, ln_sl_uint8, cv_int_uint, cv_int_uint8, ln_string, ia_sl_uint8, ld_uint8, cv_uint8_int, bd_weights_Code_0_1, ia_sl_weights_Code, bd_lightermanref08_C_, ix_string, bd_lightermanref08_C_0_1, ia_sl_lightermanref08_C, sl_sl_uint8_lo, sl_sl_uint8_hi, ln_sl_uint32, ia_sl_uint32, ld_uint32, cv_uint32_uint64, sl_sl_uint32_hi, ln_sl_int, ia_sl_int, ld_int, cv_uint_uint32, seql_sl_uint8, cv_uint32_uint8, cv_uint64_uint8, ln_sl_weights_Code, fa_weights_Code_Bits, fa_weights_Code_Code, ln_sl_lightermanref08_C, fa_lightermanref08_C_Bits, fa_lightermanref08_C_Code, hcv5, r_sneq, hse, n1, n2, n3]
  unfold law08_WeightsWhole_p7 law08_WeightsWhole_p6 law08_WeightsWhole_p5 law08_WeightsWhole_p4 law08_WeightsWhole_p3
  refine LoopD.rule (fun m (t : Value) w' => ∃ i : Nat, m = L.length - i ∧ t = .int .i64 i ∧ i ≤ L.length ∧ Ext w5 w' nob) L.length ⟨0, rfl, rfl, by omega, Ext.refl _ _⟩ ?_
  rintro m t w6 ⟨i, rfl, rfl, hi, x6⟩
  unfold law08_WeightsWhole_p2
  by_cases hlt : i < L.length
  · have d2 : decide ((i : Int) < (L.length : Int)) = true := by simp; omega
    have x6d : Ext w5 (dr w6) nob := x6.seq (Ext.dr _ _)
    obtain ⟨b1, rest1, rfl, o1⟩ := hcc (by omega)
    obtain ⟨b2, rest2, rfl, o2⟩ := hcd (by omega)
    obtain ⟨g0, g1⟩ := cc_cells (o1.ext x6d (fun h => h)) hlt
    obtain ⟨k0, k1⟩ := cc_cells (o2.ext x6d (fun h => h)) hlt
    have n4 := hfe (L[i].1 : Nat)
    have n5 := hfe (L[i].2 : Nat)
    generalize L[i].1 = p at *
    generalize L[i].2 = q at *
    simp (disch := omega) only [Stp, Same, stepR_value, stepR_skip, r_add, r_sub, r_mul, r_quo, r_rem, r_and, r_or, r_xor, r_andNot, r_shl, r_shr, r_eql, r_neq, r_lss, r_leq, r_gtr, r_geq, r_neg, r_cpl, r_not, r_pick, r_min, r_max, r_nil, x20, x21, x30, x31, x32, x40, x41, x42, x43, ldC_some, Result.ok.injEq, Next.value.injEq, true_and, and_true, w_i64, w_u64, w_i32, w_u32, w_u16, w_u8, Int.toNat_natCast, isB_tt, isB_tf, isB_ft, isB_ff, Gd_true, Gd_false, Gs_true, Gs_false, Cnd_true, Cnd_false, if_true, if_false, Bool.false_eq_true, Nat.zero_add, Option.isNone_some, Option.isNone_none, Bool.not_true, Bool.not_false, List.getElem?_cons_succ, List.getElem?_cons_zero, ln_sl_uint8, cv_int_uint, cv_int_uint8, ln_string, ia_sl_uint8, ld_uint8, cv_uint8_int, bd_weights_Code_0_1, ia_sl_weights_Code, bd_lightermanref08_C_, ix_string, bd_lightermanref08_C_0_1, ia_sl_lightermanref08_C, sl_sl_uint8_lo, sl_sl_uint8_hi, ln_sl_uint32, ia_sl_uint32, ld_uint32, cv_uint32_uint64, sl_sl_uint32_hi, ln_sl_int, ia_sl_int, ld_int, cv_uint_uint32, seql_sl_uint8, cv_uint32_uint8, cv_uint64_uint8, ln_sl_weights_Code, fa_weights_Code_Bits, fa_weights_Code_Code, ln_sl_lightermanref08_C, fa_lightermanref08_C_Bits, fa_lightermanref08_C_Code, d2, g0, g1, k0, k1, n4, n5]
    exact ⟨L.length - (i + 1), by omega, i + 1, rfl, rfl, by omega, x6d⟩
  · have d2 : decide ((i : Int) < (L.length : Int)) = false := by simp; omega
    unfold law08_WeightsWhole_p1
    rcases hwh with ⟨e1, rfl, rfl⟩ | ⟨k, e1, rfl, rfl⟩
    · have n6 : ((11 : Int) != 0) = true := rfl
      simp (disch := omega) only [Stp, Same, stepR_value, stepR_skip, r_add, r_sub, r_mul, r_quo, r_rem, r_and, r_or, r_xor, r_andNot, r_shl, r_shr, r_eql, r_neq, r_lss, r_leq, r_gtr, r_geq, r_neg, r_cpl, r_not, r_pick, r_min, r_max, r_nil, x20, x21, x30, x31, x32, x40, x41, x42, x43, ldC_some, Result.ok.injEq, Next.value.injEq, true_and, and_true, w_i64, w_u64, w_i32, w_u32, w_u16, w_u8, Int.toNat_natCast, isB_tt, isB_tf, isB_ft, isB_ff, Gd_true, Gd_false, Gs_true, Gs_false, Cnd_true, Cnd_false, if_true, if_false, Bool.false_eq_true, Nat.zero_add, Option.isNone_some, Option.isNone_none, Bool.not_true, Bool.not_false, List.getElem?_cons_succ, List.getElem?_cons_zero, ln_sl_uint8, cv_int_uint, cv_int_uint8, ln_string, ia_sl_uint8, ld_uint8, cv_uint8_int, bd_weights_Code_0_1, ia_sl_weights_Code, bd_lightermanref08_C_, ix_string, bd_lightermanref08_C_0_1, ia_sl_lightermanref08_C, sl_sl_uint8_lo, sl_sl_uint8_hi, ln_sl_uint32, ia_sl_uint32, ld_uint32, cv_uint32_uint64, sl_sl_uint32_hi, ln_sl_int, ia_sl_int, ld_int, cv_uint_uint32, seql_sl_uint8, cv_uint32_uint8, cv_uint64_uint8, ln_sl_weights_Code, fa_weights_Code_Bits, fa_weights_Code_Code, ln_sl_lightermanref08_C, fa_lightermanref08_C_Bits, fa_lightermanref08_C_Code, d2, n6]
      exact x05.seq x6
    · have n6 : ((0 : Int) != 0) = false := rfl
      have n7 : ((0 : Int) == 0) = true := rfl
      simp (disch := omega) only [Stp, Same, stepR_value, stepR_skip, r_add, r_sub, r_mul, r_quo, r_rem, r_and, r_or, r_xor, r_andNot, r_shl, r_shr, r_eql, r_neq, r_lss, r_leq, r_gtr, r_geq, r_neg, r_cpl, r_not, r_pick, r_min, r_max, r_nil, x20, x21, x30, x31, x32, x40, x41, x42, x43, ldC_some, Result.ok.injEq, Next.value.injEq, true_and, and_true, w_i64, w_u64, w_i32, w_u32, w_u16, w_u8, Int.toNat_natCast, isB_tt, isB_tf, isB_ft, isB_ff, Gd_true, Gd_false, Gs_true, Gs_false, Cnd_true, Cnd_false, if_true, if_false, Bool.false_eq_true, Nat.zero_add, Option.isNone_some, Option.isNone_none, Bool.not_true, Bool.not_false, List.getElem?_cons_succ, List.getElem?_cons_zero, ln_sl_uint8, cv_int_uint, cv_int_uint8, ln_string, ia_sl_uint8, ld_uint8, cv_uint8_int, bd_weights_Code_0_1, ia_sl_weights_Code, bd_lightermanref08_C_, ix_string, bd_lightermanref08_C_0_1, ia_sl_lightermanref08_C, sl_sl_uint8_lo, sl_sl_uint8_hi, ln_sl_uint32, ia_sl_uint32, ld_uint32, cv_uint32_uint64, sl_sl_uint32_hi, ln_sl_int, ia_sl_int, ld_int, cv_uint_uint32, seql_sl_uint8, cv_uint32_uint8, cv_uint64_uint8, ln_sl_weights_Code, fa_weights_Code_Bits, fa_weights_Code_Code, ln_sl_lightermanref08_C, fa_lightermanref08_C_Bits, fa_lightermanref08_C_Code, d2, n6]
      obtain ⟨hdep, hbl, hk1, hk11, _, _, _⟩ := wholeN_depth e1
      have hnk : nats (l ++ [UInt8.ofNat k]) = nats l ++ [k] := by
        show List.map _ (l ++ [UInt8.ofNat k]) = _
        rw [List.map_append, List.map_cons, List.map_nil, UInt8.toNat_ofNat_of_lt' (show k < 256 by omega)]
      refine (codes_c (d := bl (worthN (nats l))) (hva5.ext x6 (inB_nob _)) (by rw [hnk]; exact hdep) (by omega)).mono ?_
      rintro r w7 ⟨b7, rfl, _, _, x7⟩
      simp (disch := omega) only [Stp, Same, stepR_value, stepR_skip, r_add, r_sub, r_mul, r_quo, r_rem, r_and, r_or, r_xor, r_andNot, r_shl, r_shr, r_eql, r_neq, r_lss, r_leq, r_gtr, r_geq, r_neg, r_cpl, r_not, r_pick, r_min, r_max, r_nil, x20, x21, x30, x31, x32, x40, x41, x42, x43, ldC_some, Result.ok.injEq, Next.value.injEq, true_and, and_true, w_i64, w_u64, w_i32, w_u32, w_u16, w_u8, Int.toNat_natCast, isB_tt, isB_tf, isB_ft, isB_ff, Gd_true, Gd_false, Gs_true, Gs_false, Cnd_true, Cnd_false, if_true, if_false, Bool.false_eq_true, Nat.zero_add, Option.isNone_some, Option.isNone_none, Bool.not_true, Bool.not_false, List.getElem?_cons_succ, List.getElem?_cons_zero, ln_sl_uint8, cv_int_uint, cv_int_uint8, ln_string, ia_sl_uint8, ld_uint8, cv_uint8_int, bd_weights_Code_0_1, ia_sl_weights_Code, bd_lightermanref08_C_, ix_string, bd_lightermanref08_C_0_1, ia_sl_lightermanref08_C, sl_sl_uint8_lo, sl_sl_uint8_hi, ln_sl_uint32, ia_sl_uint32, ld_uint32, cv_uint32_uint64, sl_sl_uint32_hi, ln_sl_int, ia_sl_int, ld_int, cv_uint_uint32, seql_sl_uint8, cv_uint32_uint8, cv_uint64_uint8, ln_sl_weights_Code, fa_weights_Code_Bits, fa_weights_Code_Code, ln_sl_lightermanref08_C, fa_lightermanref08_C_Bits, fa_lightermanref08_C_Code, n7]
      exact (x05.seq x6).seq x7
end Go.Proofs.Ytoepfjgekpdddaa
/- Contract: the law WeightsFree. -/
namespace Go.Proofs.Ytoepfjgekpdddaa
open Go Go.En Go.Pu
set_option maxRecDepth 4000
set_option linter.unusedSimpArgs false
set_option linter.unusedVariables false

theorem shr_i64 (x j : Nat) (hj : j ≤ 64) : ((x : Int)).fdiv (2 ^ (min (j : Nat) IntKind.i64.bits)) = ((x / 2 ^ j : Nat) : Int) := by
  have : min j IntKind.i64.bits = j := Nat.min_eq_left hj
  rw [this, show ((2 : Int) ^ j) = ((2 ^ j : Nat) : Int) from by simp, fdiv_nat]

theorem free_tail {v : Value} {l : List UInt8} {a b px py d xb xc yb yc : Nat} {w : World} (h : Bs w v l) (h0 : 0 < l.length) (hl : l.length ≤ 256) (ha : a < 256) (hb : b < 256)
    (ox : Own w px [.int .i64 xb, .int .i64 xc]) (oy : Own w py [.int .i64 yb, .int .i64 yc]) (hd : d ≤ 11) (hxw : xb = 0 ↔ (nats l).getD (a % l.length) 0 = 0) (hx : xb ≠ 0 → xc < 2 ^ xb) (hxd : xb ≤ d) (hyd : yb ≤ 11)
    (hxy : a % l.length ≠ b % l.length → xb ≠ 0 → xb ≤ yb → yc / 2 ^ (yb - xb) ≠ xc) {RR : Value → World → Prop} (hRR : ∀ w', Ext w w' nob → RR (.bool true) w') :
    law08_WeightsFree_p7 RR v (.int .u8 a) (.int .u8 b) (.int .i64 0) (.int .i64 d) (.pointer (some ⟨px, 0, none⟩)) (.pointer (some ⟨py, 0, none⟩)) w := by
  have hi : a % l.length < l.length := Nat.mod_lt _ h0
  have x1 : Ext w (dr w) nob := Ext.dr _ _
  have x2 : Ext w (dr (dr w)) nob := x1.seq (Ext.dr _ _)
  have bsx := (h.ext x1 (inB_nob _))
  obtain ⟨bb, off, c, rfl, hc, hcell⟩ := bsOpen bsx h0
  have g0 := hcell _ hi
  have hgd : (l[a % l.length]'hi).toNat = (nats l).getD (a % l.length) 0 := by
    rw [List.getD_eq_getElem?_getD, nats_get hi]; rfl
  rw [hgd] at g0
  have a0 := ox.cell (off := 0)
  have a1 := ox.cell (off := 1)
  have a0' := (ox.ext x1 (fun h => h)).cell (off := 0)
  have a0'' := (ox.ext x2 (fun h => h)).cell (off := 0)
  have a1'' := (ox.ext x2 (fun h => h)).cell (off := 1)
  have b0'' := (oy.ext x2 (fun h => h)).cell (off := 0)
  have b1'' := (oy.ext x2 (fun h => h)).cell (off := 1)
  simp only [List.getElem?_cons_zero, List.getElem?_cons_succ] at a0 a1 a0' a0'' a1'' b0'' b1''
  have e1 : IntKind.i64.wrap (a : Int) = (a : Int) := w_i64 (by omega) (by omega)
  have e2 : IntKind.i64.wrap (b : Int) = (b : Int) := w_i64 (by omega) (by omega)
  have e3 : (a : Int).tmod (l.length : Int) = ((a % l.length : Nat) : Int) := by rw [Int.tmod_eq_emod_of_nonneg (by omega)]; simp
  have e4 : (b : Int).tmod (l.length : Int) = ((b % l.length : Nat) : Int) := by rw [Int.tmod_eq_emod_of_nonneg (by omega)]; simp
  have n0 : ((l.length : Int) == 0) = false := beq_eq_false_iff_ne.2 (by omega)
  generalize (nats l).getD (a % l.length) 0 = q at *
  have z0 : ((0 : Int) == 0) = true := rfl
  unfold law08_WeightsFree_p7 law08_WeightsFree_p6
  by_cases hxb : xb = 0
  · subst hxb
    obtain rfl : q = 0 := hxw.1 rfl
    have n1 : (((0 : Nat) : Int) != 0) = false := rfl
    have n2 : (((0 : Nat) : Int) == 0) = true := rfl
    simp (disch := omega) only [Stp, Same, stepR_value, stepR_skip, r_add, r_sub, r_mul, r_quo, r_rem, r_and, r_or, r_xor, r_andNot, r_shl, r_shr, r_eql, r_neq, r_lss, r_leq, r_gtr, r_geq, r_neg, r_cpl, r_not, r_pick, r_min, r_max, r_nil, x20, x21, x30, x31, x32, x40, x41, x42, x43, ldC_some, Result.ok.injEq, Next.value.injEq, true_and, and_true, w_i64, w_u64, w_i32, w_u32, w_u16, w_u8, Int.toNat_natCast, isB_tt, isB_tf, isB_ft, isB_ff, Gd_true, Gd_false, Gs_true, Gs_false, Cnd_true, Cnd_false, if_true, if_false, Bool.false_eq_true, Nat.zero_add, Option.isNone_some, Option.isNone_none, Bool.not_true, Bool.not_false, List.getElem?_cons_succ, List.getElem?_cons_zero, ln_sl_uint8, cv_int_uint, cv_int_uint8, ln_string, ia_sl_uint8, ld_uint8, cv_uint8_int, bd_weights_Code_0_1, ia_sl_weights_Code, bd_lightermanref08_C_, ix_string, bd_lightermanref08_C_0_1, ia_sl_lightermanref08_C, sl_sl_uint8_lo, sl_sl_uint8_hi, ln_sl_uint32, ia_sl_uint32, ld_uint32, cv_uint32_uint64, sl_sl_uint32_hi, ln_sl_int, ia_sl_int, ld_int, cv_uint_uint32, seql_sl_uint8, cv_uint32_uint8, cv_uint64_uint8, ln_sl_weights_Code, fa_weights_Code_Bits, fa_weights_Code_Code, ln_sl_lightermanref08_C, fa_lightermanref08_C_Bits, fa_lightermanref08_C_Code, bneq_bool, a0, n1, isBu]
    unfold law08_WeightsFree_p5 law08_WeightsFree_p4
    simp (disch := omega) only [Stp, Same, stepR_value, stepR_skip, r_add, r_sub, r_mul, r_quo, r_rem, r_and, r_or, r_xor, r_andNot, r_shl, r_shr, r_eql, r_neq, r_lss, r_leq, r_gtr, r_geq, r_neg, r_cpl, r_not, r_pick, r_min, r_max, r_nil, x20, x21, x30, x31, x32, x40, x41, x42, x43, ldC_some, Result.ok.injEq, Next.value.injEq, true_and, and_true, w_i64, w_u64, w_i32, w_u32, w_u16, w_u8, Int.toNat_natCast, isB_tt, isB_tf, isB_ft, isB_ff, Gd_true, Gd_false, Gs_true, Gs_false, Cnd_true, Cnd_false, if_true, if_false, Bool.false_eq_true, Nat.zero_add, Option.isNone_some, Option.isNone_none, Bool.not_true, Bool.not_false, List.getElem?_cons_succ, List.getElem?_cons_zero, ln_sl_uint8, cv_int_uint, cv_int_uint8, ln_string, ia_sl_uint8, ld_uint8, cv_uint8_int, bd_weights_Code_0_1, ia_sl_weights_Code, bd_lightermanref08_C_, ix_string, bd_lightermanref08_C_0_1, ia_sl_lightermanref08_C, sl_sl_uint8_lo, sl_sl_uint8_hi, ln_sl_uint32, ia_sl_uint32, ld_uint32, cv_uint32_uint64, sl_sl_uint32_hi, ln_sl_int, ia_sl_int, ld_int, cv_uint_uint32, seql_sl_uint8, cv_uint32_uint8, cv_uint64_uint8, ln_sl_weights_Code, fa_weights_Code_Bits, fa_weights_Code_Code, ln_sl_lightermanref08_C, fa_lightermanref08_C_Bits, fa_lightermanref08_C_Code, bneq_bool, a0', e1, e3, n0, g0, n2, z0]
    unfold law08_WeightsFree_p3 law08_WeightsFree_p2
    by_cases hij : a % l.length = b % l.length
    · have n3 : (((a % l.length : Nat) : Int) == ((b % l.length : Nat) : Int)) = true := by rw [hij]; simp
      simp (disch := omega) only [Stp, Same, stepR_value, stepR_skip, r_add, r_sub, r_mul, r_quo, r_rem, r_and, r_or, r_xor, r_andNot, r_shl, r_shr, r_eql, r_neq, r_lss, r_leq, r_gtr, r_geq, r_neg, r_cpl, r_not, r_pick, r_min, r_max, r_nil, x20, x21, x30, x31, x32, x40, x41, x42, x43, ldC_some, Result.ok.injEq, Next.value.injEq, true_and, and_true, w_i64, w_u64, w_i32, w_u32, w_u16, w_u8, Int.toNat_natCast, isB_tt, isB_tf, isB_ft, isB_ff, Gd_true, Gd_false, Gs_true, Gs_false, Cnd_true, Cnd_false, if_true, if_false, Bool.false_eq_true, Nat.zero_add, Option.isNone_some, Option.isNone_none, Bool.not_true, Bool.not_false, List.getElem?_cons_succ, List.getElem?_cons_zero, ln_sl_uint8, cv_int_uint, cv_int_uint8, ln_string, ia_sl_uint8, ld_uint8, cv_uint8_int, bd_weights_Code_0_1, ia_sl_weights_Code, bd_lightermanref08_C_, ix_string, bd_lightermanref08_C_0_1, ia_sl_lightermanref08_C, sl_sl_uint8_lo, sl_sl_uint8_hi, ln_sl_uint32, ia_sl_uint32, ld_uint32, cv_uint32_uint64, sl_sl_uint32_hi, ln_sl_int, ia_sl_int, ld_int, cv_uint_uint32, seql_sl_uint8, cv_uint32_uint8, cv_uint64_uint8, ln_sl_weights_Code, fa_weights_Code_Bits, fa_weights_Code_Code, ln_sl_lightermanref08_C, fa_lightermanref08_C_Bits, fa_lightermanref08_C_Code, bneq_bool, a0'', e1, e2, e3, e4, n0, n2, n3, z0]
      exact hRR _ x2
    · have n3 : (((a % l.length : Nat) : Int) == ((b % l.length : Nat) : Int)) = false := beq_eq_false_iff_ne.2 (by omega)
      simp (disch := omega) only [Stp, Same, stepR_value, stepR_skip, r_add, r_sub, r_mul, r_quo, r_rem, r_and, r_or, r_xor, r_andNot, r_shl, r_shr, r_eql, r_neq, r_lss, r_leq, r_gtr, r_geq, r_neg, r_cpl, r_not, r_pick, r_min, r_max, r_nil, x20, x21, x30, x31, x32, x40, x41, x42, x43, ldC_some, Result.ok.injEq, Next.value.injEq, true_and, and_true, w_i64, w_u64, w_i32, w_u32, w_u16, w_u8, Int.toNat_natCast, isB_tt, isB_tf, isB_ft, isB_ff, Gd_true, Gd_false, Gs_true, Gs_false, Cnd_true, Cnd_false, if_true, if_false, Bool.false_eq_true, Nat.zero_add, Option.isNone_some, Option.isNone_none, Bool.not_true, Bool.not_false, List.getElem?_cons_succ, List.getElem?_cons_zero, ln_sl_uint8, cv_int_uint, cv_int_uint8, ln_string, ia_sl_uint8, ld_uint8, cv_uint8_int, bd_weights_Code_0_1, ia_sl_weights_Code, bd_lightermanref08_C_, ix_string, bd_lightermanref08_C_0_1, ia_sl_lightermanref08_C, sl_sl_uint8_lo, sl_sl_uint8_hi, ln_sl_uint32, ia_sl_uint32, ld_uint32, cv_uint32_uint64, sl_sl_uint32_hi, ln_sl_int, ia_sl_int, ld_int, cv_uint_uint32, seql_sl_uint8, cv_uint32_uint8, cv_uint64_uint8, ln_sl_weights_Code, fa_weights_Code_Bits, fa_weights_Code_Code, ln_sl_lightermanref08_C, fa_lightermanref08_C_Bits, fa_lightermanref08_C_Code, bneq_bool, a0'', e1, e2, e3, e4, n0, n2, n3, z0]
      exact hRR _ x2
  have hq : q ≠ 0 := fun h => hxb (hxw.2 h)
  have n1 : ((xb : Int) != 0) = true := by simp; omega
  have n2 : ((xb : Int) == 0) = false := beq_eq_false_iff_ne.2 (by omega)
  have n4 : ((q : Int) == 0) = false := beq_eq_false_iff_ne.2 (by omega)
  have d1 : decide ((xc : Int) < 0) = false := by simp
  have e5 : IntKind.u64.wrap (xb : Int) = (xb : Int) := w_u64 (by omega) (by omega)
  have e6 := shl1 (n := xb) (by omega)
  have t5 : (xb : Int).toNat = xb := by omega
  have hxc := hx hxb
  have d2 : decide (((2 ^ xb : Nat) : Int) ≤ (xc : Int)) = false := by simp only [decide_eq_false_iff_not]; omega
  have d3 : decide ((d : Int) < (xb : Int)) = false := by simp; omega
  simp (disch := omega) only [Stp, Same, stepR_value, stepR_skip, r_add, r_sub, r_mul, r_quo, r_rem, r_and, r_or, r_xor, r_andNot, r_shl, r_shr, r_eql, r_neq, r_lss, r_leq, r_gtr, r_geq, r_neg, r_cpl, r_not, r_pick, r_min, r_max, r_nil, x20, x21, x30, x31, x32, x40, x41, x42, x43, ldC_some, Result.ok.injEq, Next.value.injEq, true_and, and_true, w_i64, w_u64, w_i32, w_u32, w_u16, w_u8, Int.toNat_natCast, isB_tt, isB_tf, isB_ft, isB_ff, Gd_true, Gd_false, Gs_true, Gs_false, Cnd_true, Cnd_false, if_true, if_false, Bool.false_eq_true, Nat.zero_add, Option.isNone_some, Option.isNone_none, Bool.not_true, Bool.not_false, List.getElem?_cons_succ, List.getElem?_cons_zero, ln_sl_uint8, cv_int_uint, cv_int_uint8, ln_string, ia_sl_uint8, ld_uint8, cv_uint8_int, bd_weights_Code_0_1, ia_sl_weights_Code, bd_lightermanref08_C_, ix_string, bd_lightermanref08_C_0_1, ia_sl_lightermanref08_C, sl_sl_uint8_lo, sl_sl_uint8_hi, ln_sl_uint32, ia_sl_uint32, ld_uint32, cv_uint32_uint64, sl_sl_uint32_hi, ln_sl_int, ia_sl_int, ld_int, cv_uint_uint32, seql_sl_uint8, cv_uint32_uint8, cv_uint64_uint8, ln_sl_weights_Code, fa_weights_Code_Bits, fa_weights_Code_Code, ln_sl_lightermanref08_C, fa_lightermanref08_C_Bits, fa_lightermanref08_C_Code, bneq_bool, a0, a1, n1, d1, e5, e6, t5, d2, d3]
  unfold law08_WeightsFree_p5 law08_WeightsFree_p4
  simp (disch := omega) only [Stp, Same, stepR_value, stepR_skip, r_add, r_sub, r_mul, r_quo, r_rem, r_and, r_or, r_xor, r_andNot, r_shl, r_shr, r_eql, r_neq, r_lss, r_leq, r_gtr, r_geq, r_neg, r_cpl, r_not, r_pick, r_min, r_max, r_nil, x20, x21, x30, x31, x32, x40, x41, x42, x43, ldC_some, Result.ok.injEq, Next.value.injEq, true_and, and_true, w_i64, w_u64, w_i32, w_u32, w_u16, w_u8, Int.toNat_natCast, isB_tt, isB_tf, isB_ft, isB_ff, Gd_true, Gd_false, Gs_true, Gs_false, Cnd_true, Cnd_false, if_true, if_false, Bool.false_eq_true, Nat.zero_add, Option.isNone_some, Option.isNone_none, Bool.not_true, Bool.not_false, List.getElem?_cons_succ, List.getElem?_cons_zero, ln_sl_uint8, cv_int_uint, cv_int_uint8, ln_string, ia_sl_uint8, ld_uint8, cv_uint8_int, bd_weights_Code_0_1, ia_sl_weights_Code, bd_lightermanref08_C_, ix_string, bd_lightermanref08_C_0_1, ia_sl_lightermanref08_C, sl_sl_uint8_lo, sl_sl_uint8_hi, ln_sl_uint32, ia_sl_uint32, ld_uint32, cv_uint32_uint64, sl_sl_uint32_hi, ln_sl_int, ia_sl_int, ld_int, cv_uint_uint32, seql_sl_uint8, cv_uint32_uint8, cv_uint64_uint8, ln_sl_weights_Code, fa_weights_Code_Bits, fa_weights_Code_Code, ln_sl_lightermanref08_C, fa_lightermanref08_C_Bits, fa_lightermanref08_C_Code, bneq_bool, a0', e1, e3, n0, g0, n2, n4]
  unfold law08_WeightsFree_p3 law08_WeightsFree_p2
  by_cases hij : a % l.length = b % l.length
  · have n3 : (((a % l.length : Nat) : Int) == ((b % l.length : Nat) : Int)) = true := by rw [hij]; simp
    simp (disch := omega) only [Stp, Same, stepR_value, stepR_skip, r_add, r_sub, r_mul, r_quo, r_rem, r_and, r_or, r_xor, r_andNot, r_shl, r_shr, r_eql, r_neq, r_lss, r_leq, r_gtr, r_geq, r_neg, r_cpl, r_not, r_pick, r_min, r_max, r_nil, x20, x21, x30, x31, x32, x40, x41, x42, x43, ldC_some, Result.ok.injEq, Next.value.injEq, true_and, and_true, w_i64, w_u64, w_i32, w_u32, w_u16, w_u8, Int.toNat_natCast, isB_tt, isB_tf, isB_ft, isB_ff, Gd_true, Gd_false, Gs_true, Gs_false, Cnd_true, Cnd_false, if_true, if_false, Bool.false_eq_true, Nat.zero_add, Option.isNone_some, Option.isNone_none, Bool.not_true, Bool.not_false, List.getElem?_cons_succ, List.getElem?_cons_zero, ln_sl_uint8, cv_int_uint, cv_int_uint8, ln_string, ia_sl_uint8, ld_uint8, cv_uint8_int, bd_weights_Code_0_1, ia_sl_weights_Code, bd_lightermanref08_C_, ix_string, bd_lightermanref08_C_0_1, ia_sl_lightermanref08_C, sl_sl_uint8_lo, sl_sl_uint8_hi, ln_sl_uint32, ia_sl_uint32, ld_uint32, cv_uint32_uint64, sl_sl_uint32_hi, ln_sl_int, ia_sl_int, ld_int, cv_uint_uint32, seql_sl_uint8, cv_uint32_uint8, cv_uint64_uint8, ln_sl_weights_Code, fa_weights_Code_Bits, fa_weights_Code_Code, ln_sl_lightermanref08_C, fa_lightermanref08_C_Bits, fa_lightermanref08_C_Code, bneq_bool, a0'', b0'', e1, e2, e3, e4, n0, n2, n3, z0]
    exact hRR _ x2
  have n3 : (((a % l.length : Nat) : Int) == ((b % l.length : Nat) : Int)) = false := beq_eq_false_iff_ne.2 (by omega)
  by_cases hlt : yb < xb
  · have d4 : decide ((yb : Int) < (xb : Int)) = true := by simp; omega
    simp (disch := omega) only [Stp, Same, stepR_value, stepR_skip, r_add, r_sub, r_mul, r_quo, r_rem, r_and, r_or, r_xor, r_andNot, r_shl, r_shr, r_eql, r_neq, r_lss, r_leq, r_gtr, r_geq, r_neg, r_cpl, r_not, r_pick, r_min, r_max, r_nil, x20, x21, x30, x31, x32, x40, x41, x42, x43, ldC_some, Result.ok.injEq, Next.value.injEq, true_and, and_true, w_i64, w_u64, w_i32, w_u32, w_u16, w_u8, Int.toNat_natCast, isB_tt, isB_tf, isB_ft, isB_ff, Gd_true, Gd_false, Gs_true, Gs_false, Cnd_true, Cnd_false, if_true, if_false, Bool.false_eq_true, Nat.zero_add, Option.isNone_some, Option.isNone_none, Bool.not_true, Bool.not_false, List.getElem?_cons_succ, List.getElem?_cons_zero, ln_sl_uint8, cv_int_uint, cv_int_uint8, ln_string, ia_sl_uint8, ld_uint8, cv_uint8_int, bd_weights_Code_0_1, ia_sl_weights_Code, bd_lightermanref08_C_, ix_string, bd_lightermanref08_C_0_1, ia_sl_lightermanref08_C, sl_sl_uint8_lo, sl_sl_uint8_hi, ln_sl_uint32, ia_sl_uint32, ld_uint32, cv_uint32_uint64, sl_sl_uint32_hi, ln_sl_int, ia_sl_int, ld_int, cv_uint_uint32, seql_sl_uint8, cv_uint32_uint8, cv_uint64_uint8, ln_sl_weights_Code, fa_weights_Code_Bits, fa_weights_Code_Code, ln_sl_lightermanref08_C, fa_lightermanref08_C_Bits, fa_lightermanref08_C_Code, bneq_bool, a0'', b0'', e1, e2, e3, e4, n0, n2, n3, z0, d4]
    exact hRR _ x2
  have d4 : decide ((yb : Int) < (xb : Int)) = false := by simp; omega
  have hne := hxy hij hxb (by omega)
  have e7 : (yb : Int) - (xb : Int) = ((yb - xb : Nat) : Int) := by omega
  have e8 : IntKind.u64.wrap ((yb - xb : Nat) : Int) = ((yb - xb : Nat) : Int) := w_u64 (by omega) (by omega)
  have e9 := shr_i64 yc (yb - xb) (by omega)
  have t9 : ((yb - xb : Nat) : Int).toNat = yb - xb := by omega
  have n5 : (((yc / 2 ^ (yb - xb) : Nat) : Int) != (xc : Int)) = true := by
    generalize yc / 2 ^ (yb - xb) = z at *
    simp; omega
  simp (disch := omega) only [Stp, Same, stepR_value, stepR_skip, r_add, r_sub, r_mul, r_quo, r_rem, r_and, r_or, r_xor, r_andNot, r_shl, r_shr, r_eql, r_neq, r_lss, r_leq, r_gtr, r_geq, r_neg, r_cpl, r_not, r_pick, r_min, r_max, r_nil, x20, x21, x30, x31, x32, x40, x41, x42, x43, ldC_some, Result.ok.injEq, Next.value.injEq, true_and, and_true, w_i64, w_u64, w_i32, w_u32, w_u16, w_u8, Int.toNat_natCast, isB_tt, isB_tf, isB_ft, isB_ff, Gd_true, Gd_false, Gs_true, Gs_false, Cnd_true, Cnd_false, if_true, if_false, Bool.false_eq_true, Nat.zero_add, Option.isNone_some, Option.isNone_none, Bool.not_true, Bool.not_false, List.getElem?_cons_succ, List.getElem?_cons_zero, ln_sl_uint8, cv_int_uint, cv_int_uint8, ln_string, ia_sl_uint8, ld_uint8, cv_uint8_int, bd_weights_Code_0_1, ia_sl_weights_Code, bd_lightermanref08_C_, ix_string, bd_lightermanref08_C_0_1, ia_sl_lightermanref08_C, sl_sl_uint8_lo, sl_sl_uint8_hi, ln_sl_uint32, ia_sl_uint32, ld_uint32, cv_uint32_uint64, sl_sl_uint32_hi, ln_sl_int, ia_sl_int, ld_int, cv_uint_uint32, seql_sl_uint8, cv_uint32_uint8, cv_uint64_uint8, ln_sl_weights_Code, fa_weights_Code_Bits, fa_weights_Code_Code, ln_sl_lightermanref08_C, fa_lightermanref08_C_Bits, fa_lightermanref08_C_Code, bneq_bool, a0'', b0'', e1, e2, e3, e4, n0, n2, n3, z0, d4]
  unfold law08_WeightsFree_p1
  simp (disch := omega) only [Stp, Same, stepR_value, stepR_skip, r_add, r_sub, r_mul, r_quo, r_rem, r_and, r_or, r_xor, r_andNot, r_shl, r_shr, r_eql, r_neq, r_lss, r_leq, r_gtr, r_geq, r_neg, r_cpl, r_not, r_pick, r_min, r_max, r_nil, x20, x21, x30, x31, x32, x40, x41, x42, x43, ldC_some, Result.ok.injEq, Next.value.injEq, true_and, and_true, w_i64, w_u64, w_i32, w_u32, w_u16, w_u8, Int.toNat_natCast, isB_tt, isB_tf, isB_ft, isB_ff, Gd_true, Gd_false, Gs_true, Gs_false, Cnd_true, Cnd_false, if_true, if_false, Bool.false_eq_true, Nat.zero_add, Option.isNone_some, Option.isNone_none, Bool.not_true, Bool.not_false, List.getElem?_cons_succ, List.getElem?_cons_zero, ln_sl_uint8, cv_int_uint, cv_int_uint8, ln_string, ia_sl_uint8, ld_uint8, cv_uint8_int, bd_weights_Code_0_1, ia_sl_weights_Code, bd_lightermanref08_C_, ix_string, bd_lightermanref08_C_0_1, ia_sl_lightermanref08_C, sl_sl_uint8_lo, sl_sl_uint8_hi, ln_sl_uint32, ia_sl_uint32, ld_uint32, cv_uint32_uint64, sl_sl_uint32_hi, ln_sl_int, ia_sl_int, ld_int, cv_uint_uint32, seql_sl_uint8, cv_uint32_uint8, cv_uint64_uint8, ln_sl_weights_Code, fa_weights_Code_Bits, fa_weights_Code_Code, ln_sl_lightermanref08_C, fa_lightermanref08_C_Bits, fa_lightermanref08_C_Code, bneq_bool, a0'', b0'', a1'', b1'', z0, e7, e8, e9, t9, n5]
  exact hRR _ x2

theorem weightsFree_c {v : Value} {l : List UInt8} {a b : Nat} {w : World} (h : Bs w v l) (hl : l.length ≤ 9223372036854775807) (ha : a < 256) (hb : b < 256) :
    Does pg F_law08_WeightsFree #[v, .int .u8 a, .int .u8 b] w (fun r w' => r = .bool true ∧ Ext w w' nob) := by
  refine law08_WeightsFree_does ?_
  unfold law08_WeightsFree law08_WeightsFree_p11 law08_WeightsFree_p10
  obtain ⟨aa, n, c, hv, hn, hc, _⟩ := id h
  rw [List.length_map] at hn
  subst hn
  have hv' := hv
  subst hv'
  refine (awake8_c w).mono ?_
  rintro r w1 ⟨rfl, x1⟩
  by_cases h1 : 300 < l.length
  · have d1 : decide ((300 : Int) < (l.length : Int)) = true := by simp; omega
    simp (disch := omega) only [Stp, Same, stepR_value, stepR_skip, r_add, r_sub, r_mul, r_quo, r_rem, r_and, r_or, r_xor, r_andNot, r_shl, r_shr, r_eql, r_neq, r_lss, r_leq, r_gtr, r_geq, r_neg, r_cpl, r_not, r_pick, r_min, r_max, r_nil, x20, x21, x30, x31, x32, x40, x41, x42, x43, ldC_some, Result.ok.injEq, Next.value.injEq, true_and, and_true, w_i64, w_u64, w_i32, w_u32, w_u16, w_u8, Int.toNat_natCast, isB_tt, isB_tf, isB_ft, isB_ff, Gd_true, Gd_false, Gs_true, Gs_false, Cnd_true, Cnd_false, if_true, if_false, Bool.false_eq_true, Nat.zero_add, Option.isNone_some, Option.isNone_none, Bool.not_true, Bool.not_false, List.getElem?_cons_succ, List.getElem?_cons_zero, ln_sl_uint8, cv_int_uint, cv_int_uint8, ln_string, ia_sl_uint8, ld_uint8, cv_uint8_int, bd_weights_Code_0_1, ia_sl_weights_Code, bd_lightermanref08_C_, ix_string, bd_lightermanref08_C_0_1, ia_sl_lightermanref08_C, sl_sl_uint8_lo, sl_sl_uint8_hi, ln_sl_uint32, ia_sl_uint32, ld_uint32, cv_uint32_uint64, sl_sl_uint32_hi, ln_sl_int, ia_sl_int, ld_int, cv_uint_uint32, seql_sl_uint8, cv_uint32_uint8, cv_uint64_uint8, ln_sl_weights_Code, fa_weights_Code_Bits, fa_weights_Code_Code, ln_sl_lightermanref08_C, fa_lightermanref08_C_Bits, fa_lightermanref08_C_Code, bneq_bool, d1]
    exact x1
  have d1 : decide ((300 : Int) < (l.length : Int)) = false := by simp; omega
  simp (disch := omega) only [Stp, Same, stepR_value, stepR_skip, r_add, r_sub, r_mul, r_quo, r_rem, r_and, r_or, r_xor, r_andNot, r_shl, r_shr, r_eql, r_neq, r_lss, r_leq, r_gtr, r_geq, r_neg, r_cpl, r_not, r_pick, r_min, r_max, r_nil, x20, x21, x30, x31, x32, x40, x41, x42, x43, ldC_some, Result.ok.injEq, Next.value.injEq, true_and, and_true, w_i64, w_u64, w_i32, w_u32, w_u16, w_u8, Int.toNat_natCast, isB_tt, isB_tf, isB_ft, isB_ff, Gd_true, Gd_false, Gs_true, Gs_false, Cnd_true, Cnd_false, if_true, if_false, Bool.false_eq_true, Nat.zero_add, Option.isNone_some, Option.isNone_none, Bool.not_true, Bool.not_false, List.getElem?_cons_succ, List.getElem?_cons_zero, ln_sl_uint8, cv_int_uint, cv_int_uint8, ln_string, ia_sl_uint8, ld_uint8, cv_uint8_int, bd_weights_Code_0_1, ia_sl_weights_Code, bd_lightermanref08_C_, ix_string, bd_lightermanref08_C_0_1, ia_sl_lightermanref08_C, sl_sl_uint8_lo, sl_sl_uint8_hi, ln_sl_uint32, ia_sl_uint32, ld_uint32, cv_uint32_uint64, sl_sl_uint32_hi, ln_sl_int, ia_sl_int, ld_int, cv_uint_uint32, seql_sl_uint8, cv_uint32_uint8, cv_uint64_uint8, ln_sl_weights_Code, fa_weights_Code_Bits, fa_weights_Code_Code, ln_sl_lightermanref08_C, fa_lightermanref08_C_Bits, fa_lightermanref08_C_Code, bneq_bool, d1]
  have hb1 := h.ext x1 (inB_nob _)
  have hl1 : lst (⟨l.toArray⟩ : ByteArray) = l := lst_mk l
  have hz1 : (⟨l.toArray⟩ : ByteArray).size = l.length := by rw [← lst_length, hl1]
  obtain ⟨d, hd⟩ : ∃ d, depthN (nats l) = d := ⟨_, rfl⟩
  by_cases hd0 : d = 0
  · subst hd0
    refine (codes_bad hb1 (by omega) hd).mono ?_
    rintro r w2 ⟨rfl, rfl⟩
    have hcv := cv_sl_uint8_string hb1
    simp (disch := omega) only [Stp, Same, stepR_value, stepR_skip, r_add, r_sub, r_mul, r_quo, r_rem, r_and, r_or, r_xor, r_andNot, r_shl, r_shr, r_eql, r_neq, r_lss, r_leq, r_gtr, r_geq, r_neg, r_cpl, r_not, r_pick, r_min, r_max, r_nil, x20, x21, x30, x31, x32, x40, x41, x42, x43, ldC_some, Result.ok.injEq, Next.value.injEq, true_and, and_true, w_i64, w_u64, w_i32, w_u32, w_u16, w_u8, Int.toNat_natCast, isB_tt, isB_tf, isB_ft, isB_ff, Gd_true, Gd_false, Gs_true, Gs_false, Cnd_true, Cnd_false, if_true, if_false, Bool.false_eq_true, Nat.zero_add, Option.isNone_some, Option.isNone_none, Bool.not_true, Bool.not_false, List.getElem?_cons_succ, List.getElem?_cons_zero, ln_sl_uint8, cv_int_uint, cv_int_uint8, ln_string, ia_sl_uint8, ld_uint8, cv_uint8_int, bd_weights_Code_0_1, ia_sl_weights_Code, bd_lightermanref08_C_, ix_string, bd_lightermanref08_C_0_1, ia_sl_lightermanref08_C, sl_sl_uint8_lo, sl_sl_uint8_hi, ln_sl_uint32, ia_sl_uint32, ld_uint32, cv_uint32_uint64, sl_sl_uint32_hi, ln_sl_int, ia_sl_int, ld_int, cv_uint_uint32, seql_sl_uint8, cv_uint32_uint8, cv_uint64_uint8, ln_sl_weights_Code, fa_weights_Code_Bits, fa_weights_Code_Code, ln_sl_lightermanref08_C, fa_lightermanref08_C_Bits, fa_lightermanref08_C_Code, bneq_bool, hcv]
    refine (refDepth_c (x := ⟨l.toArray⟩) (by omega)).mono ?_
    rintro r w3 ⟨rfl, rfl⟩
    rw [hl1, hd]
    have n1 : (((0 : Nat) : Int) == 0) = true := rfl
    have n2 : ((1 : Int) == 1) = true := rfl
    have n3 : ((0 : Int) == 0) = true := rfl
    simp (disch := omega) only [Stp, Same, stepR_value, stepR_skip, r_add, r_sub, r_mul, r_quo, r_rem, r_and, r_or, r_xor, r_andNot, r_shl, r_shr, r_eql, r_neq, r_lss, r_leq, r_gtr, r_geq, r_neg, r_cpl, r_not, r_pick, r_min, r_max, r_nil, x20, x21, x30, x31, x32, x40, x41, x42, x43, ldC_some, Result.ok.injEq, Next.value.injEq, true_and, and_true, w_i64, w_u64, w_i32, w_u32, w_u16, w_u8, Int.toNat_natCast, isB_tt, isB_tf, isB_ft, isB_ff, Gd_true, Gd_false, Gs_true, Gs_false, Cnd_true, Cnd_false, if_true, if_false, Bool.false_eq_true, Nat.zero_add, Option.isNone_some, Option.isNone_none, Bool.not_true, Bool.not_false, List.getElem?_cons_succ, List.getElem?_cons_zero, ln_sl_uint8, cv_int_uint, cv_int_uint8, ln_string, ia_sl_uint8, ld_uint8, cv_uint8_int, bd_weights_Code_0_1, ia_sl_weights_Code, bd_lightermanref08_C_, ix_string, bd_lightermanref08_C_0_1, ia_sl_lightermanref08_C, sl_sl_uint8_lo, sl_sl_uint8_hi, ln_sl_uint32, ia_sl_uint32, ld_uint32, cv_uint32_uint64, sl_sl_uint32_hi, ln_sl_int, ia_sl_int, ld_int, cv_uint_uint32, seql_sl_uint8, cv_uint32_uint8, cv_uint64_uint8, ln_sl_weights_Code, fa_weights_Code_Bits, fa_weights_Code_Code, ln_sl_lightermanref08_C, fa_lightermanref08_C_Bits, fa_lightermanref08_C_Code, bneq_bool, n1, n2, n3]
    exact x1
  obtain ⟨hall, hd11, hl2, hl256, hlast, hsum⟩ := depthN_ok hd hd0
  have hnl := nats_length l
  refine (codes_c hb1 hd hd0).mono ?_
  rintro r w2 ⟨bc, rfl, hbc, oc, x2⟩
  have hb2 := hb1.ext x2 (inB_nob _)
  have hcv := cv_sl_uint8_string hb2
  simp (disch := omega) only [Stp, Same, stepR_value, stepR_skip, r_add, r_sub, r_mul, r_quo, r_rem, r_and, r_or, r_xor, r_andNot, r_shl, r_shr, r_eql, r_neq, r_lss, r_leq, r_gtr, r_geq, r_neg, r_cpl, r_not, r_pick, r_min, r_max, r_nil, x20, x21, x30, x31, x32, x40, x41, x42, x43, ldC_some, Result.ok.injEq, Next.value.injEq, true_and, and_true, w_i64, w_u64, w_i32, w_u32, w_u16, w_u8, Int.toNat_natCast, isB_tt, isB_tf, isB_ft, isB_ff, Gd_true, Gd_false, Gs_true, Gs_false, Cnd_true, Cnd_false, if_true, if_false, Bool.false_eq_true, Nat.zero_add, Option.isNone_some, Option.isNone_none, Bool.not_true, Bool.not_false, List.getElem?_cons_succ, List.getElem?_cons_zero, ln_sl_uint8, cv_int_uint, cv_int_uint8, ln_string, ia_sl_uint8, ld_uint8, cv_uint8_int, bd_weights_Code_0_1, ia_sl_weights_Code, bd_lightermanref08_C_, ix_string, bd_lightermanref08_C_0_1, ia_sl_lightermanref08_C, sl_sl_uint8_lo, sl_sl_uint8_hi, ln_sl_uint32, ia_sl_uint32, ld_uint32, cv_uint32_uint64, sl_sl_uint32_hi, ln_sl_int, ia_sl_int, ld_int, cv_uint_uint32, seql_sl_uint8, cv_uint32_uint8, cv_uint64_uint8, ln_sl_weights_Code, fa_weights_Code_Bits, fa_weights_Code_Code, ln_sl_lightermanref08_C, fa_lightermanref08_C_Bits, fa_lightermanref08_C_Code, bneq_bool, hcv]
  refine (refDepth_c (x := ⟨l.toArray⟩) (by omega)).mono ?_
  rintro r w3 ⟨rfl, rfl⟩
  rw [hl1, hd]
  have n1 : ((d : Int) == 0) = false := beq_eq_false_iff_ne.2 (by omega)
  simp (disch := omega) only [Stp, Same, stepR_value, stepR_skip, r_add, r_sub, r_mul, r_quo, r_rem, r_and, r_or, r_xor, r_andNot, r_shl, r_shr, r_eql, r_neq, r_lss, r_leq, r_gtr, r_geq, r_neg, r_cpl, r_not, r_pick, r_min, r_max, r_nil, x20, x21, x30, x31, x32, x40, x41, x42, x43, ldC_some, Result.ok.injEq, Next.value.injEq, true_and, and_true, w_i64, w_u64, w_i32, w_u32, w_u16, w_u8, Int.toNat_natCast, isB_tt, isB_tf, isB_ft, isB_ff, Gd_true, Gd_false, Gs_true, Gs_false, Cnd_true, Cnd_false, if_true, if_false, Bool.false_eq_true, Nat.zero_add, Option.isNone_some, Option.isNone_none, Bool.not_true, Bool.not_false, List.getElem?_cons_succ, List.getElem?_cons_zero, ln_sl_uint8, cv_int_uint, cv_int_uint8, ln_string, ia_sl_uint8, ld_uint8, cv_uint8_int, bd_weights_Code_0_1, ia_sl_weights_Code, bd_lightermanref08_C_, ix_string, bd_lightermanref08_C_0_1, ia_sl_lightermanref08_C, sl_sl_uint8_lo, sl_sl_uint8_hi, ln_sl_uint32, ia_sl_uint32, ld_uint32, cv_uint32_uint64, sl_sl_uint32_hi, ln_sl_int, ia_sl_int, ld_int, cv_uint_uint32, seql_sl_uint8, cv_uint32_uint8, cv_uint64_uint8, ln_sl_weights_Code, fa_weights_Code_Bits, fa_weights_Code_Code, ln_sl_lightermanref08_C, fa_lightermanref08_C_Bits, fa_lightermanref08_C_Code, bneq_bool, n1]
  unfold law08_WeightsFree_p9 law08_WeightsFree_p8
  have hi : a % l.length < l.length := Nat.mod_lt _ (by omega)
  have hj : b % l.length < l.length := Nat.mod_lt _ (by omega)
  have hLl := codesN_length (nats l) d
  have hcl := cc_length (codesN (nats l) d)
  have hci : ∀ i, i < l.length → ((cc (codesN (nats l) d)).drop (i * 2)).take 2 = [.int .i64 ((codeOf (nats l) d i).1 : Nat), .int .i64 ((codeOf (nats l) d i).2 : Nat)] := fun i hi => by
    have hil : i < (codesN (nats l) d).length := by omega
    have := cc_take hil
    have hg := codesN_get (l := nats l) (d := d) (s := i) (by omega)
    rw [List.getElem?_eq_getElem hil] at hg
    rw [Option.some.inj hg] at this
    exact this
  have e1 : IntKind.i64.wrap (a : Int) = (a : Int) := w_i64 (by omega) (by omega)
  have e2 : IntKind.i64.wrap (b : Int) = (b : Int) := w_i64 (by omega) (by omega)
  have e3 : (a : Int).tmod (l.length : Int) = ((a % l.length : Nat) : Int) := by rw [Int.tmod_eq_emod_of_nonneg (by omega)]; simp
  have e4 : (b : Int).tmod (l.length : Int) = ((b % l.length : Nat) : Int) := by rw [Int.tmod_eq_emod_of_nonneg (by omega)]; simp
  have n0 : ((l.length : Int) == 0) = false := beq_eq_false_iff_ne.2 (by omega)
  have la := lda_weights_Code (off := (a % l.length) * 2) oc (by omega)
  rw [hci _ hi] at la
  have hfit : ∀ i, i < l.length → ((codeOf (nats l) d i).1 = 0 ↔ (nats l).getD i 0 = 0) ∧ ((codeOf (nats l) d i).1 ≠ 0 → (codeOf (nats l) d i).2 < 2 ^ (codeOf (nats l) d i).1) ∧ (codeOf (nats l) d i).1 ≤ d := fun i hi => by
    have hw := hall _ (getD_mem (l := nats l) (s := i) (by omega))
    unfold codeOf
    by_cases h0 : (nats l).getD i 0 = 0
    · rw [if_pos h0]; exact ⟨⟨fun _ => h0, fun _ => rfl⟩, fun h => absurd rfl h, Nat.zero_le _⟩
    · rw [if_neg h0]
      refine ⟨⟨fun h => ?_, fun h => absurd h h0⟩, fun _ => code_fits (by omega) h0 hsum hall, ?_⟩
      · simp only at h; omega
      · simp only; omega
  have hfree : a % l.length ≠ b % l.length → (codeOf (nats l) d (a % l.length)).1 ≠ 0 → (codeOf (nats l) d (a % l.length)).1 ≤ (codeOf (nats l) d (b % l.length)).1 → (codeOf (nats l) d (b % l.length)).2 / 2 ^ ((codeOf (nats l) d (b % l.length)).1 - (codeOf (nats l) d (a % l.length)).1) ≠ (codeOf (nats l) d (a % l.length)).2 := fun hne hx hle => by
    have hx0 : (nats l).getD (a % l.length) 0 ≠ 0 := fun h => hx ((hfit _ hi).1.2 h)
    have hy0 : (nats l).getD (b % l.length) 0 ≠ 0 := fun h => by have := (hfit _ hj).1.2 h; omega
    have hwa := hall _ (getD_mem (l := nats l) (s := a % l.length) (by omega))
    have hwb := hall _ (getD_mem (l := nats l) (s := b % l.length) (by omega))
    unfold codeOf at hle ⊢
    rw [if_neg hx0, if_neg hy0] at hle ⊢
    simp only at hle ⊢
    have := code_free (s := a % l.length) (t := b % l.length) (by omega) (by omega) hne hx0 hy0 (by omega) hsum hall
    rw [show d + 1 - (nats l).getD (b % l.length) 0 - (d + 1 - (nats l).getD (a % l.length) 0) = (nats l).getD (a % l.length) 0 - (nats l).getD (b % l.length) 0 from by omega]
    exact this
  simp (disch := omega) only [Stp, Same, stepR_value, stepR_skip, r_add, r_sub, r_mul, r_quo, r_rem, r_and, r_or, r_xor, r_andNot, r_shl, r_shr, r_eql, r_neq, r_lss, r_leq, r_gtr, r_geq, r_neg, r_cpl, r_not, r_pick, r_min, r_max, r_nil, x20, x21, x30, x31, x32, x40, x41, x42, x43, ldC_some, Result.ok.injEq, Next.value.injEq, true_and, and_true, w_i64, w_u64, w_i32, w_u32, w_u16, w_u8, Int.toNat_natCast, isB_tt, isB_tf, isB_ft, isB_ff, Gd_true, Gd_false, Gs_true, Gs_false, Cnd_true, Cnd_false, if_true, if_false, Bool.false_eq_true, Nat.zero_add, Option.isNone_some, Option.isNone_none, Bool.not_true, Bool.not_false, List.getElem?_cons_succ, List.getElem?_cons_zero, ln_sl_uint8, cv_int_uint, cv_int_uint8, ln_string, ia_sl_uint8, ld_uint8, cv_uint8_int, bd_weights_Code_0_1, ia_sl_weights_Code, bd_lightermanref08_C_, ix_string, bd_lightermanref08_C_0_1, ia_sl_lightermanref08_C, sl_sl_uint8_lo, sl_sl_uint8_hi, ln_sl_uint32, ia_sl_uint32, ld_uint32, cv_uint32_uint64, sl_sl_uint32_hi, ln_sl_int, ia_sl_int, ld_int, cv_uint_uint32, seql_sl_uint8, cv_uint32_uint8, cv_uint64_uint8, ln_sl_weights_Code, fa_weights_Code_Bits, fa_weights_Code_Code, ln_sl_lightermanref08_C, fa_lightermanref08_C_Bits, fa_lightermanref08_C_Code, bneq_bool, e1, e3, n0, la]
  refine al_weights_Code fun w4 o4 x4 s4 => ?_
  refine sta_weights_Code o4 rfl (by simp [one]) (by simp) fun w5 o5 x5 s5 => ?_
  simp only [setAll, List.set_cons_zero, List.set_cons_succ] at o5
  have x35 : Ext w3 w5 nob := x4.new x5 (by omega)
  have lb := lda_weights_Code (off := (b % l.length) * 2) (oc.ext x35 (fun h => h)) (by omega)
  rw [hci _ hj] at lb
  simp (disch := omega) only [Stp, Same, stepR_value, stepR_skip, r_add, r_sub, r_mul, r_quo, r_rem, r_and, r_or, r_xor, r_andNot, r_shl, r_shr, r_eql, r_neq, r_lss, r_leq, r_gtr, r_geq, r_neg, r_cpl, r_not, r_pick, r_min, r_max, r_nil, x20, x21, x30, x31, x32, x40, x41, x42, x43, ldC_some, Result.ok.injEq, Next.value.injEq, true_and, and_true, w_i64, w_u64, w_i32, w_u32, w_u16, w_u8, Int.toNat_natCast, isB_tt, isB_tf, isB_ft, isB_ff, Gd_true, Gd_false, Gs_true, Gs_false, Cnd_true, Cnd_false, if_true, if_false, Bool.false_eq_true, Nat.zero_add, Option.isNone_some, Option.isNone_none, Bool.not_true, Bool.not_false, List.getElem?_cons_succ, List.getElem?_cons_zero, ln_sl_uint8, cv_int_uint, cv_int_uint8, ln_string, ia_sl_uint8, ld_uint8, cv_uint8_int, bd_weights_Code_0_1, ia_sl_weights_Code, bd_lightermanref08_C_, ix_string, bd_lightermanref08_C_0_1, ia_sl_lightermanref08_C, sl_sl_uint8_lo, sl_sl_uint8_hi, ln_sl_uint32, ia_sl_uint32, ld_uint32, cv_uint32_uint64, sl_sl_uint32_hi, ln_sl_int, ia_sl_int, ld_int, cv_uint_uint32, seql_sl_uint8, cv_uint32_uint8, cv_uint64_uint8, ln_sl_weights_Code, fa_weights_Code_Bits, fa_weights_Code_Code, ln_sl_lightermanref08_C, fa_lightermanref08_C_Bits, fa_lightermanref08_C_Code, bneq_bool, e2, e4, n0, lb]
  refine al_weights_Code fun w6 o6 x6 s6 => ?_
  refine sta_weights_Code o6 rfl (by simp [one]) (by simp) fun w7 o7 x7 s7 => ?_
  simp only [setAll, List.set_cons_zero, List.set_cons_succ] at o7
  have x57 : Ext w5 w7 nob := x6.new x7 (by omega)
  have x37 := x35.seq x57
  obtain ⟨f1, f2, f3⟩ := hfit _ hi
  have f4 := (hfit _ hj).2.2
  exact free_tail (hb2.ext x37 (inB_nob _)) (by omega) (by omega) ha hb (o5.ext x57 (fun h => h)) o7 hd11 f1 f2 f3 (by omega) hfree fun w' x => ⟨rfl, ((x1.seq x2).seq x37).seq x⟩
end Go.Proofs.Ytoepfjgekpdddaa
