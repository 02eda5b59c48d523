/- Contract: the law's examples. -/
import Derived.Test.YtoepfjgekpdddaaAT
import Derived.Test.YtoepfjgekpdddaaBW3
import Derived.Test.YtoepfjgekpdddaaMT
import Derived.Test.YtoepfjgekpdddaaQT
namespace Go.Proofs.Ytoepfjgekpdddaa
open Go Go.En Go.Pu
set_option maxRecDepth 4000
set_option linter.unusedSimpArgs false
set_option linter.unusedVariables false

theorem awake8_c (w : World) : Does pg F_law08_awake #[] w (fun r w' => r = .bool true ∧ Ext w w' nob) := by
  refine law08_awake_does ?_
  unfold law08_awake law08_awake_p5 law08_awake_p4
  refine bs_sl_uint8 (cells := #[.int .u8 1]) (by decide) (by decide) (by kernel_rfl) fun w1 o1 x1 s1 => ?_
  have hb1 : Bs w1 (.slice (some ⟨w.heap.size, 0, none⟩) 1 1) [1] := ⟨_, _, _, rfl, rfl, Nat.le_refl _, fun _ => ⟨_, _, rfl, fun i hi => by rw [o1.cell, Nat.zero_add]; rfl⟩⟩
  refine (whole_c hb1 (by decide)).mono ?_
  rintro r w2 ⟨hwo, x2⟩
  have hw1 : wholeN (nats [1]) = some 1 := by decide +kernel
  rw [hw1] at hwo
  obtain ⟨v2, rfl, o2⟩ := hwo
  have o2 : OSl w2 w1.heap.size 1 v2 2 [.int .u8 1, .int .u8 1] := o2
  obtain ⟨a2, c2, rfl⟩ := o2.len
  simp (disch := omega) only [Stp, Same, stepR_value, stepR_skip, r_add, r_sub, r_mul, r_quo, r_rem, r_and, r_or, r_xor, r_andNot, r_shl, r_shr, r_eql, r_neq, r_lss, r_leq, r_gtr, r_geq, r_neg, r_cpl, r_not, r_pick, r_min, r_max, r_nil, x20, x21, x30, x31, x32, x40, x41, x42, x43, ldC_some, Result.ok.injEq, Next.value.injEq, true_and, and_true, w_i64, w_u64, w_i32, w_u32, w_u16, w_u8, Int.toNat_natCast, isB_tt, isB_tf, isB_ft, isB_ff, Gd_true, Gd_false, Gs_true, Gs_false, Cnd_true, Cnd_false, if_true, if_false, Bool.false_eq_true, Nat.zero_add, Option.isNone_some, Option.isNone_none, Bool.not_true, Bool.not_false, List.getElem?_cons_succ, List.getElem?_cons_zero, ln_sl_uint8, cv_int_uint, cv_int_uint8, ln_string, ia_sl_uint8, ld_uint8, cv_uint8_int, bd_weights_Code_0_1, ia_sl_weights_Code, bd_lightermanref08_C_, ix_string, bd_lightermanref08_C_0_1, ia_sl_lightermanref08_C, sl_sl_uint8_lo, sl_sl_uint8_hi, ln_sl_uint32, ia_sl_uint32, ld_uint32, cv_uint32_uint64, sl_sl_uint32_hi, ln_sl_int, ia_sl_int, ld_int, cv_uint_uint32, seql_sl_uint8, cv_uint32_uint8, cv_uint64_uint8, ln_sl_weights_Code, fa_weights_Code_Bits, fa_weights_Code_Code]
  refine bs_sl_uint8 (cells := #[.int .u8 2, .int .u8 1, .int .u8 1]) (by decide) (by decide) (by kernel_rfl) fun w3 o3 x3 s3 => ?_
  have hb3 : Bs w3 (.slice (some ⟨w2.heap.size, 0, none⟩) 3 3) [2, 1, 1] := ⟨_, _, _, rfl, rfl, Nat.le_refl _, fun _ => ⟨_, _, rfl, fun i hi => by rw [o3.cell, Nat.zero_add]; rfl⟩⟩
  have hd2 : depthN (nats [2, 1, 1]) = 2 := by decide +kernel
  refine (codes_c hb3 hd2 (by decide)).mono ?_
  rintro r w4 ⟨b4, rfl, hb4, o4, x4⟩
  have hcd : cc (codesN (nats [2, 1, 1]) 2) = [.int .i64 1, .int .i64 1, .int .i64 2, .int .i64 0, .int .i64 2, .int .i64 1] := by
    have : codesN (nats [2, 1, 1]) 2 = [(1, 1), (2, 0), (2, 1)] := by decide +kernel
    rw [this]; rfl
  rw [hcd] at o4
  simp (disch := omega) only [Stp, Same, stepR_value, stepR_skip, r_add, r_sub, r_mul, r_quo, r_rem, r_and, r_or, r_xor, r_andNot, r_shl, r_shr, r_eql, r_neq, r_lss, r_leq, r_gtr, r_geq, r_neg, r_cpl, r_not, r_pick, r_min, r_max, r_nil, x20, x21, x30, x31, x32, x40, x41, x42, x43, ldC_some, Result.ok.injEq, Next.value.injEq, true_and, and_true, w_i64, w_u64, w_i32, w_u32, w_u16, w_u8, Int.toNat_natCast, isB_tt, isB_tf, isB_ft, isB_ff, Gd_true, Gd_false, Gs_true, Gs_false, Cnd_true, Cnd_false, if_true, if_false, Bool.false_eq_true, Nat.zero_add, Option.isNone_some, Option.isNone_none, Bool.not_true, Bool.not_false, List.getElem?_cons_succ, List.getElem?_cons_zero, ln_sl_uint8, cv_int_uint, cv_int_uint8, ln_string, ia_sl_uint8, ld_uint8, cv_uint8_int, bd_weights_Code_0_1, ia_sl_weights_Code, bd_lightermanref08_C_, ix_string, bd_lightermanref08_C_0_1, ia_sl_lightermanref08_C, sl_sl_uint8_lo, sl_sl_uint8_hi, ln_sl_uint32, ia_sl_uint32, ld_uint32, cv_uint32_uint64, sl_sl_uint32_hi, ln_sl_int, ia_sl_int, ld_int, cv_uint_uint32, seql_sl_uint8, cv_uint32_uint8, cv_uint64_uint8, ln_sl_weights_Code, fa_weights_Code_Bits, fa_weights_Code_Code]
  refine bs_sl_uint8 (cells := #[.int .u8 2, .int .u8 1, .int .u8 1]) (by decide) (by decide) (by kernel_rfl) fun w5 o5 x5 s5 => ?_
  have hb5 : Bs w5 (.slice (some ⟨w4.heap.size, 0, none⟩) 3 3) [2, 1, 1] := ⟨_, _, _, rfl, rfl, Nat.le_refl _, fun _ => ⟨_, _, rfl, fun i hi => by rw [o5.cell, Nat.zero_add]; rfl⟩⟩
  refine (wwrite_c hb5 hd2 (by decide) (by decide)).mono ?_
  rintro r w6 ⟨v6, rfl, o6, x6⟩
  have hwr : wrB (nats [2, 1, 1]) = [129, 33] := by decide +kernel
  rw [hwr] at o6
  have hb6 : Bs w6 v6 [129, 33] := o6.sl
  have o6 : OSl w6 w5.heap.size 1 v6 2 _ := o6
  obtain ⟨a6, c6, rfl⟩ := o6.len
  simp (disch := omega) only [Stp, Same, stepR_value, stepR_skip, r_add, r_sub, r_mul, r_quo, r_rem, r_and, r_or, r_xor, r_andNot, r_shl, r_shr, r_eql, r_neq, r_lss, r_leq, r_gtr, r_geq, r_neg, r_cpl, r_not, r_pick, r_min, r_max, r_nil, x20, x21, x30, x31, x32, x40, x41, x42, x43, ldC_some, Result.ok.injEq, Next.value.injEq, true_and, and_true, w_i64, w_u64, w_i32, w_u32, w_u16, w_u8, Int.toNat_natCast, isB_tt, isB_tf, isB_ft, isB_ff, Gd_true, Gd_false, Gs_true, Gs_false, Cnd_true, Cnd_false, if_true, if_false, Bool.false_eq_true, Nat.zero_add, Option.isNone_some, Option.isNone_none, Bool.not_true, Bool.not_false, List.getElem?_cons_succ, List.getElem?_cons_zero, ln_sl_uint8, cv_int_uint, cv_int_uint8, ln_string, ia_sl_uint8, ld_uint8, cv_uint8_int, bd_weights_Code_0_1, ia_sl_weights_Code, bd_lightermanref08_C_, ix_string, bd_lightermanref08_C_0_1, ia_sl_lightermanref08_C, sl_sl_uint8_lo, sl_sl_uint8_hi, ln_sl_uint32, ia_sl_uint32, ld_uint32, cv_uint32_uint64, sl_sl_uint32_hi, ln_sl_int, ia_sl_int, ld_int, cv_uint_uint32, seql_sl_uint8, cv_uint32_uint8, cv_uint64_uint8, ln_sl_weights_Code, fa_weights_Code_Bits, fa_weights_Code_Code]
  refine (readDirect_c (h := 129) (rest := [33]) hb6 rfl (by decide) (by decide) (by decide)).mono ?_
  rintro r w7 ⟨hdo, x7⟩
  unfold DirectOf at hdo
  rw [if_neg (by decide)] at hdo
  have hw7 : wholeN (halvesN (nats [33]) (129 - 127)) = some 1 := by decide +kernel
  have hh7 : byts (halvesN (nats [33]) (129 - 127)) ++ [UInt8.ofNat 1] = [2, 1, 1] := by decide +kernel
  rw [hw7] at hdo
  simp only [hh7] at hdo
  obtain ⟨v7, rfl, o7⟩ := hdo
  have o7 : OSl w7 w6.heap.size 1 v7 3 (([2, 1, 1] : List UInt8).map b2v) := o7
  have hb7 : Bs w7 v7 [2, 1, 1] := o7.sl
  obtain ⟨a7, c7, rfl⟩ := o7.len
  simp (disch := omega) only [Stp, Same, stepR_value, stepR_skip, r_add, r_sub, r_mul, r_quo, r_rem, r_and, r_or, r_xor, r_andNot, r_shl, r_shr, r_eql, r_neq, r_lss, r_leq, r_gtr, r_geq, r_neg, r_cpl, r_not, r_pick, r_min, r_max, r_nil, x20, x21, x30, x31, x32, x40, x41, x42, x43, ldC_some, Result.ok.injEq, Next.value.injEq, true_and, and_true, w_i64, w_u64, w_i32, w_u32, w_u16, w_u8, Int.toNat_natCast, isB_tt, isB_tf, isB_ft, isB_ff, Gd_true, Gd_false, Gs_true, Gs_false, Cnd_true, Cnd_false, if_true, if_false, Bool.false_eq_true, Nat.zero_add, Option.isNone_some, Option.isNone_none, Bool.not_true, Bool.not_false, List.getElem?_cons_succ, List.getElem?_cons_zero, ln_sl_uint8, cv_int_uint, cv_int_uint8, ln_string, ia_sl_uint8, ld_uint8, cv_uint8_int, bd_weights_Code_0_1, ia_sl_weights_Code, bd_lightermanref08_C_, ix_string, bd_lightermanref08_C_0_1, ia_sl_lightermanref08_C, sl_sl_uint8_lo, sl_sl_uint8_hi, ln_sl_uint32, ia_sl_uint32, ld_uint32, cv_uint32_uint64, sl_sl_uint32_hi, ln_sl_int, ia_sl_int, ld_int, cv_uint_uint32, seql_sl_uint8, cv_uint32_uint8, cv_uint64_uint8, ln_sl_weights_Code, fa_weights_Code_Bits, fa_weights_Code_Code]
  refine bs_sl_uint32 (cells := #[.int .u32 9, .int .u32 0, .int .u32 1]) (by decide) (by decide) (by kernel_rfl) fun w8 o8 x8 s8 => ?_
  have hs8 : Sl w8 (.slice (some ⟨w7.heap.size, 0, none⟩) 3 3) (u32s [9, 0, 1]) := ⟨_, _, _, rfl, rfl, Nat.le_refl _, fun _ => ⟨_, _, rfl, fun i hi => by rw [o8.cell, Nat.zero_add]; rfl⟩⟩
  refine (ofw_c hs8 (by decide) (by decide)).mono ?_
  rintro r w9 ⟨hof, x9⟩
  rcases hof with ⟨h, _⟩ | ⟨_, last, v9, wl, hla, _, _, _, _, _, rfl, o9⟩
  · exact absurd h (by decide)
  have hlast2 : last = 2 := hla.one (.inr ⟨by decide, by decide, fun j h1 h2 => by simp at h2; omega⟩)
  subst hlast2
  have o9 : OSl w9 w8.heap.size 1 v9 3 _ := o9
  obtain ⟨a9, c9, rfl⟩ := o9.len
  have x79 := x8.seq x9
  have x49 := ((x5.seq x6).seq x7).seq x79
  have x29 := (x3.seq x4).seq x49
  have o2e := o2.ext x29 (fun _ _ h => h)
  have o4e := o4.ext x49 (fun h => h)
  have hb7e := hb7.ext x79 (inB_nob _)
  obtain ⟨b2, off2, rfl, hcell2⟩ := slA o2e.sl (by decide)
  have g2 := hcell2 1 (by decide)
  have k0 := o4e.cell (off := 0)
  have k1 := o4e.cell (off := 1)
  have k5 := o4e.cell (off := 5)
  simp only [List.getElem?_cons_zero, List.getElem?_cons_succ] at g2 k0 k1 k5
  have hcv := cv_sl_uint8_string hb7e
  have hse : ((⟨([2, 1, 1] : List UInt8).toArray⟩ : ByteArray).toList == (⟨#[2, 1, 1]⟩ : ByteArray).toList) = true := by
    have : (⟨([2, 1, 1] : List UInt8).toArray⟩ : ByteArray) = ⟨#[2, 1, 1]⟩ := rfl
    rw [this]; exact str_same _
  have n1 : ((0 : Int) == 0) = true := rfl
  have n2 : (((2 : Nat) : Int) == 2) = true := rfl
  have n3 : (((3 : Nat) : Int) == 3) = true := rfl
  have n4 : ((1 : Int) == 1) = true := rfl
  have n5 : (((1 + (129 - 127 + 1) / 2 : Nat) : Int) == ((2 : Nat) : Int)) = true := rfl
  have n6 : ((([2, 1, 1] : List UInt8).length : Int) == 3) = true := rfl
  have hL3 : ([2, 1, 1] : List UInt8).length = 3 := rfl
  have t0 : (0 : Int).toNat = 0 := rfl
  have t1 : (1 : Int).toNat = 1 := rfl
  have t2 : (2 : Int).toNat = 2 := rfl
  simp (disch := omega) only [Stp, Same, stepR_value, stepR_skip, r_add, r_sub, r_mul, r_quo, r_rem, r_and, r_or, r_xor, r_andNot, r_shl, r_shr, r_eql, r_neq, r_lss, r_leq, r_gtr, r_geq, r_neg, r_cpl, r_not, r_pick, r_min, r_max, r_nil, x20, x21, x30, x31, x32, x40, x41, x42, x43, ldC_some, Result.ok.injEq, Next.value.injEq, true_and, and_true, w_i64, w_u64, w_i32, w_u32, w_u16, w_u8, Int.toNat_natCast, isB_tt, isB_tf, isB_ft, isB_ff, Gd_true, Gd_false, Gs_true, Gs_false, Cnd_true, Cnd_false, if_true, if_false, Bool.false_eq_true, Nat.zero_add, Option.isNone_some, Option.isNone_none, Bool.not_true, Bool.not_false, List.getElem?_cons_succ, List.getElem?_cons_zero, ln_sl_uint8, cv_int_uint, cv_int_uint8, ln_string, ia_sl_uint8, ld_uint8, cv_uint8_int, bd_weights_Code_0_1, ia_sl_weights_Code, bd_lightermanref08_C_, ix_string, bd_lightermanref08_C_0_1, ia_sl_lightermanref08_C, sl_sl_uint8_lo, sl_sl_uint8_hi, ln_sl_uint32, ia_sl_uint32, ld_uint32, cv_uint32_uint64, sl_sl_uint32_hi, ln_sl_int, ia_sl_int, ld_int, cv_uint_uint32, seql_sl_uint8, cv_uint32_uint8, cv_uint64_uint8, ln_sl_weights_Code, fa_weights_Code_Bits, fa_weights_Code_Code]
  unfold law08_awake_p3 law08_awake_p2
  simp (maxSteps := 4000000) (disch := omega) only [Stp, Same, stepR_value, stepR_skip, r_add, r_sub, r_mul, r_quo, r_rem, r_and, r_or, r_xor, r_andNot, r_shl, r_shr, r_eql, r_neq, r_lss, r_leq, r_gtr, r_geq, r_neg, r_cpl, r_not, r_pick, r_min, r_max, r_nil, x20, x21, x30, x31, x32, x40, x41, x42, x43, ldC_some, Result.ok.injEq, Next.value.injEq, true_and, and_true, w_i64, w_u64, w_i32, w_u32, w_u16, w_u8, Int.toNat_natCast, isB_tt, isB_tf, isB_ft, isB_ff, Gd_true, Gd_false, Gs_true, Gs_false, Cnd_true, Cnd_false, if_true, if_false, Bool.false_eq_true, Nat.zero_add, Option.isNone_some, Option.isNone_none, Bool.not_true, Bool.not_false, List.getElem?_cons_succ, List.getElem?_cons_zero, ln_sl_uint8, cv_int_uint, cv_int_uint8, ln_string, ia_sl_uint8, ld_uint8, cv_uint8_int, bd_weights_Code_0_1, ia_sl_weights_Code, bd_lightermanref08_C_, ix_string, bd_lightermanref08_C_0_1, ia_sl_lightermanref08_C, sl_sl_uint8_lo, sl_sl_uint8_hi, ln_sl_uint32, ia_sl_uint32, ld_uint32, cv_uint32_uint64, sl_sl_uint32_hi, ln_sl_int, ia_sl_int, ld_int, cv_uint_uint32, seql_sl_uint8, cv_uint32_uint8, cv_uint64_uint8, ln_sl_weights_Code, fa_weights_Code_Bits, fa_weights_Code_Code, hL3, g2, k0, k1, k5, hcv, r_seql, hse, n1, n2, n3, n4, n5, n6, t0, t1, t2]
  unfold law08_awake_p1
  exact ⟨rfl, (x1.seq x2).seq x29⟩
end Go.Proofs.Ytoepfjgekpdddaa
/- Contract: the law WeightsWhole. -/
namespace Go.Proofs.Ytoepfjgekpdddaa
open Go Go.En Go.Pu
set_option maxRecDepth 4000
set_option linter.unusedSimpArgs false
set_option linter.unusedVariables false

/-- codes at a slice -/
def CodesAt (w : World) (v : Value) (L : List (Nat × Nat)) : Prop :=
  ∃ (a : Option Addr) (c : Nat), v = .slice a L.length c ∧ (0 < L.length → ∃ b rest, a = some ⟨b, 0, none⟩ ∧ Own w b (cc L ++ rest))

theorem cc_cells {w : World} {b : Nat} {L : List (Nat × Nat)} {rest : List Value} (h : Own w b (cc L ++ rest)) {i : Nat} (hi : i < L.length) : w.cell? ⟨b, i * 2, none⟩ = some (.int .i64 (L[i].1 : Nat)) ∧ w.cell? ⟨b, i * 2 + 1, none⟩ = some (.int .i64 (L[i].2 : Nat)) := by
  have hg := cc_get hi
  have hl := cc_length L
  have g0 := h.cell (off := i * 2)
  have g1 := h.cell (off := i * 2 + 1)
  rw [List.getElem?_append_left (by omega)] at g0 g1
  rw [g0, g1]; exact hg

theorem CodesAt.of {w : World} {b c : Nat} {L : List (Nat × Nat)} {rest : List Value} (h : Own w b (cc L ++ rest)) : CodesAt w (.slice (some ⟨b, 0, none⟩) L.length c) L :=
  ⟨_, _, rfl, fun _ => ⟨b, rest, rfl, h⟩⟩

theorem CodesAt.nil (w : World) : CodesAt w (.slice none 0 0) [] := ⟨none, 0, rfl, fun h => absurd h (by simp)⟩

theorem CodesAt.ext {w w' : World} {v : Value} {L : List (Nat × Nat)} (h : CodesAt w v L) (x : Ext w w' nob) : CodesAt w' v L := by
  obtain ⟨a, c, rfl, hc⟩ := h
  refine ⟨a, c, rfl, fun h0 => ?_⟩
  obtain ⟨b, rest, e, o⟩ := hc h0
  exact ⟨b, rest, e, o.ext x (fun h => h)⟩

/-- both sides' codes -/
def codesOf (l : List UInt8) : List (Nat × Nat) := if depthN (nats l) = 0 then [] else codesN (nats l) (depthN (nats l))

theorem codes_any {v : Value} {l : List UInt8} {w : World} (h : Bs w v l) (hl : l.length ≤ 100000) :
    Does pg F_weights_Codes #[v] w (fun r w' => ∃ c, r = .tuple #[c, .int .i64 (if depthN (nats l) = 0 then 1 else 0)] ∧ CodesAt w' c (codesOf l) ∧ Ext w w' nob) := by
  unfold codesOf
  by_cases h0 : depthN (nats l) = 0
  · rw [if_pos h0, if_pos h0]
    refine (codes_bad h hl h0).mono ?_
    rintro r w' ⟨rfl, rfl⟩
    exact ⟨_, rfl, CodesAt.nil _, Ext.refl _ _⟩
  · rw [if_neg h0, if_neg h0]
    refine (codes_c h rfl h0).mono ?_
    rintro r w' ⟨b, rfl, _, o, x⟩
    have hL := codesN_length (nats l) (depthN (nats l))
    rw [nats_length] at hL
    refine ⟨_, rfl, ?_, x⟩
    have := CodesAt.of (c := l.length) (rest := []) (by rw [List.append_nil]; exact o)
    rw [hL] at this
    exact this

theorem refCodes_any {x : ByteArray} {w : World} (hl : x.size ≤ 100000) :
    Does pg F_ref08_Codes #[.string x] w (fun r w' => ∃ c, r = .tuple #[c, .int .i64 (if depthN (nats (lst x)) = 0 then 1 else 0)] ∧ CodesAt w' c (codesOf (lst x)) ∧ Ext w w' nob) := by
  unfold codesOf
  by_cases h0 : depthN (nats (lst x)) = 0
  · rw [if_pos h0, if_pos h0]
    refine (refCodes_bad hl h0).mono ?_
    rintro r w' ⟨rfl, rfl⟩
    exact ⟨_, rfl, CodesAt.nil _, Ext.refl _ _⟩
  · rw [if_neg h0, if_neg h0]
    refine (refCodes_c rfl h0).mono ?_
    rintro r w' ⟨b, cap, rest, rfl, o, xx⟩
    have hL := codesN_length (nats (lst x)) (depthN (nats (lst x)))
    rw [lst_size] at hL
    refine ⟨_, rfl, ?_, xx⟩
    have := CodesAt.of (c := cap) o
    rw [hL] at this
    exact this

theorem codesOf_len (l : List UInt8) : (codesOf l).length ≤ l.length := by
  unfold codesOf
  split
  · simp
  · rw [codesN_length, nats_length]; omega

/-- what Whole tells, at both sides -/
theorem whole_any {v : Value} {l : List UInt8} {w : World} (h : Bs w v l) (hl : l.length ≤ 100000) :
    Does pg F_weights_Whole #[v] w (fun r w' => ∃ a la e, r = .tuple #[a, .int .i64 e] ∧ Bs w' a la ∧ Ext w w' nob ∧ ((wholeN (nats l) = none ∧ la = [] ∧ e = 11) ∨ ∃ k, wholeN (nats l) = some k ∧ la = l ++ [UInt8.ofNat k] ∧ e = 0)) := by
  refine (whole_c h hl).mono ?_
  rintro r w' ⟨hr, x⟩
  unfold WholeOf at hr
  cases hw : wholeN (nats l) with
  | none =>
    rw [hw] at hr
    obtain rfl := hr
    exact ⟨_, [], 11, rfl, Sl.nil _, x, .inl ⟨rfl, rfl, rfl⟩⟩
  | some k =>
    rw [hw] at hr
    obtain ⟨v', rfl, o⟩ := hr
    exact ⟨_, _, 0, rfl, o.sl, x, .inr ⟨k, rfl, rfl, rfl⟩⟩

theorem weightsWhole_c {v : Value} {l : List UInt8} {w : World} (h : Bs w v l) (hl : l.length ≤ 9223372036854775807) :
    Does pg F_law08_WeightsWhole #[v] w (fun r w' => r = .bool true ∧ Ext w w' nob) := by
  refine law08_WeightsWhole_does ?_
  unfold law08_WeightsWhole law08_WeightsWhole_p9 law08_WeightsWhole_p8
  obtain ⟨a, n, c, hv, hn, hc, _⟩ := id h
  rw [List.length_map] at hn
  subst hn
  have hv' := hv
  subst hv'
  refine (awake8_c w).mono ?_
  rintro r w1 ⟨rfl, x1⟩
  by_cases h1 : 300 < l.length
  · have d1 : decide ((300 : Int) < (l.length : Int)) = true := by simp; omega
    simp (disch := omega) only [Stp, Same, stepR_value, stepR_skip, r_add, r_sub, r_mul, r_quo, r_rem, r_and, r_or, r_xor, r_andNot, r_shl, r_shr, r_eql, r_neq, r_lss, r_leq, r_gtr, r_geq, r_neg, r_cpl, r_not, r_pick, r_min, r_max, r_nil, x20, x21, x30, x31, x32, x40, x41, x42, x43, ldC_some, Result.ok.injEq, Next.value.injEq, true_and, and_true, w_i64, w_u64, w_i32, w_u32, w_u16, w_u8, Int.toNat_natCast, isB_tt, isB_tf, isB_ft, isB_ff, Gd_true, Gd_false, Gs_true, Gs_false, Cnd_true, Cnd_false, if_true, if_false, Bool.false_eq_true, Nat.zero_add, Option.isNone_some, Option.isNone_none, Bool.not_true, Bool.not_false, List.getElem?_cons_succ, List.getElem?_cons_zero, ln_sl_uint8, cv_int_uint, cv_int_uint8, ln_string, ia_sl_uint8, ld_uint8, cv_uint8_int, bd_weights_Code_0_1, ia_sl_weights_Code, bd_lightermanref08_C_, ix_string, bd_lightermanref08_C_0_1, ia_sl_lightermanref08_C, sl_sl_uint8_lo, sl_sl_uint8_hi, ln_sl_uint32, ia_sl_uint32, ld_uint32, cv_uint32_uint64, sl_sl_uint32_hi, ln_sl_int, ia_sl_int, ld_int, cv_uint_uint32, seql_sl_uint8, cv_uint32_uint8, cv_uint64_uint8, ln_sl_weights_Code, fa_weights_Code_Bits, fa_weights_Code_Code, ln_sl_lightermanref08_C, fa_lightermanref08_C_Bits, fa_lightermanref08_C_Code, d1]
    exact x1
  have d1 : decide ((300 : Int) < (l.length : Int)) = false := by simp; omega
  simp (disch := omega) only [Stp, Same, stepR_value, stepR_skip, r_add, r_sub, r_mul, r_quo, r_rem, r_and, r_or, r_xor, r_andNot, r_shl, r_shr, r_eql, r_neq, r_lss, r_leq, r_gtr, r_geq, r_neg, r_cpl, r_not, r_pick, r_min, r_max, r_nil, x20, x21, x30, x31, x32, x40, x41, x42, x43, ldC_some, Result.ok.injEq, Next.value.injEq, true_and, and_true, w_i64, w_u64, w_i32, w_u32, w_u16, w_u8, Int.toNat_natCast, isB_tt, isB_tf, isB_ft, isB_ff, Gd_true, Gd_false, Gs_true, Gs_false, Cnd_true, Cnd_false, if_true, if_false, Bool.false_eq_true, Nat.zero_add, Option.isNone_some, Option.isNone_none, Bool.not_true, Bool.not_false, List.getElem?_cons_succ, List.getElem?_cons_zero, ln_sl_uint8, cv_int_uint, cv_int_uint8, ln_string, ia_sl_uint8, ld_uint8, cv_uint8_int, bd_weights_Code_0_1, ia_sl_weights_Code, bd_lightermanref08_C_, ix_string, bd_lightermanref08_C_0_1, ia_sl_lightermanref08_C, sl_sl_uint8_lo, sl_sl_uint8_hi, ln_sl_uint32, ia_sl_uint32, ld_uint32, cv_uint32_uint64, sl_sl_uint32_hi, ln_sl_int, ia_sl_int, ld_int, cv_uint_uint32, seql_sl_uint8, cv_uint32_uint8, cv_uint64_uint8, ln_sl_weights_Code, fa_weights_Code_Bits, fa_weights_Code_Code, ln_sl_lightermanref08_C, fa_lightermanref08_C_Bits, fa_lightermanref08_C_Code, d1]
  have hb1 := h.ext x1 (inB_nob _)
  refine (whole_any hb1 (by omega)).mono ?_
  rintro r w2 ⟨va, la, e, rfl, hva, x2, hwh⟩
  have hb2 := hb1.ext x2 (inB_nob _)
  have hcv := cv_sl_uint8_string hb2
  simp (disch := omega) only [Stp, Same, stepR_value, stepR_skip, r_add, r_sub, r_mul, r_quo, r_rem, r_and, r_or, r_xor, r_andNot, r_shl, r_shr, r_eql, r_neq, r_lss, r_leq, r_gtr, r_geq, r_neg, r_cpl, r_not, r_pick, r_min, r_max, r_nil, x20, x21, x30, x31, x32, x40, x41, x42, x43, ldC_some, Result.ok.injEq, Next.value.injEq, true_and, and_true, w_i64, w_u64, w_i32, w_u32, w_u16, w_u8, Int.toNat_natCast, isB_tt, isB_tf, isB_ft, isB_ff, Gd_true, Gd_false, Gs_true, Gs_false, Cnd_true, Cnd_false, if_true, if_false, Bool.false_eq_true, Nat.zero_add, Option.isNone_some, Option.isNone_none, Bool.not_true, Bool.not_false, List.getElem?_cons_succ, List.getElem?_cons_zero, ln_sl_uint8, cv_int_uint, cv_int_uint8, ln_string, ia_sl_uint8, ld_uint8, cv_uint8_int, bd_weights_Code_0_1, ia_sl_weights_Code, bd_lightermanref08_C_, ix_string, bd_lightermanref08_C_0_1, ia_sl_lightermanref08_C, sl_sl_uint8_lo, sl_sl_uint8_hi, ln_sl_uint32, ia_sl_uint32, ld_uint32, cv_uint32_uint64, sl_sl_uint32_hi, ln_sl_int, ia_sl_int, ld_int, cv_uint_uint32, seql_sl_uint8, cv_uint32_uint8, cv_uint64_uint8, ln_sl_weights_Code, fa_weights_Code_Bits, fa_weights_Code_Code, ln_sl_lightermanref08_C, fa_lightermanref08_C_Bits, fa_lightermanref08_C_Code, hcv]
  have hl1 : lst (⟨l.toArray⟩ : ByteArray) = l := lst_mk l
  have hz1 : (⟨l.toArray⟩ : ByteArray).size = l.length := by rw [← lst_length, hl1]
  refine (refWhole_c (x := ⟨l.toArray⟩) (by omega)).mono ?_
  rintro r w3 ⟨hrw, x3⟩
  rw [hl1] at hrw
  obtain ⟨y, hy, rfl⟩ : ∃ y : ByteArray, y = ⟨la.toArray⟩ ∧ r = .tuple #[.string y, .int .i64 e] := by
    unfold RefWholeOf at hrw
    rcases hwh with ⟨e1, rfl, rfl⟩ | ⟨k, e1, rfl, rfl⟩
    · rw [e1] at hrw; exact ⟨_, rfl, hrw⟩
    · rw [e1] at hrw
      obtain ⟨y, hy, rfl⟩ := hrw
      exact ⟨_, lst_inj (by rw [hy, hl1]; rfl), rfl⟩
  have hb3 := hb2.ext x3 (inB_nob _)
  simp (disch := omega) only [Stp, Same, stepR_value, stepR_skip, r_add, r_sub, r_mul, r_quo, r_rem, r_and, r_or, r_xor, r_andNot, r_shl, r_shr, r_eql, r_neq, r_lss, r_leq, r_gtr, r_geq, r_neg, r_cpl, r_not, r_pick, r_min, r_max, r_nil, x20, x21, x30, x31, x32, x40, x41, x42, x43, ldC_some, Result.ok.injEq, Next.value.injEq, true_and, and_true, w_i64, w_u64, w_i32, w_u32, w_u16, w_u8, Int.toNat_natCast, isB_tt, isB_tf, isB_ft, isB_ff, Gd_true, Gd_false, Gs_true, Gs_false, Cnd_true, Cnd_false, if_true, if_false, Bool.false_eq_true, Nat.zero_add, Option.isNone_some, Option.isNone_none, Bool.not_true, Bool.not_false, List.getElem?_cons_succ, List.getElem?_cons_zero, ln_sl_uint8, cv_int_uint, cv_int_uint8, ln_string, ia_sl_uint8, ld_uint8, cv_uint8_int, bd_weights_Code_0_1, ia_sl_weights_Code, bd_lightermanref08_C_, ix_string, bd_lightermanref08_C_0_1, ia_sl_lightermanref08_C, sl_sl_uint8_lo, sl_sl_uint8_hi, ln_sl_uint32, ia_sl_uint32, ld_uint32, cv_uint32_uint64, sl_sl_uint32_hi, ln_sl_int, ia_sl_int, ld_int, cv_uint_uint32, seql_sl_uint8, cv_uint32_uint8, cv_uint64_uint8, ln_sl_weights_Code, fa_weights_Code_Bits, fa_weights_Code_Code, ln_sl_lightermanref08_C, fa_lightermanref08_C_Bits, fa_lightermanref08_C_Code]
  refine (codes_any hb3 (by omega)).mono ?_
  rintro r w4 ⟨cs, rfl, hcs, x4⟩
  have hcv4 := cv_sl_uint8_string (hb3.ext x4 (inB_nob _))
  simp (disch := omega) only [Stp, Same, stepR_value, stepR_skip, r_add, r_sub, r_mul, r_quo, r_rem, r_and, r_or, r_xor, r_andNot, r_shl, r_shr, r_eql, r_neq, r_lss, r_leq, r_gtr, r_geq, r_neg, r_cpl, r_not, r_pick, r_min, r_max, r_nil, x20, x21, x30, x31, x32, x40, x41, x42, x43, ldC_some, Result.ok.injEq, Next.value.injEq, true_and, and_true, w_i64, w_u64, w_i32, w_u32, w_u16, w_u8, Int.toNat_natCast, isB_tt, isB_tf, isB_ft, isB_ff, Gd_true, Gd_false, Gs_true, Gs_false, Cnd_true, Cnd_false, if_true, if_false, Bool.false_eq_true, Nat.zero_add, Option.isNone_some, Option.isNone_none, Bool.not_true, Bool.not_false, List.getElem?_cons_succ, List.getElem?_cons_zero, ln_sl_uint8, cv_int_uint, cv_int_uint8, ln_string, ia_sl_uint8, ld_uint8, cv_uint8_int, bd_weights_Code_0_1, ia_sl_weights_Code, bd_lightermanref08_C_, ix_string, bd_lightermanref08_C_0_1, ia_sl_lightermanref08_C, sl_sl_uint8_lo, sl_sl_uint8_hi, ln_sl_uint32, ia_sl_uint32, ld_uint32, cv_uint32_uint64, sl_sl_uint32_hi, ln_sl_int, ia_sl_int, ld_int, cv_uint_uint32, seql_sl_uint8, cv_uint32_uint8, cv_uint64_uint8, ln_sl_weights_Code, fa_weights_Code_Bits, fa_weights_Code_Code, ln_sl_lightermanref08_C, fa_lightermanref08_C_Bits, fa_lightermanref08_C_Code, hcv4]
  refine (refCodes_any (x := ⟨l.toArray⟩) (by omega)).mono ?_
  rintro r w5 ⟨ds, rfl, hds, x5⟩
  rw [hl1] at hds
  rw [hl1]
  have x25 := (x3.seq x4).seq x5
  have x05 := (x1.seq x2).seq x25
  have hva5 := hva.ext x25 (inB_nob _)
  have hcv5 := cv_sl_uint8_string hva5
  have hcs5 := hcs.ext x5
  obtain ⟨ac, cc1, rfl, hcc⟩ := hcs5
  obtain ⟨ad, cd1, rfl, hcd⟩ := hds
  have hse : ((⟨la.toArray⟩ : ByteArray).toList == y.toList) = true := by rw [hy]; exact str_same _
  have n1 : (e != e) = false := by simp
  have n2 : (((codesOf l).length : Int) != ((codesOf l).length : Int)) = false := by simp
  have hfe : ∀ f : Int, (f != f) = false := fun f => by simp
  have hcl := codesOf_len l
  generalize codesOf l = L at *
  generalize (if depthN (nats l) = 0 then (1 : Int) else 0) = f at *
  have n3 := hfe f
  simp (disch := omega) only [Stp, Same, stepR_value, stepR_skip, r_add, r_sub, r_mul, r_quo, r_rem, r_and, r_or, r_xor, r_andNot, r_shl, r_shr, r_eql, r_neq, r_lss, r_leq, r_gtr, r_geq, r_neg, r_cpl, r_not, r_pick, r_min, r_max, r_nil, x20, x21, x30, x31, x32, x40, x41, x42, x43, ldC_some, Result.ok.injEq, Next.value.injEq, true_and, and_true, w_i64, w_u64, w_i32, w_u32, w_u16, w_u8, Int.toNat_natCast, isB_tt, isB_tf, isB_ft, isB_ff, Gd_true, Gd_false, Gs_true, Gs_false, Cnd_true, Cnd_false, if_true, if_false, Bool.false_eq_true, Nat.zero_add, Option.isNone_some, Option.isNone_none, Bool.not_true, Bool.not_false, List.getElem?_cons_succ, List.getElem?_cons_zero, ln_sl_uint8, cv_int_uint, cv_int_uint8, ln_string, ia_sl_uint8, ld_uint8, cv_uint8_int, bd_weights_Code_0_1, ia_sl_weights_Code, bd_lightermanref08_C_, ix_string, bd_lightermanref08_C_0_1, ia_sl_lightermanref08_C, sl_sl_uint8_lo, sl_sl_uint8_hi, ln_sl_uint32, ia_sl_uint32, ld_uint32, cv_uint32_uint64, sl_sl_uint32_hi, ln_sl_int, ia_sl_int, ld_int, cv_uint_uint32, seql_sl_uint8, cv_uint32_uint8, cv_uint64_uint8, ln_sl_weights_Code, fa_weights_Code_Bits, fa_weights_Code_Code, ln_sl_lightermanref08_C, fa_lightermanref08_C_Bits, fa_lightermanref08_C_Code, hcv5, r_sneq, hse, n1, n2, n3]
  unfold law08_WeightsWhole_p7 law08_WeightsWhole_p6 law08_WeightsWhole_p5 law08_WeightsWhole_p4 law08_WeightsWhole_p3
  refine LoopD.rule (fun m (t : Value) w' => ∃ i : Nat, m = L.length - i ∧ t = .int .i64 i ∧ i ≤ L.length ∧ Ext w5 w' nob) L.length ⟨0, rfl, rfl, by omega, Ext.refl _ _⟩ ?_
  rintro m t w6 ⟨i, rfl, rfl, hi, x6⟩
  unfold law08_WeightsWhole_p2
  by_cases hlt : i < L.length
  · have d2 : decide ((i : Int) < (L.length : Int)) = true := by simp; omega
    have x6d : Ext w5 (dr w6) nob := x6.seq (Ext.dr _ _)
    obtain ⟨b1, rest1, rfl, o1⟩ := hcc (by omega)
    obtain ⟨b2, rest2, rfl, o2⟩ := hcd (by omega)
    obtain ⟨g0, g1⟩ := cc_cells (o1.ext x6d (fun h => h)) hlt
    obtain ⟨k0, k1⟩ := cc_cells (o2.ext x6d (fun h => h)) hlt
    have n4 := hfe (L[i].1 : Nat)
    have n5 := hfe (L[i].2 : Nat)
    generalize L[i].1 = p at *
    generalize L[i].2 = q at *
    simp (disch := omega) only [Stp, Same, stepR_value, stepR_skip, r_add, r_sub, r_mul, r_quo, r_rem, r_and, r_or, r_xor, r_andNot, r_shl, r_shr, r_eql, r_neq, r_lss, r_leq, r_gtr, r_geq, r_neg, r_cpl, r_not, r_pick, r_min, r_max, r_nil, x20, x21, x30, x31, x32, x40, x41, x42, x43, ldC_some, Result.ok.injEq, Next.value.injEq, true_and, and_true, w_i64, w_u64, w_i32, w_u32, w_u16, w_u8, Int.toNat_natCast, isB_tt, isB_tf, isB_ft, isB_ff, Gd_true, Gd_false, Gs_true, Gs_false, Cnd_true, Cnd_false, if_true, if_false, Bool.false_eq_true, Nat.zero_add, Option.isNone_some, Option.isNone_none, Bool.not_true, Bool.not_false, List.getElem?_cons_succ, List.getElem?_cons_zero, ln_sl_uint8, cv_int_uint, cv_int_uint8, ln_string, ia_sl_uint8, ld_uint8, cv_uint8_int, bd_weights_Code_0_1, ia_sl_weights_Code, bd_lightermanref08_C_, ix_string, bd_lightermanref08_C_0_1, ia_sl_lightermanref08_C, sl_sl_uint8_lo, sl_sl_uint8_hi, ln_sl_uint32, ia_sl_uint32, ld_uint32, cv_uint32_uint64, sl_sl_uint32_hi, ln_sl_int, ia_sl_int, ld_int, cv_uint_uint32, seql_sl_uint8, cv_uint32_uint8, cv_uint64_uint8, ln_sl_weights_Code, fa_weights_Code_Bits, fa_weights_Code_Code, ln_sl_lightermanref08_C, fa_lightermanref08_C_Bits, fa_lightermanref08_C_Code, d2, g0, g1, k0, k1, n4, n5]
    exact ⟨L.length - (i + 1), by omega, i + 1, rfl, rfl, by omega, x6d⟩
  · have d2 : decide ((i : Int) < (L.length : Int)) = false := by simp; omega
    unfold law08_WeightsWhole_p1
    rcases hwh with ⟨e1, rfl, rfl⟩ | ⟨k, e1, rfl, rfl⟩
    · have n6 : ((11 : Int) != 0) = true := rfl
      simp (disch := omega) only [Stp, Same, stepR_value, stepR_skip, r_add, r_sub, r_mul, r_quo, r_rem, r_and, r_or, r_xor, r_andNot, r_shl, r_shr, r_eql, r_neq, r_lss, r_leq, r_gtr, r_geq, r_neg, r_cpl, r_not, r_pick, r_min, r_max, r_nil, x20, x21, x30, x31, x32, x40, x41, x42, x43, ldC_some, Result.ok.injEq, Next.value.injEq, true_and, and_true, w_i64, w_u64, w_i32, w_u32, w_u16, w_u8, Int.toNat_natCast, isB_tt, isB_tf, isB_ft, isB_ff, Gd_true, Gd_false, Gs_true, Gs_false, Cnd_true, Cnd_false, if_true, if_false, Bool.false_eq_true, Nat.zero_add, Option.isNone_some, Option.isNone_none, Bool.not_true, Bool.not_false, List.getElem?_cons_succ, List.getElem?_cons_zero, ln_sl_uint8, cv_int_uint, cv_int_uint8, ln_string, ia_sl_uint8, ld_uint8, cv_uint8_int, bd_weights_Code_0_1, ia_sl_weights_Code, bd_lightermanref08_C_, ix_string, bd_lightermanref08_C_0_1, ia_sl_lightermanref08_C, sl_sl_uint8_lo, sl_sl_uint8_hi, ln_sl_uint32, ia_sl_uint32, ld_uint32, cv_uint32_uint64, sl_sl_uint32_hi, ln_sl_int, ia_sl_int, ld_int, cv_uint_uint32, seql_sl_uint8, cv_uint32_uint8, cv_uint64_uint8, ln_sl_weights_Code, fa_weights_Code_Bits, fa_weights_Code_Code, ln_sl_lightermanref08_C, fa_lightermanref08_C_Bits, fa_lightermanref08_C_Code, d2, n6]
      exact x05.seq x6
    · have n6 : ((0 : Int) != 0) = false := rfl
      have n7 : ((0 : Int) == 0) = true := rfl
      simp (disch := omega) only [Stp, Same, stepR_value, stepR_skip, r_add, r_sub, r_mul, r_quo, r_rem, r_and, r_or, r_xor, r_andNot, r_shl, r_shr, r_eql, r_neq, r_lss, r_leq, r_gtr, r_geq, r_neg, r_cpl, r_not, r_pick, r_min, r_max, r_nil, x20, x21, x30, x31, x32, x40, x41, x42, x43, ldC_some, Result.ok.injEq, Next.value.injEq, true_and, and_true, w_i64, w_u64, w_i32, w_u32, w_u16, w_u8, Int.toNat_natCast, isB_tt, isB_tf, isB_ft, isB_ff, Gd_true, Gd_false, Gs_true, Gs_false, Cnd_true, Cnd_false, if_true, if_false, Bool.false_eq_true, Nat.zero_add, Option.isNone_some, Option.isNone_none, Bool.not_true, Bool.not_false, List.getElem?_cons_succ, List.getElem?_cons_zero, ln_sl_uint8, cv_int_uint, cv_int_uint8, ln_string, ia_sl_uint8, ld_uint8, cv_uint8_int, bd_weights_Code_0_1, ia_sl_weights_Code, bd_lightermanref08_C_, ix_string, bd_lightermanref08_C_0_1, ia_sl_lightermanref08_C, sl_sl_uint8_lo, sl_sl_uint8_hi, ln_sl_uint32, ia_sl_uint32, ld_uint32, cv_uint32_uint64, sl_sl_uint32_hi, ln_sl_int, ia_sl_int, ld_int, cv_uint_uint32, seql_sl_uint8, cv_uint32_uint8, cv_uint64_uint8, ln_sl_weights_Code, fa_weights_Code_Bits, fa_weights_Code_Code, ln_sl_lightermanref08_C, fa_lightermanref08_C_Bits, fa_lightermanref08_C_Code, d2, n6]
      obtain ⟨hdep, hbl, hk1, hk11, _, _, _⟩ := wholeN_depth e1
      have hnk : nats (l ++ [UInt8.ofNat k]) = nats l ++ [k] := by
        show List.map _ (l ++ [UInt8.ofNat k]) = _
        rw [List.map_append, List.map_cons, List.map_nil, UInt8.toNat_ofNat_of_lt' (show k < 256 by omega)]
      refine (codes_c (d := bl (worthN (nats l))) (hva5.ext x6 (inB_nob _)) (by rw [hnk]; exact hdep) (by omega)).mono ?_
      rintro r w7 ⟨b7, rfl, _, _, x7⟩
      simp (disch := omega) only [Stp, Same, stepR_value, stepR_skip, r_add, r_sub, r_mul, r_quo, r_rem, r_and, r_or, r_xor, r_andNot, r_shl, r_shr, r_eql, r_neq, r_lss, r_leq, r_gtr, r_geq, r_neg, r_cpl, r_not, r_pick, r_min, r_max, r_nil, x20, x21, x30, x31, x32, x40, x41, x42, x43, ldC_some, Result.ok.injEq, Next.value.injEq, true_and, and_true, w_i64, w_u64, w_i32, w_u32, w_u16, w_u8, Int.toNat_natCast, isB_tt, isB_tf, isB_ft, isB_ff, Gd_true, Gd_false, Gs_true, Gs_false, Cnd_true, Cnd_false, if_true, if_false, Bool.false_eq_true, Nat.zero_add, Option.isNone_some, Option.isNone_none, Bool.not_true, Bool.not_false, List.getElem?_cons_succ, List.getElem?_cons_zero, ln_sl_uint8, cv_int_uint, cv_int_uint8, ln_string, ia_sl_uint8, ld_uint8, cv_uint8_int, bd_weights_Code_0_1, ia_sl_weights_Code, bd_lightermanref08_C_, ix_string, bd_lightermanref08_C_0_1, ia_sl_lightermanref08_C, sl_sl_uint8_lo, sl_sl_uint8_hi, ln_sl_uint32, ia_sl_uint32, ld_uint32, cv_uint32_uint64, sl_sl_uint32_hi, ln_sl_int, ia_sl_int, ld_int, cv_uint_uint32, seql_sl_uint8, cv_uint32_uint8, cv_uint64_uint8, ln_sl_weights_Code, fa_weights_Code_Bits, fa_weights_Code_Code, ln_sl_lightermanref08_C, fa_lightermanref08_C_Bits, fa_lightermanref08_C_Code, n7]
      exact (x05.seq x6).seq x7
end Go.Proofs.Ytoepfjgekpdddaa
/- Contract: the law WeightsLast. -/
namespace Go.Proofs.Ytoepfjgekpdddaa
open Go Go.En Go.Pu
set_option maxRecDepth 4000
set_option linter.unusedSimpArgs false
set_option linter.unusedVariables false

theorem nats_snoc (l : List UInt8) {k : Nat} (h : k < 256) : nats (l ++ [UInt8.ofNat k]) = nats l ++ [k] := by
  show List.map _ (l ++ [UInt8.ofNat k]) = _
  rw [List.map_append, List.map_cons, List.map_nil, UInt8.toNat_ofNat_of_lt' h]

theorem weightsLast_c {v : Value} {l : List UInt8} {o : Nat} {w : World} (h : Bs w v l) (hl : l.length ≤ 9223372036854775807) (ho : o < 256) :
    Does pg F_law08_WeightsLast #[v, .int .u8 o] w (fun r w' => r = .bool true ∧ Ext w w' nob) := by
  refine law08_WeightsLast_does ?_
  unfold law08_WeightsLast law08_WeightsLast_p1
  obtain ⟨a, n, c, hv, hn, hc, _⟩ := id h
  rw [List.length_map] at hn
  subst hn
  have hv' := hv
  subst hv'
  refine (awake8_c w).mono ?_
  rintro r w1 ⟨rfl, x1⟩
  by_cases h1 : 255 < l.length
  · have d1 : decide ((255 : Int) < (l.length : Int)) = true := by simp; omega
    simp (disch := omega) only [Stp, Same, stepR_value, stepR_skip, r_add, r_sub, r_mul, r_quo, r_rem, r_and, r_or, r_xor, r_andNot, r_shl, r_shr, r_eql, r_neq, r_lss, r_leq, r_gtr, r_geq, r_neg, r_cpl, r_not, r_pick, r_min, r_max, r_nil, x20, x21, x30, x31, x32, x40, x41, x42, x43, ldC_some, Result.ok.injEq, Next.value.injEq, true_and, and_true, w_i64, w_u64, w_i32, w_u32, w_u16, w_u8, Int.toNat_natCast, isB_tt, isB_tf, isB_ft, isB_ff, Gd_true, Gd_false, Gs_true, Gs_false, Cnd_true, Cnd_false, if_true, if_false, Bool.false_eq_true, Nat.zero_add, Option.isNone_some, Option.isNone_none, Bool.not_true, Bool.not_false, List.getElem?_cons_succ, List.getElem?_cons_zero, ln_sl_uint8, cv_int_uint, cv_int_uint8, ln_string, ia_sl_uint8, ld_uint8, cv_uint8_int, bd_weights_Code_0_1, ia_sl_weights_Code, bd_lightermanref08_C_, ix_string, bd_lightermanref08_C_0_1, ia_sl_lightermanref08_C, sl_sl_uint8_lo, sl_sl_uint8_hi, ln_sl_uint32, ia_sl_uint32, ld_uint32, cv_uint32_uint64, sl_sl_uint32_hi, ln_sl_int, ia_sl_int, ld_int, cv_uint_uint32, seql_sl_uint8, cv_uint32_uint8, cv_uint64_uint8, ln_sl_weights_Code, fa_weights_Code_Bits, fa_weights_Code_Code, ln_sl_lightermanref08_C, fa_lightermanref08_C_Bits, fa_lightermanref08_C_Code, bneq_bool, d1]
    exact x1
  have d1 : decide ((255 : Int) < (l.length : Int)) = false := by simp; omega
  simp (disch := omega) only [Stp, Same, stepR_value, stepR_skip, r_add, r_sub, r_mul, r_quo, r_rem, r_and, r_or, r_xor, r_andNot, r_shl, r_shr, r_eql, r_neq, r_lss, r_leq, r_gtr, r_geq, r_neg, r_cpl, r_not, r_pick, r_min, r_max, r_nil, x20, x21, x30, x31, x32, x40, x41, x42, x43, ldC_some, Result.ok.injEq, Next.value.injEq, true_and, and_true, w_i64, w_u64, w_i32, w_u32, w_u16, w_u8, Int.toNat_natCast, isB_tt, isB_tf, isB_ft, isB_ff, Gd_true, Gd_false, Gs_true, Gs_false, Cnd_true, Cnd_false, if_true, if_false, Bool.false_eq_true, Nat.zero_add, Option.isNone_some, Option.isNone_none, Bool.not_true, Bool.not_false, List.getElem?_cons_succ, List.getElem?_cons_zero, ln_sl_uint8, cv_int_uint, cv_int_uint8, ln_string, ia_sl_uint8, ld_uint8, cv_uint8_int, bd_weights_Code_0_1, ia_sl_weights_Code, bd_lightermanref08_C_, ix_string, bd_lightermanref08_C_0_1, ia_sl_lightermanref08_C, sl_sl_uint8_lo, sl_sl_uint8_hi, ln_sl_uint32, ia_sl_uint32, ld_uint32, cv_uint32_uint64, sl_sl_uint32_hi, ln_sl_int, ia_sl_int, ld_int, cv_uint_uint32, seql_sl_uint8, cv_uint32_uint8, cv_uint64_uint8, ln_sl_weights_Code, fa_weights_Code_Bits, fa_weights_Code_Code, ln_sl_lightermanref08_C, fa_lightermanref08_C_Bits, fa_lightermanref08_C_Code, bneq_bool, d1]
  have hb1 := h.ext x1 (inB_nob _)
  refine (whole_any hb1 (by omega)).mono ?_
  rintro r w2 ⟨va, la, e, rfl, hva, x2, hwh⟩
  obtain ⟨aa, ca, hva'⟩ := hva.len
  rw [List.length_map] at hva'
  obtain ⟨hva', hca⟩ := hva'
  subst hva'
  rcases hwh with ⟨e1, rfl, rfl⟩ | ⟨k, e1, rfl, rfl⟩
  · have n1 : ((11 : Int) != 0) = true := rfl
    have n2 : ((11 : Int) == 11) = true := rfl
    have n3 : ((([] : List UInt8).length : Int) == 0) = true := rfl
    simp (disch := omega) only [Stp, Same, stepR_value, stepR_skip, r_add, r_sub, r_mul, r_quo, r_rem, r_and, r_or, r_xor, r_andNot, r_shl, r_shr, r_eql, r_neq, r_lss, r_leq, r_gtr, r_geq, r_neg, r_cpl, r_not, r_pick, r_min, r_max, r_nil, x20, x21, x30, x31, x32, x40, x41, x42, x43, ldC_some, Result.ok.injEq, Next.value.injEq, true_and, and_true, w_i64, w_u64, w_i32, w_u32, w_u16, w_u8, Int.toNat_natCast, isB_tt, isB_tf, isB_ft, isB_ff, Gd_true, Gd_false, Gs_true, Gs_false, Cnd_true, Cnd_false, if_true, if_false, Bool.false_eq_true, Nat.zero_add, Option.isNone_some, Option.isNone_none, Bool.not_true, Bool.not_false, List.getElem?_cons_succ, List.getElem?_cons_zero, ln_sl_uint8, cv_int_uint, cv_int_uint8, ln_string, ia_sl_uint8, ld_uint8, cv_uint8_int, bd_weights_Code_0_1, ia_sl_weights_Code, bd_lightermanref08_C_, ix_string, bd_lightermanref08_C_0_1, ia_sl_lightermanref08_C, sl_sl_uint8_lo, sl_sl_uint8_hi, ln_sl_uint32, ia_sl_uint32, ld_uint32, cv_uint32_uint64, sl_sl_uint32_hi, ln_sl_int, ia_sl_int, ld_int, cv_uint_uint32, seql_sl_uint8, cv_uint32_uint8, cv_uint64_uint8, ln_sl_weights_Code, fa_weights_Code_Bits, fa_weights_Code_Code, ln_sl_lightermanref08_C, fa_lightermanref08_C_Bits, fa_lightermanref08_C_Code, bneq_bool, n1, n2, n3]
    exact x1.seq x2
  obtain ⟨hdep, hbl, hk1, hk11, hl255, hl1, huni⟩ := wholeN_depth e1
  have hnk := nats_snoc l (k := k) (by omega)
  have hb2 := hb1.ext x2 (inB_nob _)
  have hll : (l ++ [UInt8.ofNat k]).length = l.length + 1 := by simp
  rw [hll] at hva hca ⊢
  obtain ⟨x, hx⟩ : ∃ x, o % 11 + 1 = x := ⟨_, rfl⟩
  have hx12 : x < 12 := by omega
  have e2 : (o : Int).tmod 11 = ((o % 11 : Nat) : Int) := by rw [Int.tmod_eq_emod_of_nonneg (by omega)]; simp
  have e3 : IntKind.u8.wrap (((o % 11 : Nat) : Int)) = ((o % 11 : Nat) : Int) := w_u8 (by omega) (by omega)
  have e4 : IntKind.u8.wrap (((o % 11 : Nat) : Int) + 1) = (x : Int) := by rw [w_u8 (by omega) (by omega)]; omega
  have n1 : ((0 : Int) != 0) = false := rfl
  simp (disch := omega) only [Stp, Same, stepR_value, stepR_skip, r_add, r_sub, r_mul, r_quo, r_rem, r_and, r_or, r_xor, r_andNot, r_shl, r_shr, r_eql, r_neq, r_lss, r_leq, r_gtr, r_geq, r_neg, r_cpl, r_not, r_pick, r_min, r_max, r_nil, x20, x21, x30, x31, x32, x40, x41, x42, x43, ldC_some, Result.ok.injEq, Next.value.injEq, true_and, and_true, w_i64, w_u64, w_i32, w_u32, w_u16, w_u8, Int.toNat_natCast, isB_tt, isB_tf, isB_ft, isB_ff, Gd_true, Gd_false, Gs_true, Gs_false, Cnd_true, Cnd_false, if_true, if_false, Bool.false_eq_true, Nat.zero_add, Option.isNone_some, Option.isNone_none, Bool.not_true, Bool.not_false, List.getElem?_cons_succ, List.getElem?_cons_zero, ln_sl_uint8, cv_int_uint, cv_int_uint8, ln_string, ia_sl_uint8, ld_uint8, cv_uint8_int, bd_weights_Code_0_1, ia_sl_weights_Code, bd_lightermanref08_C_, ix_string, bd_lightermanref08_C_0_1, ia_sl_lightermanref08_C, sl_sl_uint8_lo, sl_sl_uint8_hi, ln_sl_uint32, ia_sl_uint32, ld_uint32, cv_uint32_uint64, sl_sl_uint32_hi, ln_sl_int, ia_sl_int, ld_int, cv_uint_uint32, seql_sl_uint8, cv_uint32_uint8, cv_uint64_uint8, ln_sl_weights_Code, fa_weights_Code_Bits, fa_weights_Code_Code, ln_sl_lightermanref08_C, fa_lightermanref08_C_Bits, fa_lightermanref08_C_Code, bneq_bool, n1, e2, e3, e4]
  have hcl2 := hb2.cl
  rw [List.length_map] at hcl2
  refine ap_sl_uint8_sl_uint8 (OSl.nil w2 w2.heap.size 1) hcl2 (bs_one _) (by omega) (by omega) fun v3 w3 o3 x3 => ?_
  refine bs_sl_uint8 (cells := #[.int .u8 x]) (by decide) (by decide) (by kernel_rfl) fun w4 o4 x4 s4 => ?_
  have z3 := x3.size
  have z4 := x4.size
  refine ap_sl_uint8_sl_uint8 (m := 1) (news := [.int .u8 x]) (o3.ext x4 (fun _ _ h => h)) (o4.cl (off := 0) (l := [.int .u8 x]) (n := 1) rfl (fun i hi => by rw [Nat.zero_add])) (by simp [one]) (by omega) (by omega) fun v5 w5 o5 x5 => ?_
  have x25' : Ext w2 w5 (fun y => w2.heap.size ≤ y) := (x3.seq (x4.mono fun _ _ h => h.elim)).seq x5
  have x25 : Ext w2 w5 nob := (Ext.refl w2 nob).trans x25' fun b hb h => by omega
  rw [List.nil_append, ← b2v_of (show x < 256 by omega), show l.map b2v ++ [b2v (UInt8.ofNat x)] = (l ++ [UInt8.ofNat x]).map b2v from by simp, Nat.zero_add] at o5
  have hb5 : Bs w5 v5 (l ++ [UInt8.ofNat x]) := o5.sl
  have hva5 := hva.ext x25 (inB_nob _)
  have hcva := cv_sl_uint8_string hva5
  have hcv5 := cv_sl_uint8_string hb5
  have hla : lst (⟨(l ++ [UInt8.ofNat k]).toArray⟩ : ByteArray) = l ++ [UInt8.ofNat k] := lst_mk _
  have hlx : lst (⟨(l ++ [UInt8.ofNat x]).toArray⟩ : ByteArray) = l ++ [UInt8.ofNat x] := lst_mk _
  have hza : (⟨(l ++ [UInt8.ofNat k]).toArray⟩ : ByteArray).size = l.length + 1 := by rw [← lst_length, hla]; simp
  have hzx : (⟨(l ++ [UInt8.ofNat x]).toArray⟩ : ByteArray).size = l.length + 1 := by rw [← lst_length, hlx]; simp
  simp (disch := omega) only [Stp, Same, stepR_value, stepR_skip, r_add, r_sub, r_mul, r_quo, r_rem, r_and, r_or, r_xor, r_andNot, r_shl, r_shr, r_eql, r_neq, r_lss, r_leq, r_gtr, r_geq, r_neg, r_cpl, r_not, r_pick, r_min, r_max, r_nil, x20, x21, x30, x31, x32, x40, x41, x42, x43, ldC_some, Result.ok.injEq, Next.value.injEq, true_and, and_true, w_i64, w_u64, w_i32, w_u32, w_u16, w_u8, Int.toNat_natCast, isB_tt, isB_tf, isB_ft, isB_ff, Gd_true, Gd_false, Gs_true, Gs_false, Cnd_true, Cnd_false, if_true, if_false, Bool.false_eq_true, Nat.zero_add, Option.isNone_some, Option.isNone_none, Bool.not_true, Bool.not_false, List.getElem?_cons_succ, List.getElem?_cons_zero, ln_sl_uint8, cv_int_uint, cv_int_uint8, ln_string, ia_sl_uint8, ld_uint8, cv_uint8_int, bd_weights_Code_0_1, ia_sl_weights_Code, bd_lightermanref08_C_, ix_string, bd_lightermanref08_C_0_1, ia_sl_lightermanref08_C, sl_sl_uint8_lo, sl_sl_uint8_hi, ln_sl_uint32, ia_sl_uint32, ld_uint32, cv_uint32_uint64, sl_sl_uint32_hi, ln_sl_int, ia_sl_int, ld_int, cv_uint_uint32, seql_sl_uint8, cv_uint32_uint8, cv_uint64_uint8, ln_sl_weights_Code, fa_weights_Code_Bits, fa_weights_Code_Code, ln_sl_lightermanref08_C, fa_lightermanref08_C_Bits, fa_lightermanref08_C_Code, bneq_bool, hcva]
  refine (refDepth_c (x := ⟨(l ++ [UInt8.ofNat k]).toArray⟩) (by omega)).mono ?_
  rintro r w6 ⟨rfl, rfl⟩
  simp (disch := omega) only [Stp, Same, stepR_value, stepR_skip, r_add, r_sub, r_mul, r_quo, r_rem, r_and, r_or, r_xor, r_andNot, r_shl, r_shr, r_eql, r_neq, r_lss, r_leq, r_gtr, r_geq, r_neg, r_cpl, r_not, r_pick, r_min, r_max, r_nil, x20, x21, x30, x31, x32, x40, x41, x42, x43, ldC_some, Result.ok.injEq, Next.value.injEq, true_and, and_true, w_i64, w_u64, w_i32, w_u32, w_u16, w_u8, Int.toNat_natCast, isB_tt, isB_tf, isB_ft, isB_ff, Gd_true, Gd_false, Gs_true, Gs_false, Cnd_true, Cnd_false, if_true, if_false, Bool.false_eq_true, Nat.zero_add, Option.isNone_some, Option.isNone_none, Bool.not_true, Bool.not_false, List.getElem?_cons_succ, List.getElem?_cons_zero, ln_sl_uint8, cv_int_uint, cv_int_uint8, ln_string, ia_sl_uint8, ld_uint8, cv_uint8_int, bd_weights_Code_0_1, ia_sl_weights_Code, bd_lightermanref08_C_, ix_string, bd_lightermanref08_C_0_1, ia_sl_lightermanref08_C, sl_sl_uint8_lo, sl_sl_uint8_hi, ln_sl_uint32, ia_sl_uint32, ld_uint32, cv_uint32_uint64, sl_sl_uint32_hi, ln_sl_int, ia_sl_int, ld_int, cv_uint_uint32, seql_sl_uint8, cv_uint32_uint8, cv_uint64_uint8, ln_sl_weights_Code, fa_weights_Code_Bits, fa_weights_Code_Code, ln_sl_lightermanref08_C, fa_lightermanref08_C_Bits, fa_lightermanref08_C_Code, bneq_bool, hcv5]
  refine (refDepth_c (x := ⟨(l ++ [UInt8.ofNat x]).toArray⟩) (by omega)).mono ?_
  rintro r w7 ⟨rfl, rfl⟩
  rw [hla, hlx, hnk, nats_snoc l (k := x) (by omega), hdep]
  have x7d : Ext w2 (dr w7) nob := x25.seq (Ext.dr _ _)
  have hvad := hva.ext x7d (inB_nob _)
  have hbd := hb2.ext x7d (inB_nob _)
  obtain ⟨bb, off, rfl, hcell⟩ := slA hvad (by omega)
  have g1 := hcell l.length (by omega)
  rw [List.map_append, List.getElem?_append_right (by simp), List.length_map, Nat.sub_self, List.map_cons, b2v_of (by omega), List.getElem?_cons_zero] at g1
  have hhd : Bs (dr w7) (.slice (shift? (some ⟨bb, off, none⟩) ca 0 1) (l.length - 0) (ca - 0)) l := by
    have := hvad.take' (k := l.length) (by omega)
    rw [List.map_append, List.take_left' (by simp)] at this
    exact this
  have hcvh := cv_sl_uint8_string hhd
  have hcvl := cv_sl_uint8_string hbd
  have hse : ((⟨l.toArray⟩ : ByteArray).toList == (⟨l.toArray⟩ : ByteArray).toList) = true := str_same _
  have n2 : (((l.length + 1 : Nat) : Int) == (l.length : Int) + 1) = true := by simp
  have d2 : decide ((0 : Int) < ((bl (worthN (nats l)) : Nat) : Int)) = true := by simp; omega
  have t0 : (l.length : Int).toNat = l.length := by omega
  have hux := huni x
  generalize bl (worthN (nats l)) = d at *
  by_cases hxk : x = k
  · subst hxk
    have n3 : ((x : Int) == (x : Int)) = true := by simp
    simp (disch := omega) only [Stp, Same, stepR_value, stepR_skip, r_add, r_sub, r_mul, r_quo, r_rem, r_and, r_or, r_xor, r_andNot, r_shl, r_shr, r_eql, r_neq, r_lss, r_leq, r_gtr, r_geq, r_neg, r_cpl, r_not, r_pick, r_min, r_max, r_nil, x20, x21, x30, x31, x32, x40, x41, x42, x43, ldC_some, Result.ok.injEq, Next.value.injEq, true_and, and_true, w_i64, w_u64, w_i32, w_u32, w_u16, w_u8, Int.toNat_natCast, isB_tt, isB_tf, isB_ft, isB_ff, Gd_true, Gd_false, Gs_true, Gs_false, Cnd_true, Cnd_false, if_true, if_false, Bool.false_eq_true, Nat.zero_add, Option.isNone_some, Option.isNone_none, Bool.not_true, Bool.not_false, List.getElem?_cons_succ, List.getElem?_cons_zero, ln_sl_uint8, cv_int_uint, cv_int_uint8, ln_string, ia_sl_uint8, ld_uint8, cv_uint8_int, bd_weights_Code_0_1, ia_sl_weights_Code, bd_lightermanref08_C_, ix_string, bd_lightermanref08_C_0_1, ia_sl_lightermanref08_C, sl_sl_uint8_lo, sl_sl_uint8_hi, ln_sl_uint32, ia_sl_uint32, ld_uint32, cv_uint32_uint64, sl_sl_uint32_hi, ln_sl_int, ia_sl_int, ld_int, cv_uint_uint32, seql_sl_uint8, cv_uint32_uint8, cv_uint64_uint8, ln_sl_weights_Code, fa_weights_Code_Bits, fa_weights_Code_Code, ln_sl_lightermanref08_C, fa_lightermanref08_C_Bits, fa_lightermanref08_C_Code, bneq_bool, n2, d2, hcvh, hcvl, r_seql, hse, g1, n3, t0]
    exact (x1.seq x2).seq x7d
  · have n3 : ((x : Int) == (k : Int)) = false := beq_eq_false_iff_ne.2 (by omega)
    have n4 : (((depthN (nats l ++ [x]) : Nat) : Int) != (d : Int)) = true := by
      have : depthN (nats l ++ [x]) ≠ d := fun h => hxk (hux h)
      simp; omega
    simp (disch := omega) only [Stp, Same, stepR_value, stepR_skip, r_add, r_sub, r_mul, r_quo, r_rem, r_and, r_or, r_xor, r_andNot, r_shl, r_shr, r_eql, r_neq, r_lss, r_leq, r_gtr, r_geq, r_neg, r_cpl, r_not, r_pick, r_min, r_max, r_nil, x20, x21, x30, x31, x32, x40, x41, x42, x43, ldC_some, Result.ok.injEq, Next.value.injEq, true_and, and_true, w_i64, w_u64, w_i32, w_u32, w_u16, w_u8, Int.toNat_natCast, isB_tt, isB_tf, isB_ft, isB_ff, Gd_true, Gd_false, Gs_true, Gs_false, Cnd_true, Cnd_false, if_true, if_false, Bool.false_eq_true, Nat.zero_add, Option.isNone_some, Option.isNone_none, Bool.not_true, Bool.not_false, List.getElem?_cons_succ, List.getElem?_cons_zero, ln_sl_uint8, cv_int_uint, cv_int_uint8, ln_string, ia_sl_uint8, ld_uint8, cv_uint8_int, bd_weights_Code_0_1, ia_sl_weights_Code, bd_lightermanref08_C_, ix_string, bd_lightermanref08_C_0_1, ia_sl_lightermanref08_C, sl_sl_uint8_lo, sl_sl_uint8_hi, ln_sl_uint32, ia_sl_uint32, ld_uint32, cv_uint32_uint64, sl_sl_uint32_hi, ln_sl_int, ia_sl_int, ld_int, cv_uint_uint32, seql_sl_uint8, cv_uint32_uint8, cv_uint64_uint8, ln_sl_weights_Code, fa_weights_Code_Bits, fa_weights_Code_Code, ln_sl_lightermanref08_C, fa_lightermanref08_C_Bits, fa_lightermanref08_C_Code, bneq_bool, n2, d2, hcvh, hcvl, r_seql, hse, g1, n3, n4, t0]
    exact (x1.seq x2).seq x7d
end Go.Proofs.Ytoepfjgekpdddaa
