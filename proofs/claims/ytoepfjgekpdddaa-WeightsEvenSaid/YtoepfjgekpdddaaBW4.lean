/- Contract: the law's examples. -/
import Derived.Test.YtoepfjgekpdddaaAT
import Derived.Test.YtoepfjgekpdddaaBW3
import Derived.Test.YtoepfjgekpdddaaMT
import Derived.Test.YtoepfjgekpdddaaRT
namespace Go.Proofs.Ytoepfjgekpdddaa
open Go Go.En Go.Pu
set_option maxRecDepth 4000
set_option linter.unusedSimpArgs false
set_option linter.unusedVariables false

theorem awake8_c (w : World) : Does pg F_law08_awake #[] w (fun r w' => r = .bool true ∧ Ext w w' nob) := by
  refine law08_awake_does ?_
  unfold law08_awake law08_awake_p5 law08_awake_p4
  refine bs_sl_uint8 (cells := #[.int .u8 1]) (by decide) (by decide) (by kernel_rfl) fun w1 o1 x1 s1 => ?_
  have hb1 : Bs w1 (.slice (some ⟨w.heap.size, 0, none⟩) 1 1) [1] := ⟨_, _, _, rfl, rfl, Nat.le_refl _, fun _ => ⟨_, _, rfl, fun i hi => by rw [o1.cell, Nat.zero_add]; rfl⟩⟩
  refine (whole_c hb1 (by decide)).mono ?_
  rintro r w2 ⟨hwo, x2⟩
  have hw1 : wholeN (nats [1]) = some 1 := by decide +kernel
  rw [hw1] at hwo
  obtain ⟨v2, rfl, o2⟩ := hwo
  have o2 : OSl w2 w1.heap.size 1 v2 2 [.int .u8 1, .int .u8 1] := o2
  obtain ⟨a2, c2, rfl⟩ := o2.len
  simp (disch := omega) only [Stp, Same, stepR_value, stepR_skip, r_add, r_sub, r_mul, r_quo, r_rem, r_and, r_or, r_xor, r_andNot, r_shl, r_shr, r_eql, r_neq, r_lss, r_leq, r_gtr, r_geq, r_neg, r_cpl, r_not, r_pick, r_min, r_max, r_nil, x20, x21, x30, x31, x32, x40, x41, x42, x43, ldC_some, Result.ok.injEq, Next.value.injEq, true_and, and_true, w_i64, w_u64, w_i32, w_u32, w_u16, w_u8, Int.toNat_natCast, isB_tt, isB_tf, isB_ft, isB_ff, Gd_true, Gd_false, Gs_true, Gs_false, Cnd_true, Cnd_false, if_true, if_false, Bool.false_eq_true, Nat.zero_add, Option.isNone_some, Option.isNone_none, Bool.not_true, Bool.not_false, List.getElem?_cons_succ, List.getElem?_cons_zero, ln_sl_uint8, cv_int_uint, cv_int_uint8, ln_string, ia_sl_uint8, ld_uint8, cv_uint8_int, bd_weights_Code_0_1, ia_sl_weights_Code, bd_lightermanref08_C_, ix_string, bd_lightermanref08_C_0_1, ia_sl_lightermanref08_C, sl_sl_uint8_lo, sl_sl_uint8_hi, ln_sl_uint32, ia_sl_uint32, ld_uint32, cv_uint32_uint64, sl_sl_uint32_hi, ln_sl_int, ia_sl_int, ld_int, cv_uint_uint32, seql_sl_uint8, cv_uint32_uint8, cv_uint64_uint8, ln_sl_weights_Code, fa_weights_Code_Bits, fa_weights_Code_Code]
  refine bs_sl_uint8 (cells := #[.int .u8 2, .int .u8 1, .int .u8 1]) (by decide) (by decide) (by kernel_rfl) fun w3 o3 x3 s3 => ?_
  have hb3 : Bs w3 (.slice (some ⟨w2.heap.size, 0, none⟩) 3 3) [2, 1, 1] := ⟨_, _, _, rfl, rfl, Nat.le_refl _, fun _ => ⟨_, _, rfl, fun i hi => by rw [o3.cell, Nat.zero_add]; rfl⟩⟩
  have hd2 : depthN (nats [2, 1, 1]) = 2 := by decide +kernel
  refine (codes_c hb3 hd2 (by decide)).mono ?_
  rintro r w4 ⟨b4, rfl, hb4, o4, x4⟩
  have hcd : cc (codesN (nats [2, 1, 1]) 2) = [.int .i64 1, .int .i64 1, .int .i64 2, .int .i64 0, .int .i64 2, .int .i64 1] := by
    have : codesN (nats [2, 1, 1]) 2 = [(1, 1), (2, 0), (2, 1)] := by decide +kernel
    rw [this]; rfl
  rw [hcd] at o4
  simp (disch := omega) only [Stp, Same, stepR_value, stepR_skip, r_add, r_sub, r_mul, r_quo, r_rem, r_and, r_or, r_xor, r_andNot, r_shl, r_shr, r_eql, r_neq, r_lss, r_leq, r_gtr, r_geq, r_neg, r_cpl, r_not, r_pick, r_min, r_max, r_nil, x20, x21, x30, x31, x32, x40, x41, x42, x43, ldC_some, Result.ok.injEq, Next.value.injEq, true_and, and_true, w_i64, w_u64, w_i32, w_u32, w_u16, w_u8, Int.toNat_natCast, isB_tt, isB_tf, isB_ft, isB_ff, Gd_true, Gd_false, Gs_true, Gs_false, Cnd_true, Cnd_false, if_true, if_false, Bool.false_eq_true, Nat.zero_add, Option.isNone_some, Option.isNone_none, Bool.not_true, Bool.not_false, List.getElem?_cons_succ, List.getElem?_cons_zero, ln_sl_uint8, cv_int_uint, cv_int_uint8, ln_string, ia_sl_uint8, ld_uint8, cv_uint8_int, bd_weights_Code_0_1, ia_sl_weights_Code, bd_lightermanref08_C_, ix_string, bd_lightermanref08_C_0_1, ia_sl_lightermanref08_C, sl_sl_uint8_lo, sl_sl_uint8_hi, ln_sl_uint32, ia_sl_uint32, ld_uint32, cv_uint32_uint64, sl_sl_uint32_hi, ln_sl_int, ia_sl_int, ld_int, cv_uint_uint32, seql_sl_uint8, cv_uint32_uint8, cv_uint64_uint8, ln_sl_weights_Code, fa_weights_Code_Bits, fa_weights_Code_Code]
  refine bs_sl_uint8 (cells := #[.int .u8 2, .int .u8 1, .int .u8 1]) (by decide) (by decide) (by kernel_rfl) fun w5 o5 x5 s5 => ?_
  have hb5 : Bs w5 (.slice (some ⟨w4.heap.size, 0, none⟩) 3 3) [2, 1, 1] := ⟨_, _, _, rfl, rfl, Nat.le_refl _, fun _ => ⟨_, _, rfl, fun i hi => by rw [o5.cell, Nat.zero_add]; rfl⟩⟩
  refine (wwrite_c hb5 hd2 (by decide) (by decide)).mono ?_
  rintro r w6 ⟨v6, rfl, o6, x6⟩
  have hwr : wrB (nats [2, 1, 1]) = [129, 33] := by decide +kernel
  rw [hwr] at o6
  have hb6 : Bs w6 v6 [129, 33] := o6.sl
  have o6 : OSl w6 w5.heap.size 1 v6 2 _ := o6
  obtain ⟨a6, c6, rfl⟩ := o6.len
  simp (disch := omega) only [Stp, Same, stepR_value, stepR_skip, r_add, r_sub, r_mul, r_quo, r_rem, r_and, r_or, r_xor, r_andNot, r_shl, r_shr, r_eql, r_neq, r_lss, r_leq, r_gtr, r_geq, r_neg, r_cpl, r_not, r_pick, r_min, r_max, r_nil, x20, x21, x30, x31, x32, x40, x41, x42, x43, ldC_some, Result.ok.injEq, Next.value.injEq, true_and, and_true, w_i64, w_u64, w_i32, w_u32, w_u16, w_u8, Int.toNat_natCast, isB_tt, isB_tf, isB_ft, isB_ff, Gd_true, Gd_false, Gs_true, Gs_false, Cnd_true, Cnd_false, if_true, if_false, Bool.false_eq_true, Nat.zero_add, Option.isNone_some, Option.isNone_none, Bool.not_true, Bool.not_false, List.getElem?_cons_succ, List.getElem?_cons_zero, ln_sl_uint8, cv_int_uint, cv_int_uint8, ln_string, ia_sl_uint8, ld_uint8, cv_uint8_int, bd_weights_Code_0_1, ia_sl_weights_Code, bd_lightermanref08_C_, ix_string, bd_lightermanref08_C_0_1, ia_sl_lightermanref08_C, sl_sl_uint8_lo, sl_sl_uint8_hi, ln_sl_uint32, ia_sl_uint32, ld_uint32, cv_uint32_uint64, sl_sl_uint32_hi, ln_sl_int, ia_sl_int, ld_int, cv_uint_uint32, seql_sl_uint8, cv_uint32_uint8, cv_uint64_uint8, ln_sl_weights_Code, fa_weights_Code_Bits, fa_weights_Code_Code]
  refine (readDirect_c (h := 129) (rest := [33]) hb6 rfl (by decide) (by decide) (by decide)).mono ?_
  rintro r w7 ⟨hdo, x7⟩
  unfold DirectOf at hdo
  rw [if_neg (by decide)] at hdo
  have hw7 : wholeN (halvesN (nats [33]) (129 - 127)) = some 1 := by decide +kernel
  have hh7 : byts (halvesN (nats [33]) (129 - 127)) ++ [UInt8.ofNat 1] = [2, 1, 1] := by decide +kernel
  rw [hw7] at hdo
  simp only [hh7] at hdo
  obtain ⟨v7, rfl, o7⟩ := hdo
  have o7 : OSl w7 w6.heap.size 1 v7 3 (([2, 1, 1] : List UInt8).map b2v) := o7
  have hb7 : Bs w7 v7 [2, 1, 1] := o7.sl
  obtain ⟨a7, c7, rfl⟩ := o7.len
  simp (disch := omega) only [Stp, Same, stepR_value, stepR_skip, r_add, r_sub, r_mul, r_quo, r_rem, r_and, r_or, r_xor, r_andNot, r_shl, r_shr, r_eql, r_neq, r_lss, r_leq, r_gtr, r_geq, r_neg, r_cpl, r_not, r_pick, r_min, r_max, r_nil, x20, x21, x30, x31, x32, x40, x41, x42, x43, ldC_some, Result.ok.injEq, Next.value.injEq, true_and, and_true, w_i64, w_u64, w_i32, w_u32, w_u16, w_u8, Int.toNat_natCast, isB_tt, isB_tf, isB_ft, isB_ff, Gd_true, Gd_false, Gs_true, Gs_false, Cnd_true, Cnd_false, if_true, if_false, Bool.false_eq_true, Nat.zero_add, Option.isNone_some, Option.isNone_none, Bool.not_true, Bool.not_false, List.getElem?_cons_succ, List.getElem?_cons_zero, ln_sl_uint8, cv_int_uint, cv_int_uint8, ln_string, ia_sl_uint8, ld_uint8, cv_uint8_int, bd_weights_Code_0_1, ia_sl_weights_Code, bd_lightermanref08_C_, ix_string, bd_lightermanref08_C_0_1, ia_sl_lightermanref08_C, sl_sl_uint8_lo, sl_sl_uint8_hi, ln_sl_uint32, ia_sl_uint32, ld_uint32, cv_uint32_uint64, sl_sl_uint32_hi, ln_sl_int, ia_sl_int, ld_int, cv_uint_uint32, seql_sl_uint8, cv_uint32_uint8, cv_uint64_uint8, ln_sl_weights_Code, fa_weights_Code_Bits, fa_weights_Code_Code]
  refine bs_sl_uint32 (cells := #[.int .u32 9, .int .u32 0, .int .u32 1]) (by decide) (by decide) (by kernel_rfl) fun w8 o8 x8 s8 => ?_
  have hs8 : Sl w8 (.slice (some ⟨w7.heap.size, 0, none⟩) 3 3) (u32s [9, 0, 1]) := ⟨_, _, _, rfl, rfl, Nat.le_refl _, fun _ => ⟨_, _, rfl, fun i hi => by rw [o8.cell, Nat.zero_add]; rfl⟩⟩
  refine (ofw_c hs8 (by decide) (by decide)).mono ?_
  rintro r w9 ⟨hof, x9⟩
  rcases hof with ⟨h, _⟩ | ⟨_, last, v9, wl, hla, _, _, _, _, _, rfl, o9⟩
  · exact absurd h (by decide)
  have hlast2 : last = 2 := hla.one (.inr ⟨by decide, by decide, fun j h1 h2 => by simp at h2; omega⟩)
  subst hlast2
  have o9 : OSl w9 w8.heap.size 1 v9 3 _ := o9
  obtain ⟨a9, c9, rfl⟩ := o9.len
  have x79 := x8.seq x9
  have x49 := ((x5.seq x6).seq x7).seq x79
  have x29 := (x3.seq x4).seq x49
  have o2e := o2.ext x29 (fun _ _ h => h)
  have o4e := o4.ext x49 (fun h => h)
  have hb7e := hb7.ext x79 (inB_nob _)
  obtain ⟨b2, off2, rfl, hcell2⟩ := slA o2e.sl (by decide)
  have g2 := hcell2 1 (by decide)
  have k0 := o4e.cell (off := 0)
  have k1 := o4e.cell (off := 1)
  have k5 := o4e.cell (off := 5)
  simp only [List.getElem?_cons_zero, List.getElem?_cons_succ] at g2 k0 k1 k5
  have hcv := cv_sl_uint8_string hb7e
  have hse : ((⟨([2, 1, 1] : List UInt8).toArray⟩ : ByteArray).toList == (⟨#[2, 1, 1]⟩ : ByteArray).toList) = true := by
    have : (⟨([2, 1, 1] : List UInt8).toArray⟩ : ByteArray) = ⟨#[2, 1, 1]⟩ := rfl
    rw [this]; exact str_same _
  have n1 : ((0 : Int) == 0) = true := rfl
  have n2 : (((2 : Nat) : Int) == 2) = true := rfl
  have n3 : (((3 : Nat) : Int) == 3) = true := rfl
  have n4 : ((1 : Int) == 1) = true := rfl
  have n5 : (((1 + (129 - 127 + 1) / 2 : Nat) : Int) == ((2 : Nat) : Int)) = true := rfl
  have n6 : ((([2, 1, 1] : List UInt8).length : Int) == 3) = true := rfl
  have hL3 : ([2, 1, 1] : List UInt8).length = 3 := rfl
  have t0 : (0 : Int).toNat = 0 := rfl
  have t1 : (1 : Int).toNat = 1 := rfl
  have t2 : (2 : Int).toNat = 2 := rfl
  simp (disch := omega) only [Stp, Same, stepR_value, stepR_skip, r_add, r_sub, r_mul, r_quo, r_rem, r_and, r_or, r_xor, r_andNot, r_shl, r_shr, r_eql, r_neq, r_lss, r_leq, r_gtr, r_geq, r_neg, r_cpl, r_not, r_pick, r_min, r_max, r_nil, x20, x21, x30, x31, x32, x40, x41, x42, x43, ldC_some, Result.ok.injEq, Next.value.injEq, true_and, and_true, w_i64, w_u64, w_i32, w_u32, w_u16, w_u8, Int.toNat_natCast, isB_tt, isB_tf, isB_ft, isB_ff, Gd_true, Gd_false, Gs_true, Gs_false, Cnd_true, Cnd_false, if_true, if_false, Bool.false_eq_true, Nat.zero_add, Option.isNone_some, Option.isNone_none, Bool.not_true, Bool.not_false, List.getElem?_cons_succ, List.getElem?_cons_zero, ln_sl_uint8, cv_int_uint, cv_int_uint8, ln_string, ia_sl_uint8, ld_uint8, cv_uint8_int, bd_weights_Code_0_1, ia_sl_weights_Code, bd_lightermanref08_C_, ix_string, bd_lightermanref08_C_0_1, ia_sl_lightermanref08_C, sl_sl_uint8_lo, sl_sl_uint8_hi, ln_sl_uint32, ia_sl_uint32, ld_uint32, cv_uint32_uint64, sl_sl_uint32_hi, ln_sl_int, ia_sl_int, ld_int, cv_uint_uint32, seql_sl_uint8, cv_uint32_uint8, cv_uint64_uint8, ln_sl_weights_Code, fa_weights_Code_Bits, fa_weights_Code_Code]
  unfold law08_awake_p3 law08_awake_p2
  simp (maxSteps := 4000000) (disch := omega) only [Stp, Same, stepR_value, stepR_skip, r_add, r_sub, r_mul, r_quo, r_rem, r_and, r_or, r_xor, r_andNot, r_shl, r_shr, r_eql, r_neq, r_lss, r_leq, r_gtr, r_geq, r_neg, r_cpl, r_not, r_pick, r_min, r_max, r_nil, x20, x21, x30, x31, x32, x40, x41, x42, x43, ldC_some, Result.ok.injEq, Next.value.injEq, true_and, and_true, w_i64, w_u64, w_i32, w_u32, w_u16, w_u8, Int.toNat_natCast, isB_tt, isB_tf, isB_ft, isB_ff, Gd_true, Gd_false, Gs_true, Gs_false, Cnd_true, Cnd_false, if_true, if_false, Bool.false_eq_true, Nat.zero_add, Option.isNone_some, Option.isNone_none, Bool.not_true, Bool.not_false, List.getElem?_cons_succ, List.getElem?_cons_zero, ln_sl_uint8, cv_int_uint, cv_int_uint8, ln_string, ia_sl_uint8, ld_uint8, cv_uint8_int, bd_weights_Code_0_1, ia_sl_weights_Code, bd_lightermanref08_C_, ix_string, bd_lightermanref08_C_0_1, ia_sl_lightermanref08_C, sl_sl_uint8_lo, sl_sl_uint8_hi, ln_sl_uint32, ia_sl_uint32, ld_uint32, cv_uint32_uint64, sl_sl_uint32_hi, ln_sl_int, ia_sl_int, ld_int, cv_uint_uint32, seql_sl_uint8, cv_uint32_uint8, cv_uint64_uint8, ln_sl_weights_Code, fa_weights_Code_Bits, fa_weights_Code_Code, hL3, g2, k0, k1, k5, hcv, r_seql, hse, n1, n2, n3, n4, n5, n6, t0, t1, t2]
  unfold law08_awake_p1
  exact ⟨rfl, (x1.seq x2).seq x29⟩
end Go.Proofs.Ytoepfjgekpdddaa
/- Contract: the law WeightsWhole. -/
namespace Go.Proofs.Ytoepfjgekpdddaa
open Go Go.En Go.Pu
set_option maxRecDepth 4000
set_option linter.unusedSimpArgs false
set_option linter.unusedVariables false

/-- codes at a slice -/
def CodesAt (w : World) (v : Value) (L : List (Nat × Nat)) : Prop :=
  ∃ (a : Option Addr) (c : Nat), v = .slice a L.length c ∧ (0 < L.length → ∃ b rest, a = some ⟨b, 0, none⟩ ∧ Own w b (cc L ++ rest))

theorem cc_cells {w : World} {b : Nat} {L : List (Nat × Nat)} {rest : List Value} (h : Own w b (cc L ++ rest)) {i : Nat} (hi : i < L.length) : w.cell? ⟨b, i * 2, none⟩ = some (.int .i64 (L[i].1 : Nat)) ∧ w.cell? ⟨b, i * 2 + 1, none⟩ = some (.int .i64 (L[i].2 : Nat)) := by
  have hg := cc_get hi
  have hl := cc_length L
  have g0 := h.cell (off := i * 2)
  have g1 := h.cell (off := i * 2 + 1)
  rw [List.getElem?_append_left (by omega)] at g0 g1
  rw [g0, g1]; exact hg

theorem CodesAt.of {w : World} {b c : Nat} {L : List (Nat × Nat)} {rest : List Value} (h : Own w b (cc L ++ rest)) : CodesAt w (.slice (some ⟨b, 0, none⟩) L.length c) L :=
  ⟨_, _, rfl, fun _ => ⟨b, rest, rfl, h⟩⟩

theorem CodesAt.nil (w : World) : CodesAt w (.slice none 0 0) [] := ⟨none, 0, rfl, fun h => absurd h (by simp)⟩

theorem CodesAt.ext {w w' : World} {v : Value} {L : List (Nat × Nat)} (h : CodesAt w v L) (x : Ext w w' nob) : CodesAt w' v L := by
  obtain ⟨a, c, rfl, hc⟩ := h
  refine ⟨a, c, rfl, fun h0 => ?_⟩
  obtain ⟨b, rest, e, o⟩ := hc h0
  exact ⟨b, rest, e, o.ext x (fun h => h)⟩

/-- both sides' codes -/
def codesOf (l : List UInt8) : List (Nat × Nat) := if depthN (nats l) = 0 then [] else codesN (nats l) (depthN (nats l))

theorem codes_any {v : Value} {l : List UInt8} {w : World} (h : Bs w v l) (hl : l.length ≤ 100000) :
    Does pg F_weights_Codes #[v] w (fun r w' => ∃ c, r = .tuple #[c, .int .i64 (if depthN (nats l) = 0 then 1 else 0)] ∧ CodesAt w' c (codesOf l) ∧ Ext w w' nob) := by
  unfold codesOf
  by_cases h0 : depthN (nats l) = 0
  · rw [if_pos h0, if_pos h0]
    refine (codes_bad h hl h0).mono ?_
    rintro r w' ⟨rfl, rfl⟩
    exact ⟨_, rfl, CodesAt.nil _, Ext.refl _ _⟩
  · rw [if_neg h0, if_neg h0]
    refine (codes_c h rfl h0).mono ?_
    rintro r w' ⟨b, rfl, _, o, x⟩
    have hL := codesN_length (nats l) (depthN (nats l))
    rw [nats_length] at hL
    refine ⟨_, rfl, ?_, x⟩
    have := CodesAt.of (c := l.length) (rest := []) (by rw [List.append_nil]; exact o)
    rw [hL] at this
    exact this

theorem refCodes_any {x : ByteArray} {w : World} (hl : x.size ≤ 100000) :
    Does pg F_ref08_Codes #[.string x] w (fun r w' => ∃ c, r = .tuple #[c, .int .i64 (if depthN (nats (lst x)) = 0 then 1 else 0)] ∧ CodesAt w' c (codesOf (lst x)) ∧ Ext w w' nob) := by
  unfold codesOf
  by_cases h0 : depthN (nats (lst x)) = 0
  · rw [if_pos h0, if_pos h0]
    refine (refCodes_bad hl h0).mono ?_
    rintro r w' ⟨rfl, rfl⟩
    exact ⟨_, rfl, CodesAt.nil _, Ext.refl _ _⟩
  · rw [if_neg h0, if_neg h0]
    refine (refCodes_c rfl h0).mono ?_
    rintro r w' ⟨b, cap, rest, rfl, o, xx⟩
    have hL := codesN_length (nats (lst x)) (depthN (nats (lst x)))
    rw [lst_size] at hL
    refine ⟨_, rfl, ?_, xx⟩
    have := CodesAt.of (c := cap) o
    rw [hL] at this
    exact this

theorem codesOf_len (l : List UInt8) : (codesOf l).length ≤ l.length := by
  unfold codesOf
  split
  · simp
  · rw [codesN_length, nats_length]; omega

/-- what Whole tells, at both sides -/
theorem whole_any {v : Value} {l : List UInt8} {w : World} (h : Bs w v l) (hl : l.length ≤ 100000) :
    Does pg F_weights_Whole #[v] w (fun r w' => ∃ a la e, r = .tuple #[a, .int .i64 e] ∧ Bs w' a la ∧ Ext w w' nob ∧ ((wholeN (nats l) = none ∧ la = [] ∧ e = 11) ∨ ∃ k, wholeN (nats l) = some k ∧ la = l ++ [UInt8.ofNat k] ∧ e = 0)) := by
  refine (whole_c h hl).mono ?_
  rintro r w' ⟨hr, x⟩
  unfold WholeOf at hr
  cases hw : wholeN (nats l) with
  | none =>
    rw [hw] at hr
    obtain rfl := hr
    exact ⟨_, [], 11, rfl, Sl.nil _, x, .inl ⟨rfl, rfl, rfl⟩⟩
  | some k =>
    rw [hw] at hr
    obtain ⟨v', rfl, o⟩ := hr
    exact ⟨_, _, 0, rfl, o.sl, x, .inr ⟨k, rfl, rfl, rfl⟩⟩

theorem weightsWhole_c {v : Value} {l : List UInt8} {w : World} (h : Bs w v l) (hl : l.length ≤ 9223372036854775807) :
    Does pg F_law08_WeightsWhole #[v] w (fun r w' => r = .bool true ∧ Ext w w' nob) := by
  refine law08_WeightsWhole_does ?_
  unfold law08_WeightsWhole law08_WeightsWhole_p9 law08_WeightsWhole_p8
  obtain ⟨a, n, c, hv, hn, hc, _⟩ := id h
  rw [List.length_map] at hn
  subst hn
  have hv' := hv
  subst hv'
  refine (awake8_c w).mono ?_
  rintro r w1 ⟨rfl, x1⟩
  by_cases h1 : 300 < l.length
  · have d1 : decide ((300 : Int) < (l.length : Int)) = true := by simp; omega
    simp (disch := omega) only [Stp, Same, stepR_value, stepR_skip, r_add, r_sub, r_mul, r_quo, r_rem, r_and, r_or, r_xor, r_andNot, r_shl, r_shr, r_eql, r_neq, r_lss, r_leq, r_gtr, r_geq, r_neg, r_cpl, r_not, r_pick, r_min, r_max, r_nil, x20, x21, x30, x31, x32, x40, x41, x42, x43, ldC_some, Result.ok.injEq, Next.value.injEq, true_and, and_true, w_i64, w_u64, w_i32, w_u32, w_u16, w_u8, Int.toNat_natCast, isB_tt, isB_tf, isB_ft, isB_ff, Gd_true, Gd_false, Gs_true, Gs_false, Cnd_true, Cnd_false, if_true, if_false, Bool.false_eq_true, Nat.zero_add, Option.isNone_some, Option.isNone_none, Bool.not_true, Bool.not_false, List.getElem?_cons_succ, List.getElem?_cons_zero, ln_sl_uint8, cv_int_uint, cv_int_uint8, ln_string, ia_sl_uint8, ld_uint8, cv_uint8_int, bd_weights_Code_0_1, ia_sl_weights_Code, bd_lightermanref08_C_, ix_string, bd_lightermanref08_C_0_1, ia_sl_lightermanref08_C, sl_sl_uint8_lo, sl_sl_uint8_hi, ln_sl_uint32, ia_sl_uint32, ld_uint32, cv_uint32_uint64, sl_sl_uint32_hi, ln_sl_int, ia_sl_int, ld_int, cv_uint_uint32, seql_sl_uint8, cv_uint32_uint8, cv_uint64_uint8, ln_sl_weights_Code, fa_weights_Code_Bits, fa_weights_Code_Code, ln_sl_lightermanref08_C, fa_lightermanref08_C_Bits, fa_lightermanref08_C_Code, d1]
    exact x1
  have d1 : decide ((300 : Int) < (l.length : Int)) = false := by simp; omega
  simp (disch := omega) only [Stp, Same, stepR_value, stepR_skip, r_add, r_sub, r_mul, r_quo, r_rem, r_and, r_or, r_xor, r_andNot, r_shl, r_shr, r_eql, r_neq, r_lss, r_leq, r_gtr, r_geq, r_neg, r_cpl, r_not, r_pick, r_min, r_max, r_nil, x20, x21, x30, x31, x32, x40, x41, x42, x43, ldC_some, Result.ok.injEq, Next.value.injEq, true_and, and_true, w_i64, w_u64, w_i32, w_u32, w_u16, w_u8, Int.toNat_natCast, isB_tt, isB_tf, isB_ft, isB_ff, Gd_true, Gd_false, Gs_true, Gs_false, Cnd_true, Cnd_false, if_true, if_false, Bool.false_eq_true, Nat.zero_add, Option.isNone_some, Option.isNone_none, Bool.not_true, Bool.not_false, List.getElem?_cons_succ, List.getElem?_cons_zero, ln_sl_uint8, cv_int_uint, cv_int_uint8, ln_string, ia_sl_uint8, ld_uint8, cv_uint8_int, bd_weights_Code_0_1, ia_sl_weights_Code, bd_lightermanref08_C_, ix_string, bd_lightermanref08_C_0_1, ia_sl_lightermanref08_C, sl_sl_uint8_lo, sl_sl_uint8_hi, ln_sl_uint32, ia_sl_uint32, ld_uint32, cv_uint32_uint64, sl_sl_uint32_hi, ln_sl_int, ia_sl_int, ld_int, cv_uint_uint32, seql_sl_uint8, cv_uint32_uint8, cv_uint64_uint8, ln_sl_weights_Code, fa_weights_Code_Bits, fa_weights_Code_Code, ln_sl_lightermanref08_C, fa_lightermanref08_C_Bits, fa_lightermanref08_C_Code, d1]
  have hb1 := h.ext x1 (inB_nob _)
  refine (whole_any hb1 (by omega)).mono ?_
  rintro r w2 ⟨va, la, e, rfl, hva, x2, hwh⟩
  have hb2 := hb1.ext x2 (inB_nob _)
  have hcv := cv_sl_uint8_string hb2
  simp (disch := omega) only [Stp, Same, stepR_value, stepR_skip, r_add, r_sub, r_mul, r_quo, r_rem, r_and, r_or, r_xor, r_andNot, r_shl, r_shr, r_eql, r_neq, r_lss, r_leq, r_gtr, r_geq, r_neg, r_cpl, r_not, r_pick, r_min, r_max, r_nil, x20, x21, x30, x31, x32, x40, x41, x42, x43, ldC_some, Result.ok.injEq, Next.value.injEq, true_and, and_true, w_i64, w_u64, w_i32, w_u32, w_u16, w_u8, Int.toNat_natCast, isB_tt, isB_tf, isB_ft, isB_ff, Gd_true, Gd_false, Gs_true, Gs_false, Cnd_true, Cnd_false, if_true, if_false, Bool.false_eq_true, Nat.zero_add, Option.isNone_some, Option.isNone_none, Bool.not_true, Bool.not_false, List.getElem?_cons_succ, List.getElem?_cons_zero, ln_sl_uint8, cv_int_uint, cv_int_uint8, ln_string, ia_sl_uint8, ld_uint8, cv_uint8_int, bd_weights_Code_0_1, ia_sl_weights_Code, bd_lightermanref08_C_, ix_string, bd_lightermanref08_C_0_1, ia_sl_lightermanref08_C, sl_sl_uint8_lo, sl_sl_uint8_hi, ln_sl_uint32, ia_sl_uint32, ld_uint32, cv_uint32_uint64, sl_sl_uint32_hi, ln_sl_int, ia_sl_int, ld_int, cv_uint_uint32, seql_sl_uint8, cv_uint32_uint8, cv_uint64_uint8, ln_sl_weights_Code, fa_weights_Code_Bits, fa_weights_Code_Code, ln_sl_lightermanref08_C, fa_lightermanref08_C_Bits, fa_lightermanref08_C_Code, hcv]
  have hl1 : lst (⟨l.toArray⟩ : ByteArray) = l := lst_mk l
  have hz1 : (⟨l.toArray⟩ : ByteArray).size = l.length := by rw [← lst_length, hl1]
  refine (refWhole_c (x := ⟨l.toArray⟩) (by omega)).mono ?_
  rintro r w3 ⟨hrw, x3⟩
  rw [hl1] at hrw
  obtain ⟨y, hy, rfl⟩ : ∃ y : ByteArray, y = ⟨la.toArray⟩ ∧ r = .tuple #[.string y, .int .i64 e] := by
    unfold RefWholeOf at hrw
    rcases hwh with ⟨e1, rfl, rfl⟩ | ⟨k, e1, rfl, rfl⟩
    · rw [e1] at hrw; exact ⟨_, rfl, hrw⟩
    · rw [e1] at hrw
      obtain ⟨y, hy, rfl⟩ := hrw
      exact ⟨_, lst_inj (by rw [hy, hl1]; rfl), rfl⟩
  have hb3 := hb2.ext x3 (inB_nob _)
  simp (disch := omega) only [Stp, Same, stepR_value, stepR_skip, r_add, r_sub, r_mul, r_quo, r_rem, r_and, r_or, r_xor, r_andNot, r_shl, r_shr, r_eql, r_neq, r_lss, r_leq, r_gtr, r_geq, r_neg, r_cpl, r_not, r_pick, r_min, r_max, r_nil, x20, x21, x30, x31, x32, x40, x41, x42, x43, ldC_some, Result.ok.injEq, Next.value.injEq, true_and, and_true, w_i64, w_u64, w_i32, w_u32, w_u16, w_u8, Int.toNat_natCast, isB_tt, isB_tf, isB_ft, isB_ff, Gd_true, Gd_false, Gs_true, Gs_false, Cnd_true, Cnd_false, if_true, if_false, Bool.false_eq_true, Nat.zero_add, Option.isNone_some, Option.isNone_none, Bool.not_true, Bool.not_false, List.getElem?_cons_succ, List.getElem?_cons_zero, ln_sl_uint8, cv_int_uint, cv_int_uint8, ln_string, ia_sl_uint8, ld_uint8, cv_uint8_int, bd_weights_Code_0_1, ia_sl_weights_Code, bd_lightermanref08_C_, ix_string, bd_lightermanref08_C_0_1, ia_sl_lightermanref08_C, sl_sl_uint8_lo, sl_sl_uint8_hi, ln_sl_uint32, ia_sl_uint32, ld_uint32, cv_uint32_uint64, sl_sl_uint32_hi, ln_sl_int, ia_sl_int, ld_int, cv_uint_uint32, seql_sl_uint8, cv_uint32_uint8, cv_uint64_uint8, ln_sl_weights_Code, fa_weights_Code_Bits, fa_weights_Code_Code, ln_sl_lightermanref08_C, fa_lightermanref08_C_Bits, fa_lightermanref08_C_Code]
  refine (codes_any hb3 (by omega)).mono ?_
  rintro r w4 ⟨cs, rfl, hcs, x4⟩
  have hcv4 := cv_sl_uint8_string (hb3.ext x4 (inB_nob _))
  simp (disch := omega) only [Stp, Same, stepR_value, stepR_skip, r_add, r_sub, r_mul, r_quo, r_rem, r_and, r_or, r_xor, r_andNot, r_shl, r_shr, r_eql, r_neq, r_lss, r_leq, r_gtr, r_geq, r_neg, r_cpl, r_not, r_pick, r_min, r_max, r_nil, x20, x21, x30, x31, x32, x40, x41, x42, x43, ldC_some, Result.ok.injEq, Next.value.injEq, true_and, and_true, w_i64, w_u64, w_i32, w_u32, w_u16, w_u8, Int.toNat_natCast, isB_tt, isB_tf, isB_ft, isB_ff, Gd_true, Gd_false, Gs_true, Gs_false, Cnd_true, Cnd_false, if_true, if_false, Bool.false_eq_true, Nat.zero_add, Option.isNone_some, Option.isNone_none, Bool.not_true, Bool.not_false, List.getElem?_cons_succ, List.getElem?_cons_zero, ln_sl_uint8, cv_int_uint, cv_int_uint8, ln_string, ia_sl_uint8, ld_uint8, cv_uint8_int, bd_weights_Code_0_1, ia_sl_weights_Code, bd_lightermanref08_C_, ix_string, bd_lightermanref08_C_0_1, ia_sl_lightermanref08_C, sl_sl_uint8_lo, sl_sl_uint8_hi, ln_sl_uint32, ia_sl_uint32, ld_uint32, cv_uint32_uint64, sl_sl_uint32_hi, ln_sl_int, ia_sl_int, ld_int, cv_uint_uint32, seql_sl_uint8, cv_uint32_uint8, cv_uint64_uint8, ln_sl_weights_Code, fa_weights_Code_Bits, fa_weights_Code_Code, ln_sl_lightermanref08_C, fa_lightermanref08_C_Bits, fa_lightermanref08_C_Code, hcv4]
  refine (refCodes_any (x := ⟨l.toArray⟩) (by omega)).mono ?_
  rintro r w5 ⟨ds, rfl, hds, x5⟩
  rw [hl1] at hds
  rw [hl1]
  have x25 := (x3.seq x4).seq x5
  have x05 := (x1.seq x2).seq x25
  have hva5 := hva.ext x25 (inB_nob _)
  have hcv5 := cv_sl_uint8_string hva5
  have hcs5 := hcs.ext x5
  obtain ⟨ac, cc1, rfl, hcc⟩ := hcs5
  obtain ⟨ad, cd1, rfl, hcd⟩ := hds
  have hse : ((⟨la.toArray⟩ : ByteArray).toList == y.toList) = true := by rw [hy]; exact str_same _
  have n1 : (e != e) = false := by simp
  have n2 : (((codesOf l).length : Int) != ((codesOf l).length : Int)) = false := by simp
  have hfe : ∀ f : Int, (f != f) = false := fun f => by simp
  have hcl := codesOf_len l
  generalize codesOf l = L at *
  generalize (if depthN (nats l) = 0 then (1 : Int) else 0) = f at *
  have n3 := hfe f
  simp (disch := omega) only [Stp, Same, stepR_value, stepR_skip, r_add, r_sub, r_mul, r_quo, r_rem, r_and, r_or, r_xor, r_andNot, r_shl, r_shr, r_eql, r_neq, r_lss, r_leq, r_gtr, r_geq, r_neg, r_cpl, r_not, r_pick, r_min, r_max, r_nil, x20, x21, x30, x31, x32, x40, x41, x42, x43, ldC_some, Result.ok.injEq, Next.value.injEq, true_and, and_true, w_i64, w_u64, w_i32, w_u32, w_u16, w_u8, Int.toNat_natCast, isB_tt, isB_tf, isB_ft, isB_ff, Gd_true, Gd_false, Gs_true, Gs_false, Cnd_true, Cnd_false, if_true, if_false, Bool.false_eq_true, Nat.zero_add, Option.isNone_some, Option.isNone_none, Bool.not_true, Bool.not_false, List.getElem?_cons_succ, List.getElem?_cons_zero, ln_sl_uint8, cv_int_uint, cv_int_uint8, ln_string, ia_sl_uint8, ld_uint8, cv_uint8_int, bd_weights_Code_0_1, ia_sl_weights_Code, bd_lightermanref08_C_, ix_string, bd_lightermanref08_C_0_1, ia_sl_lightermanref08_C, sl_sl_uint8_lo, sl_sl_uint8_hi, ln_sl_uint32, ia_sl_uint32, ld_uint32, cv_uint32_uint64, sl_sl_uint32_hi, ln_sl_int, ia_sl_int, ld_int, cv_uint_uint32, seql_sl_uint8, cv_uint32_uint8, cv_uint64_uint8, ln_sl_weights_Code, fa_weights_Code_Bits, fa_weights_Code_Code, ln_sl_lightermanref08_C, fa_lightermanref08_C_Bits, fa_lightermanref08_C_Code, hcv5, r_sneq, hse, n1, n2, n3]
  unfold law08_WeightsWhole_p7 law08_WeightsWhole_p6 law08_WeightsWhole_p5 law08_WeightsWhole_p4 law08_WeightsWhole_p3
  refine LoopD.rule (fun m (t : Value) w' => ∃ i : Nat, m = L.length - i ∧ t = .int .i64 i ∧ i ≤ L.length ∧ Ext w5 w' nob) L.length ⟨0, rfl, rfl, by omega, Ext.refl _ _⟩ ?_
  rintro m t w6 ⟨i, rfl, rfl, hi, x6⟩
  unfold law08_WeightsWhole_p2
  by_cases hlt : i < L.length
  · have d2 : decide ((i : Int) < (L.length : Int)) = true := by simp; omega
    have x6d : Ext w5 (dr w6) nob := x6.seq (Ext.dr _ _)
    obtain ⟨b1, rest1, rfl, o1⟩ := hcc (by omega)
    obtain ⟨b2, rest2, rfl, o2⟩ := hcd (by omega)
    obtain ⟨g0, g1⟩ := cc_cells (o1.ext x6d (fun h => h)) hlt
    obtain ⟨k0, k1⟩ := cc_cells (o2.ext x6d (fun h => h)) hlt
    have n4 := hfe (L[i].1 : Nat)
    have n5 := hfe (L[i].2 : Nat)
    generalize L[i].1 = p at *
    generalize L[i].2 = q at *
    simp (disch := omega) only [Stp, Same, stepR_value, stepR_skip, r_add, r_sub, r_mul, r_quo, r_rem, r_and, r_or, r_xor, r_andNot, r_shl, r_shr, r_eql, r_neq, r_lss, r_leq, r_gtr, r_geq, r_neg, r_cpl, r_not, r_pick, r_min, r_max, r_nil, x20, x21, x30, x31, x32, x40, x41, x42, x43, ldC_some, Result.ok.injEq, Next.value.injEq, true_and, and_true, w_i64, w_u64, w_i32, w_u32, w_u16, w_u8, Int.toNat_natCast, isB_tt, isB_tf, isB_ft, isB_ff, Gd_true, Gd_false, Gs_true, Gs_false, Cnd_true, Cnd_false, if_true, if_false, Bool.false_eq_true, Nat.zero_add, Option.isNone_some, Option.isNone_none, Bool.not_true, Bool.not_false, List.getElem?_cons_succ, List.getElem?_cons_zero, ln_sl_uint8, cv_int_uint, cv_int_uint8, ln_string, ia_sl_uint8, ld_uint8, cv_uint8_int, bd_weights_Code_0_1, ia_sl_weights_Code, bd_lightermanref08_C_, ix_string, bd_lightermanref08_C_0_1, ia_sl_lightermanref08_C, sl_sl_uint8_lo, sl_sl_uint8_hi, ln_sl_uint32, ia_sl_uint32, ld_uint32, cv_uint32_uint64, sl_sl_uint32_hi, ln_sl_int, ia_sl_int, ld_int, cv_uint_uint32, seql_sl_uint8, cv_uint32_uint8, cv_uint64_uint8, ln_sl_weights_Code, fa_weights_Code_Bits, fa_weights_Code_Code, ln_sl_lightermanref08_C, fa_lightermanref08_C_Bits, fa_lightermanref08_C_Code, d2, g0, g1, k0, k1, n4, n5]
    exact ⟨L.length - (i + 1), by omega, i + 1, rfl, rfl, by omega, x6d⟩
  · have d2 : decide ((i : Int) < (L.length : Int)) = false := by simp; omega
    unfold law08_WeightsWhole_p1
    rcases hwh with ⟨e1, rfl, rfl⟩ | ⟨k, e1, rfl, rfl⟩
    · have n6 : ((11 : Int) != 0) = true := rfl
      simp (disch := omega) only [Stp, Same, stepR_value, stepR_skip, r_add, r_sub, r_mul, r_quo, r_rem, r_and, r_or, r_xor, r_andNot, r_shl, r_shr, r_eql, r_neq, r_lss, r_leq, r_gtr, r_geq, r_neg, r_cpl, r_not, r_pick, r_min, r_max, r_nil, x20, x21, x30, x31, x32, x40, x41, x42, x43, ldC_some, Result.ok.injEq, Next.value.injEq, true_and, and_true, w_i64, w_u64, w_i32, w_u32, w_u16, w_u8, Int.toNat_natCast, isB_tt, isB_tf, isB_ft, isB_ff, Gd_true, Gd_false, Gs_true, Gs_false, Cnd_true, Cnd_false, if_true, if_false, Bool.false_eq_true, Nat.zero_add, Option.isNone_some, Option.isNone_none, Bool.not_true, Bool.not_false, List.getElem?_cons_succ, List.getElem?_cons_zero, ln_sl_uint8, cv_int_uint, cv_int_uint8, ln_string, ia_sl_uint8, ld_uint8, cv_uint8_int, bd_weights_Code_0_1, ia_sl_weights_Code, bd_lightermanref08_C_, ix_string, bd_lightermanref08_C_0_1, ia_sl_lightermanref08_C, sl_sl_uint8_lo, sl_sl_uint8_hi, ln_sl_uint32, ia_sl_uint32, ld_uint32, cv_uint32_uint64, sl_sl_uint32_hi, ln_sl_int, ia_sl_int, ld_int, cv_uint_uint32, seql_sl_uint8, cv_uint32_uint8, cv_uint64_uint8, ln_sl_weights_Code, fa_weights_Code_Bits, fa_weights_Code_Code, ln_sl_lightermanref08_C, fa_lightermanref08_C_Bits, fa_lightermanref08_C_Code, d2, n6]
      exact x05.seq x6
    · have n6 : ((0 : Int) != 0) = false := rfl
      have n7 : ((0 : Int) == 0) = true := rfl
      simp (disch := omega) only [Stp, Same, stepR_value, stepR_skip, r_add, r_sub, r_mul, r_quo, r_rem, r_and, r_or, r_xor, r_andNot, r_shl, r_shr, r_eql, r_neq, r_lss, r_leq, r_gtr, r_geq, r_neg, r_cpl, r_not, r_pick, r_min, r_max, r_nil, x20, x21, x30, x31, x32, x40, x41, x42, x43, ldC_some, Result.ok.injEq, Next.value.injEq, true_and, and_true, w_i64, w_u64, w_i32, w_u32, w_u16, w_u8, Int.toNat_natCast, isB_tt, isB_tf, isB_ft, isB_ff, Gd_true, Gd_false, Gs_true, Gs_false, Cnd_true, Cnd_false, if_true, if_false, Bool.false_eq_true, Nat.zero_add, Option.isNone_some, Option.isNone_none, Bool.not_true, Bool.not_false, List.getElem?_cons_succ, List.getElem?_cons_zero, ln_sl_uint8, cv_int_uint, cv_int_uint8, ln_string, ia_sl_uint8, ld_uint8, cv_uint8_int, bd_weights_Code_0_1, ia_sl_weights_Code, bd_lightermanref08_C_, ix_string, bd_lightermanref08_C_0_1, ia_sl_lightermanref08_C, sl_sl_uint8_lo, sl_sl_uint8_hi, ln_sl_uint32, ia_sl_uint32, ld_uint32, cv_uint32_uint64, sl_sl_uint32_hi, ln_sl_int, ia_sl_int, ld_int, cv_uint_uint32, seql_sl_uint8, cv_uint32_uint8, cv_uint64_uint8, ln_sl_weights_Code, fa_weights_Code_Bits, fa_weights_Code_Code, ln_sl_lightermanref08_C, fa_lightermanref08_C_Bits, fa_lightermanref08_C_Code, d2, n6]
      obtain ⟨hdep, hbl, hk1, hk11, _, _, _⟩ := wholeN_depth e1
      have hnk : nats (l ++ [UInt8.ofNat k]) = nats l ++ [k] := by
        show List.map _ (l ++ [UInt8.ofNat k]) = _
        rw [List.map_append, List.map_cons, List.map_nil, UInt8.toNat_ofNat_of_lt' (show k < 256 by omega)]
      refine (codes_c (d := bl (worthN (nats l))) (hva5.ext x6 (inB_nob _)) (by rw [hnk]; exact hdep) (by omega)).mono ?_
      rintro r w7 ⟨b7, rfl, _, _, x7⟩
      simp (disch := omega) only [Stp, Same, stepR_value, stepR_skip, r_add, r_sub, r_mul, r_quo, r_rem, r_and, r_or, r_xor, r_andNot, r_shl, r_shr, r_eql, r_neq, r_lss, r_leq, r_gtr, r_geq, r_neg, r_cpl, r_not, r_pick, r_min, r_max, r_nil, x20, x21, x30, x31, x32, x40, x41, x42, x43, ldC_some, Result.ok.injEq, Next.value.injEq, true_and, and_true, w_i64, w_u64, w_i32, w_u32, w_u16, w_u8, Int.toNat_natCast, isB_tt, isB_tf, isB_ft, isB_ff, Gd_true, Gd_false, Gs_true, Gs_false, Cnd_true, Cnd_false, if_true, if_false, Bool.false_eq_true, Nat.zero_add, Option.isNone_some, Option.isNone_none, Bool.not_true, Bool.not_false, List.getElem?_cons_succ, List.getElem?_cons_zero, ln_sl_uint8, cv_int_uint, cv_int_uint8, ln_string, ia_sl_uint8, ld_uint8, cv_uint8_int, bd_weights_Code_0_1, ia_sl_weights_Code, bd_lightermanref08_C_, ix_string, bd_lightermanref08_C_0_1, ia_sl_lightermanref08_C, sl_sl_uint8_lo, sl_sl_uint8_hi, ln_sl_uint32, ia_sl_uint32, ld_uint32, cv_uint32_uint64, sl_sl_uint32_hi, ln_sl_int, ia_sl_int, ld_int, cv_uint_uint32, seql_sl_uint8, cv_uint32_uint8, cv_uint64_uint8, ln_sl_weights_Code, fa_weights_Code_Bits, fa_weights_Code_Code, ln_sl_lightermanref08_C, fa_lightermanref08_C_Bits, fa_lightermanref08_C_Code, n7]
      exact (x05.seq x6).seq x7
end Go.Proofs.Ytoepfjgekpdddaa
/- Contract: the law WeightsEven. -/
namespace Go.Proofs.Ytoepfjgekpdddaa
open Go Go.En Go.Pu
set_option maxRecDepth 4000
set_option linter.unusedSimpArgs false
set_option linter.unusedVariables false

/-- symbols as often as one another, with gaps -/
def EL (g n : Nat) : Nat → List Nat
  | 0 => []
  | i + 1 => EL g n i ++ (List.replicate g 0 ++ [n])
theorem EL_len (g n : Nat) : ∀ i, (EL g n i).length = i * (g + 1)
  | 0 => by simp [EL]
  | i + 1 => by rw [EL, List.length_append, EL_len g n i, Nat.add_mul]; simp
theorem EL_sum (g n : Nat) : ∀ i, (EL g n i).sum = i * n
  | 0 => by simp [EL]
  | i + 1 => by rw [EL, List.sum_append, EL_sum g n i, Nat.add_mul]; simp
theorem EL_cnt {g n : Nat} (h : 0 < n) : ∀ i, (EL g n i).countP isOn = i
  | 0 => by simp [EL]
  | i + 1 => by
    have h1 : (List.replicate g 0).countP isOn = 0 := List.countP_eq_zero.2 fun x hx => by
      rw [(List.mem_replicate.1 hx).2]; decide
    have h2 : isOn n = true := by unfold isOn; exact decide_eq_true h
    rw [EL, List.countP_append, EL_cnt h i, List.countP_append, h1, List.countP_singleton, h2]; simp
theorem EL_le {g n B : Nat} (h : n ≤ B) : ∀ i, ∀ x ∈ EL g n i, x ≤ B
  | 0 => fun x hx => by simp [EL] at hx
  | i + 1 => fun x hx => by
    rw [EL, List.mem_append, List.mem_append] at hx
    rcases hx with hx | hx | hx
    · exact EL_le h i x hx
    · rw [(List.mem_replicate.1 hx).2]; exact Nat.zero_le _
    · rw [List.mem_singleton.1 hx]; exact h
theorem EL_last (g n i : Nat) : (EL g n (i + 1)).getD ((EL g n (i + 1)).length - 1) 0 = n := by
  have : EL g n (i + 1) = (EL g n i ++ List.replicate g 0) ++ [n] := by rw [EL, List.append_assoc]
  rw [this, List.getD_eq_getElem?_getD, List.length_append, List.length_singleton, Nat.add_sub_cancel, List.getElem?_append_right (Nat.le_refl _), Nat.sub_self]; rfl

theorem even_push {base x : Nat} {lv : Value} {ls : List Nat} {w : World} (o : OSl w base 1 lv ls.length (u32s ls)) (hb : base ≤ w.heap.size) (hi : ls.length ≤ 100000) {K : Value → World → Prop}
    (hK : ∀ v2 w2, OSl w2 base 1 v2 (ls ++ [x]).length (u32s (ls ++ [x])) → Ext w w2 (fun y => base ≤ y) → K v2 w2) :
    Stp pg (sBuildSlice 43 1 [(0, .int .u32 x)]) w fun t w => Stp pg (sBi .append #[43, 43] 43 [lv, t]) w fun t' w => K t' w := by
  refine bs_sl_uint32 (cells := #[.int .u32 x]) (by decide) (by decide) (by kernel_rfl) fun w5 o5 x5 s5 => ?_
  have z5 := x5.size
  refine ap_sl_uint32_sl_uint32 (m := 1) (news := [.int .u32 x]) (o.ext x5 (fun _ _ h => h)) (o5.cl (off := 0) (l := [.int .u32 x]) (n := 1) rfl (fun i hi => by rw [Nat.zero_add])) (by simp [one]) (by omega) (by omega) fun v6 w6 o6 x6 => ?_
  refine hK v6 w6 ?_ ((x5.mono fun _ _ h => h.elim).seq x6)
  rw [show u32s (ls ++ [x]) = u32s ls ++ [.int .u32 x] from by show List.map _ (ls ++ [x]) = _; rw [List.map_append]; rfl, List.length_append]
  exact o6

/-- the law's list is made -/
theorem even_make {gap k n : Nat} {w : World} (hg : gap < 256) (hk : k ≤ 7) (hn : n ≤ 65536) {RR : Value → World → Prop}
    (hK : ∀ lv w', OSl w' w.heap.size 1 lv (EL (gap % 2) n (2 ^ k)).length (u32s (EL (gap % 2) n (2 ^ k))) → Ext w w' nob → law08_WeightsEven_p11 RR (.int .i64 k) lv w') :
    law08_WeightsEven_p28 RR (.int .u8 gap) (.int .i64 k) (.int .u32 n) (.slice none 0 0) w := by
  unfold law08_WeightsEven_p28 law08_WeightsEven_p27 law08_WeightsEven_p26 law08_WeightsEven_p25 law08_WeightsEven_p24
  have hp : 2 ^ k ≤ 2 ^ 7 := Nat.pow_le_pow_right (by omega) hk
  have hp0 := Nat.two_pow_pos k
  obtain ⟨g, hgg⟩ : ∃ g, gap % 2 = g := ⟨_, rfl⟩
  have hg2 : g ≤ 1 := by omega
  rw [hgg] at hK
  have e1 : (gap : Int).tmod 2 = (g : Int) := by rw [Int.tmod_eq_emod_of_nonneg (by omega)]; omega
  have e2 : IntKind.u8.wrap (g : Int) = (g : Int) := w_u8 (by omega) (by omega)
  have e3 : IntKind.i64.wrap (g : Int) = (g : Int) := w_i64 (by omega) (by omega)
  have e5 : IntKind.u64.wrap (k : Int) = (k : Int) := w_u64 (by omega) (by omega)
  have e6 := shl1 (n := k) (by omega)
  have t5 : (k : Int).toNat = k := by omega
  refine LoopD.rule (fun m (t : Value × Value) w' => ∃ (i : Nat) (lv : Value), m = 2 ^ k - i ∧ t = (lv, .int .i64 i) ∧ i ≤ 2 ^ k ∧ OSl w' w.heap.size 1 lv (EL g n i).length (u32s (EL g n i)) ∧ Ext w w' (fun y => w.heap.size ≤ y)) (2 ^ k)
    ⟨0, _, rfl, rfl, by omega, OSl.nil _ _ _, Ext.refl _ _⟩ ?_
  rintro m t w1 ⟨i, lv, rfl, rfl, hi, o1, x1⟩
  have hEl := EL_len g n i
  have hEb : i * (g + 1) ≤ 128 * 2 := Nat.mul_le_mul (by omega) (by omega)
  have z1 := x1.size
  unfold law08_WeightsEven_p23 law08_WeightsEven_p22
  by_cases hlt : i < 2 ^ k
  · have d1 : decide ((i : Int) < ((2 ^ k : Nat) : Int)) = true := by simp only [decide_eq_true_eq]; omega
    simp (disch := omega) only [Stp, Same, stepR_value, stepR_skip, r_add, r_sub, r_mul, r_quo, r_rem, r_and, r_or, r_xor, r_andNot, r_shl, r_shr, r_eql, r_neq, r_lss, r_leq, r_gtr, r_geq, r_neg, r_cpl, r_not, r_pick, r_min, r_max, r_nil, x20, x21, x30, x31, x32, x40, x41, x42, x43, ldC_some, Result.ok.injEq, Next.value.injEq, true_and, and_true, w_i64, w_u64, w_i32, w_u32, w_u16, w_u8, Int.toNat_natCast, isB_tt, isB_tf, isB_ft, isB_ff, Gd_true, Gd_false, Gs_true, Gs_false, Cnd_true, Cnd_false, if_true, if_false, Bool.false_eq_true, Nat.zero_add, Option.isNone_some, Option.isNone_none, Bool.not_true, Bool.not_false, List.getElem?_cons_succ, List.getElem?_cons_zero, ln_sl_uint8, cv_int_uint, cv_int_uint8, ln_string, ia_sl_uint8, ld_uint8, cv_uint8_int, bd_weights_Code_0_1, ia_sl_weights_Code, bd_lightermanref08_C_, ix_string, bd_lightermanref08_C_0_1, ia_sl_lightermanref08_C, sl_sl_uint8_lo, sl_sl_uint8_hi, ln_sl_uint32, ia_sl_uint32, ld_uint32, cv_uint32_uint64, sl_sl_uint32_hi, ln_sl_int, ia_sl_int, ld_int, cv_uint_uint32, seql_sl_uint8, cv_uint32_uint8, cv_uint64_uint8, ln_sl_weights_Code, fa_weights_Code_Bits, fa_weights_Code_Code, ln_sl_lightermanref08_C, fa_lightermanref08_C_Bits, fa_lightermanref08_C_Code, bneq_bool, cv_uint16_uint32, e5, e6, t5, d1]
    unfold law08_WeightsEven_p21 law08_WeightsEven_p20 law08_WeightsEven_p19 law08_WeightsEven_p18 law08_WeightsEven_p17 law08_WeightsEven_p16 law08_WeightsEven_p15
    refine LoopD.rule (fun m (t : Value × Value) w' => ∃ (j : Nat) (lv : Value), m = g - j ∧ t = (lv, .int .i64 j) ∧ j ≤ g ∧ OSl w' w.heap.size 1 lv (EL g n i ++ List.replicate j 0).length (u32s (EL g n i ++ List.replicate j 0)) ∧ Ext w w' (fun y => w.heap.size ≤ y)) g
      ⟨0, _, rfl, rfl, by omega, by rw [List.replicate_zero, List.append_nil]; exact o1, x1⟩ ?_
    rintro m t w2 ⟨j, lv2, rfl, rfl, hj, o2, x2⟩
    have z2 := x2.size
    have hl2 : (EL g n i ++ List.replicate j 0).length ≤ 1000 := by rw [List.length_append, hEl, List.length_replicate]; omega
    unfold law08_WeightsEven_p14
    by_cases hjg : j < g
    · have d2 : decide ((j : Int) < (g : Int)) = true := by simp; omega
      simp (disch := omega) only [Stp, Same, stepR_value, stepR_skip, r_add, r_sub, r_mul, r_quo, r_rem, r_and, r_or, r_xor, r_andNot, r_shl, r_shr, r_eql, r_neq, r_lss, r_leq, r_gtr, r_geq, r_neg, r_cpl, r_not, r_pick, r_min, r_max, r_nil, x20, x21, x30, x31, x32, x40, x41, x42, x43, ldC_some, Result.ok.injEq, Next.value.injEq, true_and, and_true, w_i64, w_u64, w_i32, w_u32, w_u16, w_u8, Int.toNat_natCast, isB_tt, isB_tf, isB_ft, isB_ff, Gd_true, Gd_false, Gs_true, Gs_false, Cnd_true, Cnd_false, if_true, if_false, Bool.false_eq_true, Nat.zero_add, Option.isNone_some, Option.isNone_none, Bool.not_true, Bool.not_false, List.getElem?_cons_succ, List.getElem?_cons_zero, ln_sl_uint8, cv_int_uint, cv_int_uint8, ln_string, ia_sl_uint8, ld_uint8, cv_uint8_int, bd_weights_Code_0_1, ia_sl_weights_Code, bd_lightermanref08_C_, ix_string, bd_lightermanref08_C_0_1, ia_sl_lightermanref08_C, sl_sl_uint8_lo, sl_sl_uint8_hi, ln_sl_uint32, ia_sl_uint32, ld_uint32, cv_uint32_uint64, sl_sl_uint32_hi, ln_sl_int, ia_sl_int, ld_int, cv_uint_uint32, seql_sl_uint8, cv_uint32_uint8, cv_uint64_uint8, ln_sl_weights_Code, fa_weights_Code_Bits, fa_weights_Code_Code, ln_sl_lightermanref08_C, fa_lightermanref08_C_Bits, fa_lightermanref08_C_Code, bneq_bool, cv_uint16_uint32, e1, e2, e3, d2]
      refine even_push (x := 0) o2 (by omega) (by omega) fun v3 w3 o3 x3 => ?_
      rw [List.append_assoc, ← List.replicate_succ'] at o3
      exact ⟨g - (j + 1), by omega, j + 1, _, rfl, rfl, by omega, o3, x2.seq x3⟩
    · have d2 : decide ((j : Int) < (g : Int)) = false := by simp; omega
      obtain rfl : j = g := by omega
      simp (disch := omega) only [Stp, Same, stepR_value, stepR_skip, r_add, r_sub, r_mul, r_quo, r_rem, r_and, r_or, r_xor, r_andNot, r_shl, r_shr, r_eql, r_neq, r_lss, r_leq, r_gtr, r_geq, r_neg, r_cpl, r_not, r_pick, r_min, r_max, r_nil, x20, x21, x30, x31, x32, x40, x41, x42, x43, ldC_some, Result.ok.injEq, Next.value.injEq, true_and, and_true, w_i64, w_u64, w_i32, w_u32, w_u16, w_u8, Int.toNat_natCast, isB_tt, isB_tf, isB_ft, isB_ff, Gd_true, Gd_false, Gs_true, Gs_false, Cnd_true, Cnd_false, if_true, if_false, Bool.false_eq_true, Nat.zero_add, Option.isNone_some, Option.isNone_none, Bool.not_true, Bool.not_false, List.getElem?_cons_succ, List.getElem?_cons_zero, ln_sl_uint8, cv_int_uint, cv_int_uint8, ln_string, ia_sl_uint8, ld_uint8, cv_uint8_int, bd_weights_Code_0_1, ia_sl_weights_Code, bd_lightermanref08_C_, ix_string, bd_lightermanref08_C_0_1, ia_sl_lightermanref08_C, sl_sl_uint8_lo, sl_sl_uint8_hi, ln_sl_uint32, ia_sl_uint32, ld_uint32, cv_uint32_uint64, sl_sl_uint32_hi, ln_sl_int, ia_sl_int, ld_int, cv_uint_uint32, seql_sl_uint8, cv_uint32_uint8, cv_uint64_uint8, ln_sl_weights_Code, fa_weights_Code_Bits, fa_weights_Code_Code, ln_sl_lightermanref08_C, fa_lightermanref08_C_Bits, fa_lightermanref08_C_Code, bneq_bool, cv_uint16_uint32, e1, e2, e3, d2]
      unfold law08_WeightsEven_p13
      refine even_push (x := n) o2 (by omega) (by omega) fun v3 w3 o3 x3 => ?_
      rw [List.append_assoc] at o3
      unfold law08_WeightsEven_p12
      simp (disch := omega) only [Stp, Same, stepR_value, stepR_skip, r_add, r_sub, r_mul, r_quo, r_rem, r_and, r_or, r_xor, r_andNot, r_shl, r_shr, r_eql, r_neq, r_lss, r_leq, r_gtr, r_geq, r_neg, r_cpl, r_not, r_pick, r_min, r_max, r_nil, x20, x21, x30, x31, x32, x40, x41, x42, x43, ldC_some, Result.ok.injEq, Next.value.injEq, true_and, and_true, w_i64, w_u64, w_i32, w_u32, w_u16, w_u8, Int.toNat_natCast, isB_tt, isB_tf, isB_ft, isB_ff, Gd_true, Gd_false, Gs_true, Gs_false, Cnd_true, Cnd_false, if_true, if_false, Bool.false_eq_true, Nat.zero_add, Option.isNone_some, Option.isNone_none, Bool.not_true, Bool.not_false, List.getElem?_cons_succ, List.getElem?_cons_zero, ln_sl_uint8, cv_int_uint, cv_int_uint8, ln_string, ia_sl_uint8, ld_uint8, cv_uint8_int, bd_weights_Code_0_1, ia_sl_weights_Code, bd_lightermanref08_C_, ix_string, bd_lightermanref08_C_0_1, ia_sl_lightermanref08_C, sl_sl_uint8_lo, sl_sl_uint8_hi, ln_sl_uint32, ia_sl_uint32, ld_uint32, cv_uint32_uint64, sl_sl_uint32_hi, ln_sl_int, ia_sl_int, ld_int, cv_uint_uint32, seql_sl_uint8, cv_uint32_uint8, cv_uint64_uint8, ln_sl_weights_Code, fa_weights_Code_Bits, fa_weights_Code_Code, ln_sl_lightermanref08_C, fa_lightermanref08_C_Bits, fa_lightermanref08_C_Code, bneq_bool, cv_uint16_uint32]
      exact ⟨2 ^ k - (i + 1), by omega, i + 1, _, rfl, rfl, by omega, o3, x2.seq x3⟩
  · have d1 : decide ((i : Int) < ((2 ^ k : Nat) : Int)) = false := by simp only [decide_eq_false_iff_not]; omega
    obtain rfl : i = 2 ^ k := by omega
    simp (disch := omega) only [Stp, Same, stepR_value, stepR_skip, r_add, r_sub, r_mul, r_quo, r_rem, r_and, r_or, r_xor, r_andNot, r_shl, r_shr, r_eql, r_neq, r_lss, r_leq, r_gtr, r_geq, r_neg, r_cpl, r_not, r_pick, r_min, r_max, r_nil, x20, x21, x30, x31, x32, x40, x41, x42, x43, ldC_some, Result.ok.injEq, Next.value.injEq, true_and, and_true, w_i64, w_u64, w_i32, w_u32, w_u16, w_u8, Int.toNat_natCast, isB_tt, isB_tf, isB_ft, isB_ff, Gd_true, Gd_false, Gs_true, Gs_false, Cnd_true, Cnd_false, if_true, if_false, Bool.false_eq_true, Nat.zero_add, Option.isNone_some, Option.isNone_none, Bool.not_true, Bool.not_false, List.getElem?_cons_succ, List.getElem?_cons_zero, ln_sl_uint8, cv_int_uint, cv_int_uint8, ln_string, ia_sl_uint8, ld_uint8, cv_uint8_int, bd_weights_Code_0_1, ia_sl_weights_Code, bd_lightermanref08_C_, ix_string, bd_lightermanref08_C_0_1, ia_sl_lightermanref08_C, sl_sl_uint8_lo, sl_sl_uint8_hi, ln_sl_uint32, ia_sl_uint32, ld_uint32, cv_uint32_uint64, sl_sl_uint32_hi, ln_sl_int, ia_sl_int, ld_int, cv_uint_uint32, seql_sl_uint8, cv_uint32_uint8, cv_uint64_uint8, ln_sl_weights_Code, fa_weights_Code_Bits, fa_weights_Code_Code, ln_sl_lightermanref08_C, fa_lightermanref08_C_Bits, fa_lightermanref08_C_Code, bneq_bool, cv_uint16_uint32, e5, e6, t5, d1]
    exact hK lv w1 o1 ((Ext.refl w nob).trans x1 fun b hb h => by omega)

theorem even_tail {k d : Nat} {cv : Value} {wl ns : List Nat} {w w0 : World} (hk : k ≤ 7) (x0 : Ext w0 w nob) (hwl : wl.length = ns.length) (hnl : ns.length ≤ 256) (hdd : ∀ x ∈ wl, x ≤ d) (hiff : ∀ i, i < ns.length → (0 < wl.getD i 0 ↔ 0 < ns.getD i 0)) (hcnt : ns.countP isOn = 2 ^ k)
    (hc : CodesAt w cv (codesN wl d)) :
    law08_WeightsEven_p9 (fun r w' => r = .bool true ∧ Ext w0 w' nob) (.int .i64 k) cv (.int .i64 0) w := by
  unfold law08_WeightsEven_p9 law08_WeightsEven_p8 law08_WeightsEven_p7 law08_WeightsEven_p6 law08_WeightsEven_p5
  have hL := codesN_length wl d
  obtain ⟨ac, cc1, rfl, hcc⟩ := hc
  have e5 : IntKind.u64.wrap (k : Int) = (k : Int) := w_u64 (by omega) (by omega)
  have e6 := shl1 (n := k) (by omega)
  have t5 : (k : Int).toNat = k := by omega
  refine LoopD.rule (fun m (t : Value × Value) w' => ∃ i : Nat, m = ns.length - i ∧ t = (.int .i64 ((ns.take i).countP isOn : Nat), .int .i64 i) ∧ i ≤ ns.length ∧ w' = w) ns.length
    ⟨0, rfl, rfl, by omega, rfl⟩ ?_
  rintro m t w1 ⟨i, rfl, rfl, hi, rfl⟩
  unfold law08_WeightsEven_p4 law08_WeightsEven_p3
  by_cases hlt : i < ns.length
  · have d1 : decide ((i : Int) < ((codesN wl d).length : Int)) = true := by simp; omega
    obtain ⟨b, rest, rfl, o⟩ := hcc (by omega)
    obtain ⟨g0, _⟩ := cc_cells o (i := i) (by omega)
    have hg := codesN_get (l := wl) (d := d) (s := i) (by omega)
    rw [List.getElem?_eq_getElem (by omega)] at hg
    rw [Option.some.inj hg] at g0
    have hii := hiff i hlt
    have hwd := hdd _ (getD_mem (l := wl) (s := i) (by omega))
    have hct : (ns.take i).countP isOn ≤ i := by
      have := List.countP_le_length (l := ns.take i) (p := isOn)
      rw [List.length_take] at this; omega
    have hcn : (ns.take (i + 1)).countP isOn = (ns.take i).countP isOn + (if 0 < ns.getD i 0 then 1 else 0) := by
      rw [take_snocD hlt, List.countP_append, List.countP_singleton]
      unfold isOn; simp only [decide_eq_true_eq]
    have hbits : (codeOf wl d i).1 = if wl.getD i 0 = 0 then 0 else d + 1 - wl.getD i 0 := by unfold codeOf; split <;> rfl
    generalize (codeOf wl d i).1 = q at *
    generalize wl.getD i 0 = p at *
    by_cases h0 : 0 < ns.getD i 0
    · rw [if_pos h0] at hcn
      have hp := hii.2 h0
      rw [if_neg (by omega)] at hbits
      have d2 : decide ((0 : Int) < (q : Int)) = true := by simp; omega
      unfold law08_WeightsEven_p2
      simp (disch := omega) only [Stp, Same, stepR_value, stepR_skip, r_add, r_sub, r_mul, r_quo, r_rem, r_and, r_or, r_xor, r_andNot, r_shl, r_shr, r_eql, r_neq, r_lss, r_leq, r_gtr, r_geq, r_neg, r_cpl, r_not, r_pick, r_min, r_max, r_nil, x20, x21, x30, x31, x32, x40, x41, x42, x43, ldC_some, Result.ok.injEq, Next.value.injEq, true_and, and_true, w_i64, w_u64, w_i32, w_u32, w_u16, w_u8, Int.toNat_natCast, isB_tt, isB_tf, isB_ft, isB_ff, Gd_true, Gd_false, Gs_true, Gs_false, Cnd_true, Cnd_false, if_true, if_false, Bool.false_eq_true, Nat.zero_add, Option.isNone_some, Option.isNone_none, Bool.not_true, Bool.not_false, List.getElem?_cons_succ, List.getElem?_cons_zero, ln_sl_uint8, cv_int_uint, cv_int_uint8, ln_string, ia_sl_uint8, ld_uint8, cv_uint8_int, bd_weights_Code_0_1, ia_sl_weights_Code, bd_lightermanref08_C_, ix_string, bd_lightermanref08_C_0_1, ia_sl_lightermanref08_C, sl_sl_uint8_lo, sl_sl_uint8_hi, ln_sl_uint32, ia_sl_uint32, ld_uint32, cv_uint32_uint64, sl_sl_uint32_hi, ln_sl_int, ia_sl_int, ld_int, cv_uint_uint32, seql_sl_uint8, cv_uint32_uint8, cv_uint64_uint8, ln_sl_weights_Code, fa_weights_Code_Bits, fa_weights_Code_Code, ln_sl_lightermanref08_C, fa_lightermanref08_C_Bits, fa_lightermanref08_C_Code, bneq_bool, cv_uint16_uint32, d1, g0, d2]
      exact ⟨ns.length - (i + 1), by omega, i + 1, rfl, by rw [hcn]; rfl, by omega⟩
    · rw [if_neg h0] at hcn
      have hp : ¬ 0 < p := fun h => h0 (hii.1 h)
      rw [if_pos (by omega)] at hbits
      have d2 : decide ((0 : Int) < (q : Int)) = false := by simp; omega
      unfold law08_WeightsEven_p2
      simp (disch := omega) only [Stp, Same, stepR_value, stepR_skip, r_add, r_sub, r_mul, r_quo, r_rem, r_and, r_or, r_xor, r_andNot, r_shl, r_shr, r_eql, r_neq, r_lss, r_leq, r_gtr, r_geq, r_neg, r_cpl, r_not, r_pick, r_min, r_max, r_nil, x20, x21, x30, x31, x32, x40, x41, x42, x43, ldC_some, Result.ok.injEq, Next.value.injEq, true_and, and_true, w_i64, w_u64, w_i32, w_u32, w_u16, w_u8, Int.toNat_natCast, isB_tt, isB_tf, isB_ft, isB_ff, Gd_true, Gd_false, Gs_true, Gs_false, Cnd_true, Cnd_false, if_true, if_false, Bool.false_eq_true, Nat.zero_add, Option.isNone_some, Option.isNone_none, Bool.not_true, Bool.not_false, List.getElem?_cons_succ, List.getElem?_cons_zero, ln_sl_uint8, cv_int_uint, cv_int_uint8, ln_string, ia_sl_uint8, ld_uint8, cv_uint8_int, bd_weights_Code_0_1, ia_sl_weights_Code, bd_lightermanref08_C_, ix_string, bd_lightermanref08_C_0_1, ia_sl_lightermanref08_C, sl_sl_uint8_lo, sl_sl_uint8_hi, ln_sl_uint32, ia_sl_uint32, ld_uint32, cv_uint32_uint64, sl_sl_uint32_hi, ln_sl_int, ia_sl_int, ld_int, cv_uint_uint32, seql_sl_uint8, cv_uint32_uint8, cv_uint64_uint8, ln_sl_weights_Code, fa_weights_Code_Bits, fa_weights_Code_Code, ln_sl_lightermanref08_C, fa_lightermanref08_C_Bits, fa_lightermanref08_C_Code, bneq_bool, cv_uint16_uint32, d1, g0, d2]
      exact ⟨ns.length - (i + 1), by omega, i + 1, rfl, by rw [hcn]; rfl, by omega⟩
  · have d1 : decide ((i : Int) < ((codesN wl d).length : Int)) = false := by simp; omega
    obtain rfl : i = ns.length := by omega
    rw [List.take_of_length_le (Nat.le_refl _), hcnt]
    unfold law08_WeightsEven_p1
    have n1 : (((2 ^ k : Nat) : Int) == ((2 ^ k : Nat) : Int)) = true := by simp
    simp (disch := omega) only [Stp, Same, stepR_value, stepR_skip, r_add, r_sub, r_mul, r_quo, r_rem, r_and, r_or, r_xor, r_andNot, r_shl, r_shr, r_eql, r_neq, r_lss, r_leq, r_gtr, r_geq, r_neg, r_cpl, r_not, r_pick, r_min, r_max, r_nil, x20, x21, x30, x31, x32, x40, x41, x42, x43, ldC_some, Result.ok.injEq, Next.value.injEq, true_and, and_true, w_i64, w_u64, w_i32, w_u32, w_u16, w_u8, Int.toNat_natCast, isB_tt, isB_tf, isB_ft, isB_ff, Gd_true, Gd_false, Gs_true, Gs_false, Cnd_true, Cnd_false, if_true, if_false, Bool.false_eq_true, Nat.zero_add, Option.isNone_some, Option.isNone_none, Bool.not_true, Bool.not_false, List.getElem?_cons_succ, List.getElem?_cons_zero, ln_sl_uint8, cv_int_uint, cv_int_uint8, ln_string, ia_sl_uint8, ld_uint8, cv_uint8_int, bd_weights_Code_0_1, ia_sl_weights_Code, bd_lightermanref08_C_, ix_string, bd_lightermanref08_C_0_1, ia_sl_lightermanref08_C, sl_sl_uint8_lo, sl_sl_uint8_hi, ln_sl_uint32, ia_sl_uint32, ld_uint32, cv_uint32_uint64, sl_sl_uint32_hi, ln_sl_int, ia_sl_int, ld_int, cv_uint_uint32, seql_sl_uint8, cv_uint32_uint8, cv_uint64_uint8, ln_sl_weights_Code, fa_weights_Code_Bits, fa_weights_Code_Code, ln_sl_lightermanref08_C, fa_lightermanref08_C_Bits, fa_lightermanref08_C_Code, bneq_bool, cv_uint16_uint32, d1, e5, e6, t5, n1]
    exact x0

theorem weightsEven_c {g o a : Nat} {w : World} (hg : g < 256) (ho : o < 65536) (ha : a < 256) :
    Does pg F_law08_WeightsEven #[.int .u8 g, .int .u16 o, .int .u8 a] w (fun r w' => r = .bool true ∧ Ext w w' nob) := by
  refine law08_WeightsEven_does ?_
  unfold law08_WeightsEven law08_WeightsEven_p30 law08_WeightsEven_p29
  refine (awake8_c w).mono ?_
  rintro r w1 ⟨rfl, x1⟩
  obtain ⟨k, hk⟩ : ∃ k, g % 7 + 1 = k := ⟨_, rfl⟩
  have hk7 : k ≤ 7 := by omega
  have hk1 : 1 ≤ k := by omega
  have e1 : (g : Int).tmod 7 = ((g % 7 : Nat) : Int) := by rw [Int.tmod_eq_emod_of_nonneg (by omega)]; simp
  have e2 : IntKind.u8.wrap ((g % 7 : Nat) : Int) = ((g % 7 : Nat) : Int) := w_u8 (by omega) (by omega)
  have e3 : IntKind.i64.wrap ((g % 7 : Nat) : Int) = ((g % 7 : Nat) : Int) := w_i64 (by omega) (by omega)
  have e4 : ((g % 7 : Nat) : Int) + 1 = (k : Int) := by omega
  have e5 : IntKind.u32.wrap (o : Int) = (o : Int) := w_u32 (by omega) (by omega)
  have e6 : (o : Int) + 1 = ((o + 1 : Nat) : Int) := by omega
  have e7 : IntKind.u32.wrap ((o + 1 : Nat) : Int) = ((o + 1 : Nat) : Int) := w_u32 (by omega) (by omega)
  simp (disch := omega) only [Stp, Same, stepR_value, stepR_skip, r_add, r_sub, r_mul, r_quo, r_rem, r_and, r_or, r_xor, r_andNot, r_shl, r_shr, r_eql, r_neq, r_lss, r_leq, r_gtr, r_geq, r_neg, r_cpl, r_not, r_pick, r_min, r_max, r_nil, x20, x21, x30, x31, x32, x40, x41, x42, x43, ldC_some, Result.ok.injEq, Next.value.injEq, true_and, and_true, w_i64, w_u64, w_i32, w_u32, w_u16, w_u8, Int.toNat_natCast, isB_tt, isB_tf, isB_ft, isB_ff, Gd_true, Gd_false, Gs_true, Gs_false, Cnd_true, Cnd_false, if_true, if_false, Bool.false_eq_true, Nat.zero_add, Option.isNone_some, Option.isNone_none, Bool.not_true, Bool.not_false, List.getElem?_cons_succ, List.getElem?_cons_zero, ln_sl_uint8, cv_int_uint, cv_int_uint8, ln_string, ia_sl_uint8, ld_uint8, cv_uint8_int, bd_weights_Code_0_1, ia_sl_weights_Code, bd_lightermanref08_C_, ix_string, bd_lightermanref08_C_0_1, ia_sl_lightermanref08_C, sl_sl_uint8_lo, sl_sl_uint8_hi, ln_sl_uint32, ia_sl_uint32, ld_uint32, cv_uint32_uint64, sl_sl_uint32_hi, ln_sl_int, ia_sl_int, ld_int, cv_uint_uint32, seql_sl_uint8, cv_uint32_uint8, cv_uint64_uint8, ln_sl_weights_Code, fa_weights_Code_Bits, fa_weights_Code_Code, ln_sl_lightermanref08_C, fa_lightermanref08_C_Bits, fa_lightermanref08_C_Code, bneq_bool, cv_uint16_uint32, e1, e2, e3, e4, e5, e6, e7]
  refine even_make (n := o + 1) ha hk7 (by omega) fun lv w2 o2 x2 => ?_
  have hp : 2 ^ k ≤ 2 ^ 7 := Nat.pow_le_pow_right (by omega) hk7
  have hp1 : 2 ^ 1 ≤ 2 ^ k := Nat.pow_le_pow_right (by omega) hk1
  have hEl := EL_len (a % 2) (o + 1) (2 ^ k)
  have hEs := EL_sum (a % 2) (o + 1) (2 ^ k)
  have hEc := EL_cnt (g := a % 2) (n := o + 1) (by omega) (2 ^ k)
  have hEB := EL_le (g := a % 2) (n := o + 1) (B := 65536) (by omega) (2 ^ k)
  have hEt : (EL (a % 2) (o + 1) (2 ^ k)).getD ((EL (a % 2) (o + 1) (2 ^ k)).length - 1) 0 = o + 1 := by
    have := EL_last (a % 2) (o + 1) (2 ^ k - 1)
    rwa [show 2 ^ k - 1 + 1 = 2 ^ k from by omega] at this
  have hEb : 2 ^ k * (a % 2 + 1) ≤ 128 * 2 := Nat.mul_le_mul (by omega) (by omega)
  have hEb1 : 2 * 1 ≤ 2 ^ k * (a % 2 + 1) := Nat.mul_le_mul (by omega) (by omega)
  have hEm : 2 ^ k * (o + 1) ≤ 128 * 65536 := Nat.mul_le_mul (by omega) (by omega)
  generalize EL (a % 2) (o + 1) (2 ^ k) = ns at *
  unfold law08_WeightsEven_p11 law08_WeightsEven_p10
  refine (ofw_c o2.sl (fun n hn => Nat.le_trans (hEB n hn) (by omega)) (by omega)).mono ?_
  rintro r w3 ⟨hof, x3⟩
  rcases hof with ⟨hno, rfl⟩ | ⟨hyes, last, v, wl, hla, hlt, hwl, hdep, h11, hiff, rfl, ov⟩
  · exfalso
    unfold ofwOk at hno
    exact of_decide_eq_false hno ⟨by omega, by omega, by omega⟩
  have hlast : last + 1 = ns.length := by
    have : last = ns.length - 1 := hla.one (.inr ⟨by omega, by omega, fun j h1 h2 => by omega⟩)
    omega
  rw [hlast] at hwl hiff ov
  have hb : Bs w3 v (byts wl) := ov.sl
  have hlb : lst (⟨(byts wl).toArray⟩ : ByteArray) = byts wl := lst_mk _
  have hzb : (⟨(byts wl).toArray⟩ : ByteArray).size = ns.length := by rw [← lst_length, hlb, List.length_map, hwl]
  have hnb : nats (byts wl) = wl := nats_byts fun x hx => by have := h11 x hx; omega
  obtain ⟨d, hd⟩ : ∃ d, depthN wl = d := ⟨_, rfl⟩
  rw [hd] at hdep
  obtain ⟨hall, hd11, hl2, hl256, hlast', hsum⟩ := depthN_ok hd hdep
  simp (disch := omega) only [Stp, Same, stepR_value, stepR_skip, r_add, r_sub, r_mul, r_quo, r_rem, r_and, r_or, r_xor, r_andNot, r_shl, r_shr, r_eql, r_neq, r_lss, r_leq, r_gtr, r_geq, r_neg, r_cpl, r_not, r_pick, r_min, r_max, r_nil, x20, x21, x30, x31, x32, x40, x41, x42, x43, ldC_some, Result.ok.injEq, Next.value.injEq, true_and, and_true, w_i64, w_u64, w_i32, w_u32, w_u16, w_u8, Int.toNat_natCast, isB_tt, isB_tf, isB_ft, isB_ff, Gd_true, Gd_false, Gs_true, Gs_false, Cnd_true, Cnd_false, if_true, if_false, Bool.false_eq_true, Nat.zero_add, Option.isNone_some, Option.isNone_none, Bool.not_true, Bool.not_false, List.getElem?_cons_succ, List.getElem?_cons_zero, ln_sl_uint8, cv_int_uint, cv_int_uint8, ln_string, ia_sl_uint8, ld_uint8, cv_uint8_int, bd_weights_Code_0_1, ia_sl_weights_Code, bd_lightermanref08_C_, ix_string, bd_lightermanref08_C_0_1, ia_sl_lightermanref08_C, sl_sl_uint8_lo, sl_sl_uint8_hi, ln_sl_uint32, ia_sl_uint32, ld_uint32, cv_uint32_uint64, sl_sl_uint32_hi, ln_sl_int, ia_sl_int, ld_int, cv_uint_uint32, seql_sl_uint8, cv_uint32_uint8, cv_uint64_uint8, ln_sl_weights_Code, fa_weights_Code_Bits, fa_weights_Code_Code, ln_sl_lightermanref08_C, fa_lightermanref08_C_Bits, fa_lightermanref08_C_Code, bneq_bool, cv_uint16_uint32]
  refine (codes_c (d := d) hb (by rw [hnb]; exact hd) hdep).mono ?_
  rintro r w4 ⟨bc, rfl, hbc, oc, x4⟩
  rw [hnb] at oc
  have hcv := cv_sl_uint8_string (hb.ext x4 (inB_nob _))
  have n1 : ((0 : Int) != 0) = false := rfl
  simp (disch := omega) only [Stp, Same, stepR_value, stepR_skip, r_add, r_sub, r_mul, r_quo, r_rem, r_and, r_or, r_xor, r_andNot, r_shl, r_shr, r_eql, r_neq, r_lss, r_leq, r_gtr, r_geq, r_neg, r_cpl, r_not, r_pick, r_min, r_max, r_nil, x20, x21, x30, x31, x32, x40, x41, x42, x43, ldC_some, Result.ok.injEq, Next.value.injEq, true_and, and_true, w_i64, w_u64, w_i32, w_u32, w_u16, w_u8, Int.toNat_natCast, isB_tt, isB_tf, isB_ft, isB_ff, Gd_true, Gd_false, Gs_true, Gs_false, Cnd_true, Cnd_false, if_true, if_false, Bool.false_eq_true, Nat.zero_add, Option.isNone_some, Option.isNone_none, Bool.not_true, Bool.not_false, List.getElem?_cons_succ, List.getElem?_cons_zero, ln_sl_uint8, cv_int_uint, cv_int_uint8, ln_string, ia_sl_uint8, ld_uint8, cv_uint8_int, bd_weights_Code_0_1, ia_sl_weights_Code, bd_lightermanref08_C_, ix_string, bd_lightermanref08_C_0_1, ia_sl_lightermanref08_C, sl_sl_uint8_lo, sl_sl_uint8_hi, ln_sl_uint32, ia_sl_uint32, ld_uint32, cv_uint32_uint64, sl_sl_uint32_hi, ln_sl_int, ia_sl_int, ld_int, cv_uint_uint32, seql_sl_uint8, cv_uint32_uint8, cv_uint64_uint8, ln_sl_weights_Code, fa_weights_Code_Bits, fa_weights_Code_Code, ln_sl_lightermanref08_C, fa_lightermanref08_C_Bits, fa_lightermanref08_C_Code, bneq_bool, cv_uint16_uint32, n1, hcv]
  refine (refDepth_c (x := ⟨(byts wl).toArray⟩) (by omega)).mono ?_
  rintro r w5 ⟨rfl, rfl⟩
  rw [hlb, hnb, hd]
  have n3 : ((d : Int) == 0) = false := beq_eq_false_iff_ne.2 (by omega)
  simp (disch := omega) only [Stp, Same, stepR_value, stepR_skip, r_add, r_sub, r_mul, r_quo, r_rem, r_and, r_or, r_xor, r_andNot, r_shl, r_shr, r_eql, r_neq, r_lss, r_leq, r_gtr, r_geq, r_neg, r_cpl, r_not, r_pick, r_min, r_max, r_nil, x20, x21, x30, x31, x32, x40, x41, x42, x43, ldC_some, Result.ok.injEq, Next.value.injEq, true_and, and_true, w_i64, w_u64, w_i32, w_u32, w_u16, w_u8, Int.toNat_natCast, isB_tt, isB_tf, isB_ft, isB_ff, Gd_true, Gd_false, Gs_true, Gs_false, Cnd_true, Cnd_false, if_true, if_false, Bool.false_eq_true, Nat.zero_add, Option.isNone_some, Option.isNone_none, Bool.not_true, Bool.not_false, List.getElem?_cons_succ, List.getElem?_cons_zero, ln_sl_uint8, cv_int_uint, cv_int_uint8, ln_string, ia_sl_uint8, ld_uint8, cv_uint8_int, bd_weights_Code_0_1, ia_sl_weights_Code, bd_lightermanref08_C_, ix_string, bd_lightermanref08_C_0_1, ia_sl_lightermanref08_C, sl_sl_uint8_lo, sl_sl_uint8_hi, ln_sl_uint32, ia_sl_uint32, ld_uint32, cv_uint32_uint64, sl_sl_uint32_hi, ln_sl_int, ia_sl_int, ld_int, cv_uint_uint32, seql_sl_uint8, cv_uint32_uint8, cv_uint64_uint8, ln_sl_weights_Code, fa_weights_Code_Bits, fa_weights_Code_Code, ln_sl_lightermanref08_C, fa_lightermanref08_C_Bits, fa_lightermanref08_C_Code, bneq_bool, cv_uint16_uint32, n3]
  have hca := CodesAt.of (c := (byts wl).length) (rest := []) (by rw [List.append_nil]; exact oc)
  have hLl := codesN_length wl d
  have hbl : (byts wl).length = wl.length := by simp
  rw [hLl, ← hbl] at hca
  exact even_tail hk7 (((x1.seq x2).seq x3).seq x4) hwl (by omega) hall hiff hEc hca
end Go.Proofs.Ytoepfjgekpdddaa
