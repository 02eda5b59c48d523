/- Contract: what is a plan is told to be one. -/
import Derived.Test.YtoobkaojepgnjaaMatchE
namespace Go.Proofs.Ytoobkaojepgnjaa
open Go Go.En
set_option maxRecDepth 4000
set_option linter.unusedSimpArgs false

theorem flat_get (s : Sq) (Q : List Sq) : ∀ (P : List Sq), (flat (P ++ s :: Q))[P.length * 3]? = some (.int .u32 s.1) ∧ (flat (P ++ s :: Q))[P.length * 3 + 1]? = some (.int .u32 s.2.1) ∧ (flat (P ++ s :: Q))[P.length * 3 + 2]? = some (.int .u32 s.2.2)
  | [] => ⟨rfl, rfl, rfl⟩
  | x :: P => by
    have ih := flat_get s Q P
    rw [List.length_cons, Nat.add_mul]
    exact ih

theorem plan_c {s : ByteArray} {B : List UInt8} {to a0 b : Nat} {L : List Sq} {v : Value} {w : World} (hB : lst s = B) (hs : B.length ≤ 4294967295) (h0 : a0 ≤ to) (hto : to ≤ B.length) (hv : Cl w 3 v L.length (flat L)) (hpl : plan B to a0 L b) :
    Does pg F_ref17_Plan #[.string s, .int .i64 a0, .int .i64 to, v, .int .i64 ((to - b : Nat) : Int)] w (fun r w' => r = .bool true ∧ Ext w w' nob) := by
  have hsz : s.size = B.length := by rw [← hB, lst_length]
  have hpb := plan_le hpl h0
  obtain ⟨av, c, rfl, hfl, hcl⟩ := hv
  refine ref17_Plan_does ?_
  unfold ref17_Plan ref17_Plan_p18 ref17_Plan_p17 ref17_Plan_p16 ref17_Plan_p15 ref17_Plan_p14 ref17_Plan_p13 ref17_Plan_p12
  refine LoopD.rule (fun m t w' => ∃ (P Q : List Sq) (a1 : Nat), L = P ++ Q ∧ m = Q.length ∧ t = (.int .i64 a1, .int .i64 (P.length : Nat)) ∧ a1 ≤ to ∧ plan B to a1 Q b ∧ Ext w w' nob) L.length ⟨[], L, a0, rfl, rfl, rfl, h0, hpl, Ext.refl _ _⟩ ?_
  rintro m t w1 ⟨P, Q, a1, rfl, rfl, rfl, ha1, hq, hx⟩
  have hp1 := plan_le hq ha1
  cases Q with
  | nil =>
    have e : a1 = b := hq
    subst e
    have d1 : decide ((P.length : Int) < ((P ++ ([] : List Sq)).length : Int)) = false := by simp
    have e : (to : Int) - (a1 : Int) = ((to - a1 : Nat) : Int) := by omega
    unfold ref17_Plan_p11 ref17_Plan_p10 ref17_Plan_p1
    have d2 : (((to - a1 : Nat) : Int) == ((to - a1 : Nat) : Int)) = true := by simp
    simp (disch := omega) only [Stp, Same, stepR_value, stepR_skip, r_add, r_sub, r_mul, r_quo, r_rem, r_and, r_or, r_xor, r_andNot, r_shl, r_shr, r_eql, r_neq, r_lss, r_leq, r_gtr, r_geq, r_neg, r_cpl, r_not, r_pick, r_min, r_max, r_nil, x20, x21, x30, x31, x32, x40, x41, x42, x43, ldC_some, Result.ok.injEq, Next.value.injEq, true_and, and_true, w_i64, w_u64, w_i32, w_u32, w_u16, w_u8, Int.toNat_natCast, isB_tt, isB_tf, isB_ft, isB_ff, Gd_true, Gd_false, Cnd_true, Cnd_false, if_true, if_false, Bool.false_eq_true, Nat.zero_add, Option.isNone_some, Option.isNone_none, Bool.not_true, Bool.not_false, List.getElem?_cons_succ, List.getElem?_cons_zero, ln_sl_uint8, ln_sl_api_Sequence, cv_uint16_int, ia_sl_uint8, cv_uint8_int, ln_string, sl_sl_uint8_hi, bd_match_finder_0_1_2_3_4, cv_int_uint32, bd_api_Sequence_0_1_2, ia_sl_api_Sequence, fa_api_Sequence_Literals, ld_uint32, cv_uint32_int, fa_api_Sequence_Match, fa_api_Sequence_Offset, ix_string, fa_match_finder_last, ld_map_ar4_uint8_int, fa_match_finder_ahead, ld_sl_int, ia_sl_int, fa_match_finder_tries, ld_int, fa_match_finder_b, ld_sl_uint8, bd_ar4_uint8_, sl_sl_uint8_lohi, sa_ar4_uint8, fa_match_finder_to, ld_uint8, d1, e, d2]
    exact hx
  | cons q Q =>
    obtain ⟨l, m, o⟩ := q
    obtain ⟨⟨k1, k2, k3, k4, k5, k6⟩, k7⟩ := hq
    simp only at k1 k2 k3 k4 k5 k6 k7
    have d1 : decide ((P.length : Int) < ((P ++ (l, m, o) :: Q).length : Int)) = true := by simp; omega
    obtain ⟨bb, oo, rfl, hc⟩ := hcl (by simp; omega)
    have hl : P.length < (P ++ (l, m, o) :: Q).length := by simp
    have fl := flat_length (P ++ (l, m, o) :: Q)
    obtain ⟨f0, f1, f2⟩ := flat_get (l, m, o) Q P
    have mem : ∀ w1, Ext w w1 nob → ∀ j x, (flat (P ++ (l, m, o) :: Q))[j]? = some x → w1.cell? ⟨bb, oo + j, none⟩ = some x := fun w1 hx j x hj => by
      have hjl : j < (flat (P ++ (l, m, o) :: Q)).length := by
        rcases Nat.lt_or_ge j (flat (P ++ (l, m, o) :: Q)).length with h | h
        · exact h
        · rw [List.getElem?_eq_none h] at hj; cases hj
      exact cell_ext (by rw [hc j hjl, hj]) hx (fun h => h)
    have hlen : (P ++ (l, m, o) :: Q).length ≤ 4294967295 := by omega
    have d2 : decide ((to : Int) - (a1 : Int) < (l : Int)) = false := by simp; omega
    have d3 : decide ((m : Int) < 3) = false := by simp; omega
    have d4 : decide ((131074 : Int) < (m : Int)) = false := by simp; omega
    have e1 : (a1 : Int) + (l : Int) = ((a1 + l : Nat) : Int) := by omega
    have d5 : decide ((o : Int) < 1) = false := by simp; omega
    have d6 : decide (((a1 + l : Nat) : Int) < (o : Int)) = false := by simp; omega
    have d7 : decide ((to : Int) - ((a1 + l : Nat) : Int) < (m : Int)) = false := by simp; omega
    have g0 := mem w1 hx _ _ f0
    have g1 := mem w1 hx _ _ f1
    have g2 := mem w1 hx _ _ f2
    simp only [← Nat.add_assoc] at g0 g1 g2
    unfold ref17_Plan_p11 ref17_Plan_p10 ref17_Plan_p9 ref17_Plan_p8 ref17_Plan_p7 ref17_Plan_p6
    simp (disch := omega) only [Stp, Same, stepR_value, stepR_skip, r_add, r_sub, r_mul, r_quo, r_rem, r_and, r_or, r_xor, r_andNot, r_shl, r_shr, r_eql, r_neq, r_lss, r_leq, r_gtr, r_geq, r_neg, r_cpl, r_not, r_pick, r_min, r_max, r_nil, x20, x21, x30, x31, x32, x40, x41, x42, x43, ldC_some, Result.ok.injEq, Next.value.injEq, true_and, and_true, w_i64, w_u64, w_i32, w_u32, w_u16, w_u8, Int.toNat_natCast, isB_tt, isB_tf, isB_ft, isB_ff, Gd_true, Gd_false, Cnd_true, Cnd_false, if_true, if_false, Bool.false_eq_true, Nat.zero_add, Option.isNone_some, Option.isNone_none, Bool.not_true, Bool.not_false, List.getElem?_cons_succ, List.getElem?_cons_zero, ln_sl_uint8, ln_sl_api_Sequence, cv_uint16_int, ia_sl_uint8, cv_uint8_int, ln_string, sl_sl_uint8_hi, bd_match_finder_0_1_2_3_4, cv_int_uint32, bd_api_Sequence_0_1_2, ia_sl_api_Sequence, fa_api_Sequence_Literals, ld_uint32, cv_uint32_int, fa_api_Sequence_Match, fa_api_Sequence_Offset, ix_string, fa_match_finder_last, ld_map_ar4_uint8_int, fa_match_finder_ahead, ld_sl_int, ia_sl_int, fa_match_finder_tries, ld_int, fa_match_finder_b, ld_sl_uint8, bd_ar4_uint8_, sl_sl_uint8_lohi, sa_ar4_uint8, fa_match_finder_to, ld_uint8, d1, d2, d3, d4, e1, d5, d6, d7, g0, g1, g2]
    unfold ref17_Plan_p5 ref17_Plan_p4
    refine LoopD.rule (fun n t w' => ∃ k x : Nat, n = m - k ∧ x = a1 + l + k ∧ t = (.int .i64 (x : Nat), .int .i64 k) ∧ k ≤ m ∧ Ext w w' nob) m ⟨0, a1 + l, rfl, rfl, rfl, by omega, hx⟩ ?_
    rintro n t w2 ⟨k, x, rfl, hxk, rfl, hk, hx⟩
    have g1 := mem w2 hx _ _ f1
    simp only [← Nat.add_assoc] at g1
    by_cases hlt : k < m
    · have d8 : decide ((k : Int) < (m : Int)) = true := by simp; omega
      obtain ⟨y, hy⟩ : ∃ y, y = x - o := ⟨_, rfl⟩
      have e2 : (x : Int) - (o : Int) = (y : Int) := by omega
      have hsame := k6 k hlt
      rw [← hxk, ← hy] at hsame
      have hxs : x < s.size := by omega
      have hys : y < s.size := by omega
      have hne : (((s[x]'hxs).toNat : Int) != ((s[y]'hys).toNat : Int)) = false := by
        rw [lst_get s x hxs, lst_get s y hys]
        subst hB
        rw [List.getElem?_eq_getElem (by omega), List.getElem?_eq_getElem (by omega)] at hsame
        rw [Option.some.inj hsame]
        simp
      simp (disch := omega) only [ref17_Plan_p3, Stp, Same, stepR_value, stepR_skip, r_add, r_sub, r_mul, r_quo, r_rem, r_and, r_or, r_xor, r_andNot, r_shl, r_shr, r_eql, r_neq, r_lss, r_leq, r_gtr, r_geq, r_neg, r_cpl, r_not, r_pick, r_min, r_max, r_nil, x20, x21, x30, x31, x32, x40, x41, x42, x43, ldC_some, Result.ok.injEq, Next.value.injEq, true_and, and_true, w_i64, w_u64, w_i32, w_u32, w_u16, w_u8, Int.toNat_natCast, isB_tt, isB_tf, isB_ft, isB_ff, Gd_true, Gd_false, Cnd_true, Cnd_false, if_true, if_false, Bool.false_eq_true, Nat.zero_add, Option.isNone_some, Option.isNone_none, Bool.not_true, Bool.not_false, List.getElem?_cons_succ, List.getElem?_cons_zero, ln_sl_uint8, ln_sl_api_Sequence, cv_uint16_int, ia_sl_uint8, cv_uint8_int, ln_string, sl_sl_uint8_hi, bd_match_finder_0_1_2_3_4, cv_int_uint32, bd_api_Sequence_0_1_2, ia_sl_api_Sequence, fa_api_Sequence_Literals, ld_uint32, cv_uint32_int, fa_api_Sequence_Match, fa_api_Sequence_Offset, ix_string, fa_match_finder_last, ld_map_ar4_uint8_int, fa_match_finder_ahead, ld_sl_int, ia_sl_int, fa_match_finder_tries, ld_int, fa_match_finder_b, ld_sl_uint8, bd_ar4_uint8_, sl_sl_uint8_lohi, sa_ar4_uint8, fa_match_finder_to, ld_uint8, d8, g1, e2, hne]
      exact ⟨m - (k + 1), by omega, k + 1, x + 1, rfl, by omega, rfl, by omega, hx.seq (Ext.dr _ _)⟩
    · have d8 : decide ((k : Int) < (m : Int)) = false := by simp; omega
      have : k = m := by omega
      subst this
      unfold ref17_Plan_p3 ref17_Plan_p2
      simp (disch := omega) only [Stp, Same, stepR_value, stepR_skip, r_add, r_sub, r_mul, r_quo, r_rem, r_and, r_or, r_xor, r_andNot, r_shl, r_shr, r_eql, r_neq, r_lss, r_leq, r_gtr, r_geq, r_neg, r_cpl, r_not, r_pick, r_min, r_max, r_nil, x20, x21, x30, x31, x32, x40, x41, x42, x43, ldC_some, Result.ok.injEq, Next.value.injEq, true_and, and_true, w_i64, w_u64, w_i32, w_u32, w_u16, w_u8, Int.toNat_natCast, isB_tt, isB_tf, isB_ft, isB_ff, Gd_true, Gd_false, Cnd_true, Cnd_false, if_true, if_false, Bool.false_eq_true, Nat.zero_add, Option.isNone_some, Option.isNone_none, Bool.not_true, Bool.not_false, List.getElem?_cons_succ, List.getElem?_cons_zero, ln_sl_uint8, ln_sl_api_Sequence, cv_uint16_int, ia_sl_uint8, cv_uint8_int, ln_string, sl_sl_uint8_hi, bd_match_finder_0_1_2_3_4, cv_int_uint32, bd_api_Sequence_0_1_2, ia_sl_api_Sequence, fa_api_Sequence_Literals, ld_uint32, cv_uint32_int, fa_api_Sequence_Match, fa_api_Sequence_Offset, ix_string, fa_match_finder_last, ld_map_ar4_uint8_int, fa_match_finder_ahead, ld_sl_int, ia_sl_int, fa_match_finder_tries, ld_int, fa_match_finder_b, ld_sl_uint8, bd_ar4_uint8_, sl_sl_uint8_lohi, sa_ar4_uint8, fa_match_finder_to, ld_uint8, d8, g1]
      exact ⟨Q.length, by simp, P ++ [(l, k, o)], Q, x, by simp, rfl, by simp, by omega, by rw [hxk]; exact k7, hx⟩
end Go.Proofs.Ytoobkaojepgnjaa
