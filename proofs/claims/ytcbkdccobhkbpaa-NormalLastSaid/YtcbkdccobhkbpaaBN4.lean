/- The law NormalLast, whole. -/
import Derived.Test.YtcbkdccobhkbpaaBN3
namespace Go.Proofs.Ytcbkdccobhkbpaa
open Go Go.En Go.Pu
set_option maxRecDepth 4000
set_option linter.unusedSimpArgs false
set_option linter.unusedVariables false

/-- counts that grow -/
def Gr (w : World) (pc log : Nat) (ps : List Int) : Prop := ∃ v, Own w pc [.int .i64 log, v] ∧ OSl w (pc + 1) 1 v ps.length (ps.map (Value.int .i64))

theorem grPush {w : World} {pc log : Nat} {ps : List Int} {v : Value} (oc : Own w pc [.int .i64 log, v]) (os : OSl w (pc + 1) 1 v ps.length (ps.map (Value.int .i64))) (p : Int) (hl : ps.length ≤ 100000000) {K : World → Prop}
    (hK : ∀ w', Gr w' pc log (ps ++ [p]) → Ext w w' (fun y => pc ≤ y) → K w') :
    Stp pg (sBuildSlice 22 1 [(0, .int .i64 p)]) w fun t64 w => Stp pg (sBi .append #[22, 22] 22 [v, t64]) w fun t65 w => Stp pg (sFAddr 24 (.pointer (some ⟨pc, 0, none⟩)) 1) w fun t66 w => Stp pg (sStore 22 t66 t65) w fun _ w => K w := by
  have lpc := oc.lt
  refine bs_sl_int (cells := #[.int .i64 p]) (by decide) (by decide) (by kernel_rfl) fun w4 o4 x4 s4 => ?_
  have z4 := x4.size
  refine ap_sl_int_sl_int (m := 1) (news := [.int .i64 p]) (os.ext x4 (fun _ _ h => h)) (o4.cl (off := 0) (l := [.int .i64 p]) (n := 1) rfl (fun i hi => by rw [Nat.zero_add])) (by simp [one]) (by omega) (by omega) fun v5 w5 o5 x5 => ?_
  have z5 := x5.size
  obtain ⟨av5, cv5, rfl⟩ := o5.len
  have oc5 := (oc.ext x4 (fun h => h)).ext x5 (by omega)
  simp (disch := omega) only [Stp, fa_normal_Counts_Part, Nat.zero_add, stepR_value]
  refine st_sl_int oc5 rfl (by simp) fun w6 oc6 x6 s6 => ?_
  simp only [List.set_cons_zero, List.set_cons_succ] at oc6
  have ov6 := o5.ext x6 (fun b hb h => by omega)
  have x26 : Ext w w6 (fun y => pc ≤ y) := ((x4.mono fun _ _ h => h.elim).seq (x5.mono fun y _ h => by omega)).seq (x6.mono fun y _ h => by omega)
  rw [show (ps.map (Value.int .i64) ++ [Value.int .i64 p]) = (ps ++ [p]).map (Value.int .i64) from by simp, show ps.length + 1 = (ps ++ [p]).length from by simp] at ov6
  rw [show ps.length + 1 = (ps ++ [p]).length from by simp] at oc6
  exact hK w6 ⟨_, oc6, ov6⟩ x26

theorem last_end {w0 w : World} {pc k : Nat} {ps : List Int} (hm : May k ps) (h8 : k ≤ 8) (hg : Gr w pc k ps) (hx : Ext w0 w nob) :
    law06_NormalLast_p1 (fun r w' => r = .bool true ∧ Ext w0 w' nob) (.int .i64 k) (.pointer (some ⟨pc, 0, none⟩)) w := by
  have h256 := hm.len256
  have h5 := hm.log5
  obtain ⟨v, oc, os⟩ := hg
  obtain ⟨av, cv, rfl⟩ := os.len
  have hs := os.sl
  have lc := lda_normal_Counts (off := 0) oc (by simp)
  simp only [List.drop_zero, List.take_succ_cons, List.take_zero] at lc
  unfold law06_NormalLast_p1
  simp (disch := omega) only [Stp, lc, Same, and_true, true_and, stepR_value]
  refine (check_c (log := (k : Int)) (ps := ps) (most := 15) hs (by omega)).mono ?_
  rintro r w1 ⟨rfl, x1⟩
  have hce : chkE (k : Int) ps 15 = 0 := by unfold chkE; rw [hm.b]; simp; omega
  have hce2 : chkE (k : Int) ps ((k : Int) - 1) = 12 := by unfold chkE; rw [hm.b]; simp; omega
  rw [hce]
  have oc1 := oc.ext x1 (fun h => h)
  have lc1 := lda_normal_Counts (off := 0) oc1 (by simp)
  simp only [List.drop_zero, List.take_succ_cons, List.take_zero] at lc1
  simp (disch := omega) only [lc1, r_eql, stepR_value, r_pick, true_and]
  refine (normWrite_c hm (hs.ext x1 (inB_nob _))).mono ?_
  rintro r w2 ⟨bytes, v2, rfl, hh, hov, x2⟩
  have hD := descW_len hm
  have hbl := hh.len
  obtain ⟨a2, c2, rfl⟩ := hov.len
  have hb2 : Bs w2 _ bytes := hov.sl
  simp (disch := omega) only [x20, x21, stepR_value]
  refine (normRead_c (most := 15) (sym := 256) hb2 (by omega) (by omega)).mono ?_
  rintro r w3 ⟨hr3, x3⟩
  rw [held_readL hm hh (by omega) h256] at hr3
  obtain ⟨v3, rfl, ho3⟩ := hr3
  obtain ⟨a3, c3, rfl⟩ := ho3.len
  simp (disch := omega) only [x30, x31, x32, stepR_value]
  refine al_normal_Counts fun w4 o4 x4 s4 => ?_
  refine sta_normal_Counts o4 rfl (by simp [one]) (by simp) fun w5 o5 x5 s5 => ?_
  simp only [setAll, List.set_cons_zero, List.set_cons_succ] at o5
  have x35 : Ext w3 w5 nob := x4.new x5 (by omega)
  have x15 := (x2.seq x3).seq x35
  have x05 := x1.seq x15
  have ocd := own_dr (oc1.ext x15 (fun h => h))
  have o5d := own_dr o5
  have la := lda_normal_Counts (off := 0) ocd (by simp)
  have lb := lda_normal_Counts (off := 0) o5d (by simp)
  simp only [List.drop_zero, List.take_succ_cons, List.take_zero] at la lb
  have hsc := (hs.ext x05 (inB_nob _)).ext (Ext.dr w5 nob) (inB_nob _)
  have hs3 := (ho3.sl.ext x35 (inB_nob _)).ext (Ext.dr w5 nob) (inB_nob _)
  have m2 : ((0 : Int) == 0) = true := rfl
  have m3 : (((bytes.length : Nat) : Int) == ((bytes.length : Nat) : Int)) = true := by simp
  simp (disch := omega) only [m2, isB_tt, if_true, la, stepR_value, lb, Result.ok.injEq, Next.value.injEq, and_true, Gd_true, r_eql, r_pick, true_and, ln_sl_uint8, m3, Gs_true]
  refine (model6_c hsc).mono ?_
  rintro r w6 ⟨rfl, x6⟩
  have lb6 := lda_normal_Counts (off := 0) (o5d.ext x6 (fun h => h)) (by simp)
  simp only [List.drop_zero, List.take_succ_cons, List.take_zero] at lb6
  simp (disch := omega) only [lb6, stepR_value, true_and]
  refine (model6_c (hs3.ext x6 (inB_nob _))).mono ?_
  rintro r w7 ⟨rfl, x7⟩
  have x57 := x6.seq x7
  refine (same6_c (hsc.ext x57 (inB_nob _)) (hs3.ext x57 (inB_nob _)) (by omega)).mono ?_
  rintro r w8 ⟨rfl, x8⟩
  have x58 := x57.seq x8
  have lc8 := lda_normal_Counts (off := 0) (ocd.ext x58 (fun h => h)) (by simp)
  simp only [List.drop_zero, List.take_succ_cons, List.take_zero] at lc8
  simp (disch := omega) only [isB_tt, lc8, stepR_value, r_pick, if_true, true_and, Gd_true, r_sub, w_i64]
  refine (check_c (log := (k : Int)) (ps := ps) (most := (k : Int) - 1) (hsc.ext x58 (inB_nob _)) (by omega)).mono ?_
  rintro r w9 ⟨rfl, x9⟩
  rw [hce2]
  have m4 : ((12 : Int) == 12) = true := rfl
  simp (disch := omega) only [r_eql, m4, stepR_value, true_and]
  exact (((hx.seq x05).seq (Ext.dr w5 nob)).seq x58).seq x9

theorem normalLast_c {lg n : Nat} {rare : Bool} {w : World} (hlg : lg < 256) (hn : n < 256) :
    Does pg F_law06_NormalLast #[.int .u8 lg, .int .u8 n, .bool rare] w (fun r w' => r = .bool true ∧ Ext w w' nob) := by
  refine law06_NormalLast_does ?_
  unfold law06_NormalLast law06_NormalLast_p19 law06_NormalLast_p18
  refine (awake6_c w).mono ?_
  rintro r w1 ⟨rfl, x1⟩
  have e1 : (lg : Int).tmod 4 = ((lg % 4 : Nat) : Int) := by rw [Int.tmod_eq_emod_of_nonneg (by omega)]; omega
  have e2 : (5 : Int) + ((lg % 4 : Nat) : Int) = ((5 + lg % 4 : Nat) : Int) := by omega
  have hk : 5 ≤ 5 + lg % 4 ∧ 5 + lg % 4 ≤ 8 := by omega
  have hml : lg % 4 < 4 := by omega
  simp (disch := omega) only [Stp, r_not, Bool.not_true, r_rem, e1, stepR_value, cv_uint8_int, w_i64, r_add, e2, bd_normal_Counts_0, Cnd_false]
  generalize 5 + lg % 4 = k at *
  refine al_normal_Counts fun w2 o2 x2 s2 => ?_
  refine sta_normal_Counts o2 rfl (by simp [one]) (by simp) fun w3 o3 x3 s3 => ?_
  simp only [setAll, List.set_cons_zero, List.set_cons_succ] at o3
  have x13 : Ext w1 w3 nob := x2.new x3 (by omega)
  have x03 := x1.seq x13
  have z1 := x1.size
  have z13 := x13.size
  have hpc : w.heap.size ≤ w1.heap.size := z1
  generalize w1.heap.size = pc at *
  have e3 : (n : Int).tmod 20 = ((n % 20 : Nat) : Int) := by rw [Int.tmod_eq_emod_of_nonneg (by omega)]; omega
  have hnl : n % 20 < 20 := by omega
  have hshl := shl1 (n := k) (by omega)
  have hp8 : 2 ^ k ≤ 2 ^ 8 := Nat.pow_le_pow_right (by omega) hk.2
  unfold law06_NormalLast_p17 law06_NormalLast_p16 law06_NormalLast_p15 law06_NormalLast_p14 law06_NormalLast_p13
  refine LoopD.rule (fun m (t : Value) w' => ∃ i : Nat, m = n % 20 - i ∧ t = .int .i64 i ∧ i ≤ n % 20 ∧ Gr w' pc k (List.replicate i 0) ∧ Ext w3 w' (fun y => pc ≤ y)) (n % 20) ⟨0, rfl, rfl, by omega, ⟨_, o3, OSl.nil _ _ _⟩, Ext.refl _ _⟩ ?_
  rintro m t w4 ⟨i, rfl, rfl, hi, hg, x4⟩
  unfold law06_NormalLast_p12
  by_cases hlt : i < n % 20
  · have d1 : decide ((i : Int) < ((n % 20 : Nat) : Int)) = true := by simp only [decide_eq_true_eq]; omega
    obtain ⟨v4, oc4, os4⟩ := hg
    have c4 := oc4.cell (off := 1)
    simp only [List.getElem?_cons_zero, List.getElem?_cons_succ] at c4
    simp (disch := omega) only [Stp, r_rem, e3, fa_normal_Counts_Part, Nat.zero_add, r_add, w_i64, stepR_value, ld_sl_int, cv_uint8_int, r_lss, d1, c4, ldC_some, Cnd_true]
    refine grPush oc4 os4 0 (by simp; omega) fun w5 h5 x5 => ?_
    rw [← List.replicate_succ'] at h5
    exact ⟨n % 20 - (i + 1), by omega, i + 1, rfl, rfl, by omega, h5, x4.seq x5⟩
  · have d1 : decide ((i : Int) < ((n % 20 : Nat) : Int)) = false := by simp only [decide_eq_false_iff_not]; omega
    have hi20 : i ≤ 255 := by omega
    have x04 : Ext w w4 nob := x03.trans x4 fun b hb h => by omega
    have z4 := x4.size
    obtain ⟨v4, oc4, os4⟩ := hg
    have c4 := oc4.cell (off := 1)
    simp only [List.getElem?_cons_zero, List.getElem?_cons_succ] at c4
    simp (disch := omega) only [Stp, r_rem, e3, fa_normal_Counts_Part, Nat.zero_add, r_add, w_i64, stepR_value, ld_sl_int, cv_uint8_int, r_lss, d1, Cnd_false]
    unfold law06_NormalLast_p11 law06_NormalLast_p10 law06_NormalLast_p9 law06_NormalLast_p8
    cases rare with
    | false =>
      unfold law06_NormalLast_p7
      simp (disch := omega) only [Stp, fa_normal_Counts_Part, Nat.zero_add, cv_int_uint, w_u64, stepR_value, r_shl, Int.toNat_natCast, hshl, ld_sl_int, c4, ldC_some, Cnd_false]
      refine grPush oc4 os4 ((2 ^ k : Nat) : Int) (by simp; omega) fun w5 h5 x5 => ?_
      exact last_end (may_alone hk.1 (by omega) hi20) hk.2 h5 (x04.trans x5 fun b hb h => by omega)
    | true =>
      unfold law06_NormalLast_p6 law06_NormalLast_p5
      simp (disch := omega) only [Stp, fa_normal_Counts_Part, Nat.zero_add, stepR_value, Cnd_true]
      obtain ⟨av, cv, rfl⟩ := os4.len
      refine st_sl_int oc4 rfl (by simp) fun w5 oc5 x5 s5 => ?_
      simp only [List.set_cons_zero, List.set_cons_succ] at oc5
      have x05 : Ext w w5 nob := x04.trans x5 fun b hb h => by omega
      have z5 := x5.size
      unfold law06_NormalLast_p4 law06_NormalLast_p3
      refine LoopD.rule (fun m (t : Value) w' => ∃ i : Nat, m = 2 ^ k - i ∧ t = .int .i64 i ∧ i ≤ 2 ^ k ∧ Gr w' pc k (List.replicate i (-1)) ∧ Ext w5 w' (fun y => pc ≤ y)) (2 ^ k) ⟨0, rfl, rfl, Nat.zero_le _, ⟨_, oc5, OSl.nil _ _ _⟩, Ext.refl _ _⟩ ?_
      rintro m t w6 ⟨j, rfl, rfl, hj, hg6, x6⟩
      obtain ⟨v6, oc6, os6⟩ := hg6
      have c6 := oc6.cell (off := 1)
      simp only [List.getElem?_cons_zero, List.getElem?_cons_succ] at c6
      unfold law06_NormalLast_p2
      by_cases hlt2 : j < 2 ^ k
      · have d2 : decide ((j : Int) < ((2 ^ k : Nat) : Int)) = true := by simp only [decide_eq_true_eq]; omega
        simp (disch := omega) only [Stp, cv_int_uint, w_u64, fa_normal_Counts_Part, Nat.zero_add, r_add, w_i64, stepR_value, ld_sl_int, r_shl, Int.toNat_natCast, hshl, r_lss, d2, c6, ldC_some, Cnd_true]
        refine grPush oc6 os6 (-1) (by simp; omega) fun w7 h7 x7 => ?_
        rw [← List.replicate_succ'] at h7
        exact ⟨2 ^ k - (j + 1), by omega, j + 1, rfl, rfl, by omega, h7, x6.seq x7⟩
      · have d2 : decide ((j : Int) < ((2 ^ k : Nat) : Int)) = false := by simp only [decide_eq_false_iff_not]; omega
        obtain rfl : j = 2 ^ k := by omega
        simp (disch := omega) only [Stp, cv_int_uint, w_u64, fa_normal_Counts_Part, Nat.zero_add, r_add, stepR_value, ld_sl_int, r_shl, Int.toNat_natCast, hshl, r_lss, d2, Cnd_false]
        exact last_end (may_rare hk.1 hk.2) hk.2 ⟨_, oc6, os6⟩ (x05.trans x6 fun b hb h => by omega)
end Go.Proofs.Ytcbkdccobhkbpaa

