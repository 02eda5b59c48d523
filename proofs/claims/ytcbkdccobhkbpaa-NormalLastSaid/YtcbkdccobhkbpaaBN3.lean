/- The law NormalReads, whole. -/
import Derived.Test.YtcbkdccobhkbpaaBN2
import Derived.Test.YtcbkdccobhkbpaaPuN
namespace Go.Proofs.Ytcbkdccobhkbpaa
open Go Go.En Go.Pu
set_option maxRecDepth 4000
set_option linter.unusedSimpArgs false
set_option linter.unusedVariables false

theorem readL_ok {L : List Bool} {most : Int} {sym log used : Nat} {ps : List Int} (h : readL L most sym = .ok (log, ps, used)) : (ps.length ≤ 256 → May log ps) ∧ (log : Int) ≤ most ∧ ps.length ≤ sym := by
  unfold readL at h
  split at h
  · cases h
  · simp only at h
    split at h
    · cases h
    · rename_i h1 h2
      have hpow : ((2 ^ (numAt L 0 4 + 5) : Nat) : Int) = (2 : Int) ^ (numAt L 0 4 + 5) := by simp
      have hp := Nat.two_pow_pos (numAt L 0 4 + 5)
      cases hr : rdC L sym (L.length + 1) 4 (2 ^ (numAt L 0 4 + 5)) [] with
      | error e => rw [hr] at h; cases h
      | ok x =>
        obtain ⟨p, st⟩ := x
        rw [hr] at h
        cases h
        have e0 : sumP [] = 0 := rfl
        obtain ⟨q1, q2, q3, q4, q5⟩ := rdC_sound (tot := (2 : Int) ^ (numAt L 0 4 + 5)) hr (by simp) (by rw [e0, hpow]; omega) (fun h => by omega)
        exact ⟨fun hs => ⟨by omega, by omega, q5, hs, q4, q1, q2⟩, by omega, q3⟩
theorem rdC_err {L : List Bool} {sym : Nat} {e : Int} : ∀ {f st left : Nat} {ps : List Int}, rdC L sym f st left ps = .error e → e = 10 ∨ e = 11
  | 0, st, left, ps, h => by cases h; exact .inl rfl
  | f + 1, st, left, ps, h => by
    by_cases h0 : left = 0
    · rw [rdC_succ, if_pos h0] at h; cases h
    · rw [rdC_alt h0] at h
      split at h
      · cases h; exact .inl rfl
      · split at h
        · cases h; exact .inl rfl
        · split at h
          · cases h; exact .inr rfl
          · exact rdC_err h
theorem readL_err {L : List Bool} {most : Int} {sym : Nat} {e : Int} (h : readL L most sym = .error e) : e ≠ 0 := by
  unfold readL at h
  split at h
  · cases h; decide
  · simp only at h
    split at h
    · cases h; decide
    · split at h
      · rename_i hr
        cases h
        rcases rdC_err hr with h | h <;> omega
      · cases h

theorem normalReads_c {bv : Value} {l : List UInt8} {most sym : Int} {w : World} (hb : Bs w bv l) (hl : l.length ≤ 9223372036854775807) :
    Does pg F_law06_NormalReads #[bv, .int .i64 most, .int .i64 sym] w (fun r w' => r = .bool true ∧ Ext w w' nob) := by
  refine law06_NormalReads_does ?_
  unfold law06_NormalReads law06_NormalReads_p1
  obtain ⟨ba, bn, bc, hbv, hbn, hbc, _⟩ := id hb
  rw [List.length_map] at hbn
  subst hbn
  have hbv' := hbv
  subst hbv'
  refine (awake6_c w).mono ?_
  rintro r w1 ⟨rfl, x1⟩
  by_cases h1 : 300 < l.length
  · have d1 : decide ((300 : Int) < (l.length : Int)) = true := by simp; omega
    simp (disch := omega) only [Stp, r_not, Bool.not_true, ln_sl_uint8, true_and, Same, and_true, stepR_value, r_gtr, d1, isB_tf, r_pick, if_true, Cnd_true, Gd_false, Cnd_false]
    exact x1
  have d1 : decide ((300 : Int) < (l.length : Int)) = false := by simp; omega
  by_cases h2 : sym < 0
  · have d2 : decide (sym < 0) = true := by simpa using h2
    simp (disch := omega) only [Stp, r_not, Bool.not_true, ln_sl_uint8, true_and, Same, and_true, stepR_value, r_gtr, d1, isB_ff, r_pick, Bool.false_eq_true, if_false, Gd_true, r_lss, d2, isB_tf, if_true, Cnd_true, Gd_false, Cnd_false]
    exact x1
  have d2 : decide (sym < 0) = false := by simpa using h2
  by_cases h3 : 1000 < sym
  · have d3 : decide (1000 < sym) = true := by simpa using h3
    simp (disch := omega) only [Stp, r_not, Bool.not_true, ln_sl_uint8, true_and, Same, and_true, stepR_value, r_gtr, d1, isB_ff, r_pick, Bool.false_eq_true, if_false, Gd_true, r_lss, d2, d3, Cnd_true, Cnd_false]
    exact x1
  have d3 : decide (1000 < sym) = false := by simpa using h3
  obtain ⟨sym, rfl⟩ : ∃ s : Nat, sym = s := ⟨sym.toNat, by omega⟩
  simp (disch := omega) only [Stp, r_not, Bool.not_true, ln_sl_uint8, true_and, Same, and_true, stepR_value, r_gtr, d1, isB_ff, r_pick, Bool.false_eq_true, if_false, Gd_true, r_lss, d2, d3, Cnd_false]
  refine (normRead_c (most := most) (sym := sym) (hb.ext x1 (inB_nob _)) (by omega) (by omega)).mono ?_
  rintro r w2 ⟨hr, x2⟩
  obtain ⟨a2, c2, rfl, ho2⟩ := hr.words
  simp (disch := omega) only [x30, x31, x32, stepR_value, r_neq, r_pick]
  refine al_normal_Counts fun w3 o3 x3 s3 => ?_
  refine sta_normal_Counts o3 rfl (by simp [one]) (by simp) fun w4 o4 x4 s4 => ?_
  simp only [setAll, List.set_cons_zero, List.set_cons_succ] at o4
  have x24 : Ext w2 w4 nob := x3.new x4 (by omega)
  have x04 := (x1.seq x2).seq x24
  have hcv := cv_sl_uint8_string (hb.ext x04 (inB_nob _))
  have hlst : lst ⟨l.toArray⟩ = l := lst_mk l
  have hsz : (⟨l.toArray⟩ : ByteArray).size = l.length := by rw [← lst_length, hlst]
  simp (disch := omega) only [hcv, fa_normal_Counts_Part, Nat.zero_add, stepR_value]
  refine (refRead6_c (s := ⟨l.toArray⟩) (most := most) (sym := sym) (by omega) (by omega)).mono ?_
  rintro r w5 ⟨hr5, x5⟩
  rw [hlst] at hr5
  obtain ⟨a5, c5, rfl, ho5⟩ := hr5.words
  have hok := fun lg ps u => readL_ok (L := bitsB l) (most := most) (sym := sym) (log := lg) (ps := ps) (used := u)
  have her := fun e => readL_err (L := bitsB l) (most := most) (sym := sym) (e := e)
  generalize readL (bitsB l) most sym = o at *
  have hlen : (cPs o).length ≤ sym := by
    cases o with
    | error e => simp [cPs]
    | ok x => obtain ⟨lg, ps, u⟩ := x; exact (hok lg ps u rfl).2.2
  simp (disch := omega) only [x30, x31, x32, stepR_value, r_neq, r_pick, true_and]
  refine al_lightermanref06_C fun w6 o6 x6 s6 => ?_
  refine sta_lightermanref06_C o6 rfl (by simp [one]) (by simp) fun w7 o7 x7 s7 => ?_
  simp only [setAll, List.set_cons_zero, List.set_cons_succ] at o7
  have x57 : Ext w5 w7 nob := x6.new x7 (by omega)
  have x47 := x5.seq x57
  have x07 := x04.seq x47
  have o47 := own_dr (o4.ext x47 (fun h => h))
  have l4 := lda_normal_Counts (off := 0) o47 (by simp)
  have l7 := lda_lightermanref06_C (off := 0) (own_dr o7) (by simp)
  simp only [List.drop_zero, List.take_succ_cons, List.take_zero] at l4 l7
  have n1 : (cUsed o != cUsed o) = false := by simp
  have n2 : (cErr o != cErr o) = false := by simp
  have hs2 := ((ho2.ext x24 (fun _ _ h => h)).ext x47 (fun _ _ h => h)).sl.ext (Ext.dr w7 nob) (inB_nob _)
  have hs5 := (ho5.ext x57 (fun _ _ h => h)).sl.ext (Ext.dr w7 nob) (inB_nob _)
  simp (disch := omega) only [n1, isB_ff, Bool.false_eq_true, if_false, l4, stepR_value, Gd_true, true_and, r_neq, n2, Gs_true, r_pick]
  refine (model6_c hs2).mono ?_
  rintro r w8 ⟨rfl, x8⟩
  have l7' := lda_lightermanref06_C (off := 0) ((own_dr o7).ext x8 (fun h => h)) (by simp)
  simp only [List.drop_zero, List.take_succ_cons, List.take_zero] at l7'
  simp (disch := omega) only [l7', l7, Result.ok.injEq, Next.value.injEq, and_true, stepR_value, true_and]
  refine (same6_c (hs2.ext x8 (inB_nob _)) (hs5.ext x8 (inB_nob _)) (by omega)).mono ?_
  rintro r w9 ⟨rfl, x9⟩
  have x79 : Ext w7 w9 nob := ((Ext.dr w7 nob).seq x8).seq x9
  have x09 := x07.seq x79
  cases o with
  | error e =>
    have n3 : (cErr (.error e : Except Int (Nat × List Int × Nat)) != 0) = true := by simpa [cErr] using her e rfl
    simp (disch := omega) only [r_not, Bool.not_true, n3, isB_tf, if_true, Cnd_true, Gd_false, stepR_value, Cnd_false, true_and]
    exact x09
  | ok x =>
    obtain ⟨lg, ps, u⟩ := x
    obtain ⟨q1, q2, q3⟩ := hok lg ps u rfl
    have n3 : (cErr (.ok (lg, ps, u) : Except Int (Nat × List Int × Nat)) != 0) = false := rfl
    by_cases h4 : 256 < sym
    · have d4 : decide ((256 : Int) < (sym : Int)) = true := by simp; omega
      simp (disch := omega) only [r_not, Bool.not_true, n3, isB_ff, Bool.false_eq_true, if_false, Gd_true, r_gtr, d4, stepR_value, Cnd_true, Cnd_false, true_and]
      exact x09
    · have d4 : decide ((256 : Int) < (sym : Int)) = false := by simp; omega
      have hm := q1 (by omega)
      have o49 := (o4.ext x47 (fun h => h)).ext x79 (fun h => h)
      have l49 := lda_normal_Counts (off := 0) o49 (by simp)
      simp only [List.drop_zero, List.take_succ_cons, List.take_zero] at l49
      have hs9 := ((ho2.ext x24 (fun _ _ h => h)).ext x47 (fun _ _ h => h)).sl.ext x79 (inB_nob _)
      have hce : chkE (lg : Int) ps most = 0 := by unfold chkE; rw [hm.b]; simp; omega
      simp (disch := omega) only [r_not, Bool.not_true, n3, isB_ff, Bool.false_eq_true, if_false, Gd_true, r_gtr, d4, stepR_value, l49, Cnd_false, true_and]
      refine (check_c (log := (lg : Int)) (ps := ps) (most := most) hs9 (by omega)).mono ?_
      rintro r w10 ⟨rfl, x10⟩
      rw [hce]
      have n4 : ((0 : Int) == 0) = true := rfl
      have c10 := (o49.ext x10 (fun h => h)).cell (off := 1)
      simp only [List.getElem?_cons_zero, List.getElem?_cons_succ] at c10
      have d5 : decide (((cPs (.ok (lg, ps, u) : Except Int (Nat × List Int × Nat))).length : Int) ≤ (sym : Int)) = true := by
        simp only [decide_eq_true_eq]; omega
      simp (disch := omega) only [r_eql, n4, stepR_value, isB_tt, r_pick, if_true, Gd_true, ld_sl_int, c10, ldC_some, ln_sl_int, r_leq, d5, true_and]
      exact x09.seq x10
end Go.Proofs.Ytcbkdccobhkbpaa
/- The law NormalWrites, whole. -/
namespace Go.Proofs.Ytcbkdccobhkbpaa
open Go Go.En Go.Pu
set_option maxRecDepth 4000
set_option linter.unusedSimpArgs false
set_option linter.unusedVariables false

theorem normalWrites_c {log most : Int} {sv : Value} {ps : List Int} {w : World} (hs : Sl w sv (ps.map (Value.int .i64))) (hl : ps.length ≤ 9223372036854775807) :
    Does pg F_law06_NormalWrites #[.agg #[.int .i64 log, sv], .int .i64 most] w (fun r w' => r = .bool true ∧ Ext w w' nob) := by
  refine law06_NormalWrites_does ?_
  unfold law06_NormalWrites law06_NormalWrites_p1
  obtain ⟨a, c, rfl, hc⟩ := hs.lenI
  refine stp_box fun w1 o1 x1 s1 => ?_
  simp only [Value.cells] at o1
  refine (awake6_c w1).mono ?_
  rintro r w2 ⟨rfl, x2⟩
  have o1 := o1.ext x2 (fun h => h)
  have x02 := x1.seq x2
  have c1 := o1.cell (off := 1)
  have l1 := lda_normal_Counts (off := 0) o1 (by simp)
  simp only [List.drop_zero, List.take_succ_cons, List.take_zero, List.getElem?_cons_zero, List.getElem?_cons_succ] at l1 c1
  by_cases h1 : 300 < ps.length
  · have d1 : decide ((300 : Int) < (ps.length : Int)) = true := by simp; omega
    simp (disch := omega) only [Stp, r_not, Bool.not_true, fa_normal_Counts_Part, Nat.zero_add, true_and, Same, and_true, stepR_value, ld_sl_int, c1, ldC_some, ln_sl_int, r_gtr, d1, Cnd_true, Cnd_false]
    exact x02
  have d1 : decide ((300 : Int) < (ps.length : Int)) = false := by simp; omega
  simp (disch := omega) only [Stp, r_not, Bool.not_true, fa_normal_Counts_Part, Nat.zero_add, true_and, Same, and_true, stepR_value, ld_sl_int, c1, ldC_some, ln_sl_int, r_gtr, d1, l1, Cnd_false]
  refine (check_c (most := most) (hs.ext x02 (inB_nob _)) hl).mono ?_
  rintro r w3 ⟨rfl, x3⟩
  have o13 := o1.ext x3 (fun h => h)
  have l13 := lda_normal_Counts (off := 0) o13 (by simp)
  simp only [List.drop_zero, List.take_succ_cons, List.take_zero] at l13
  have x03 := x02.seq x3
  have n1 : (chkE log ps most != chkE log ps most) = false := by simp
  cases hmay : mayB log ps with
  | false =>
    simp (disch := omega) only [l13, stepR_value]
    refine (normWrite_bad hmay (hs.ext x03 (inB_nob _)) hl).mono ?_
    rintro r w4 ⟨rfl, x4⟩
    have o14 := o13.ext x4 (fun h => h)
    have l14 := lda_normal_Counts (off := 0) o14 (by simp)
    simp only [List.drop_zero, List.take_succ_cons, List.take_zero] at l14
    have x04 := x03.seq x4
    simp (disch := omega) only [x20, x21, stepR_value, r_neq, r_eql, r_pick, l14]
    refine (model6_c (hs.ext x04 (inB_nob _))).mono ?_
    rintro r w5 ⟨rfl, x5⟩
    have x05 := x04.seq x5
    refine (refCheck_c (most := most) (hs.ext x05 (inB_nob _)) hl).mono ?_
    rintro r w6 ⟨rfl, x6⟩
    have x06 := x05.seq x6
    have o16 := (o14.ext x5 (fun h => h)).ext x6 (fun h => h)
    have l16 := lda_normal_Counts (off := 0) o16 (by simp)
    simp only [List.drop_zero, List.take_succ_cons, List.take_zero] at l16
    have n2 : ((1 : Int) == 0) = false := rfl
    simp (disch := omega) only [r_neq, n1, stepR_value, isB_ff, r_pick, Bool.false_eq_true, if_false, Gd_true, r_eql, n2, l16]
    refine (model6_c (hs.ext x06 (inB_nob _))).mono ?_
    rintro r w7 ⟨rfl, x7⟩
    have x07 := x06.seq x7
    refine (refMay_c (hs.ext x07 (inB_nob _)) hl).mono ?_
    rintro r w8 ⟨rfl, x8⟩
    rw [hmay]
    have n3 : (false != false) = false := rfl
    have n4 : ((1 : Int) != 0) = true := rfl
    have n5 : ((1 : Int) == 1) = true := rfl
    have n6 : (((0 : Nat) : Int) == 0) = true := rfl
    simp (disch := omega) only [bneq_bool, n4, n5, isB_tt, if_true, Gd_true, ln_sl_uint8, stepR_value, r_eql, n6, true_and, Cnd_true]
    exact x07.seq x8
  | true =>
    obtain ⟨lg, rfl, hm⟩ := may_of hmay
    have h256 := hm.len256
    have h15 := hm.log15
    simp (disch := omega) only [l13, stepR_value]
    refine (normWrite_c hm (hs.ext x03 (inB_nob _))).mono ?_
    rintro r w4 ⟨bytes, v, rfl, hh, hov, x4⟩
    have hD := descW_len hm
    have hbl := hh.len
    obtain ⟨av, cv, rfl⟩ := hov.len
    have o14 := o13.ext x4 (fun h => h)
    have l14 := lda_normal_Counts (off := 0) o14 (by simp)
    simp only [List.drop_zero, List.take_succ_cons, List.take_zero] at l14
    have x04 := x03.seq x4
    simp (disch := omega) only [x20, x21, stepR_value, r_neq, r_eql, r_pick, l14]
    refine (model6_c (hs.ext x04 (inB_nob _))).mono ?_
    rintro r w5 ⟨rfl, x5⟩
    have x05 := x04.seq x5
    refine (refCheck_c (most := most) (hs.ext x05 (inB_nob _)) hl).mono ?_
    rintro r w6 ⟨rfl, x6⟩
    have x06 := x05.seq x6
    have o16 := (o14.ext x5 (fun h => h)).ext x6 (fun h => h)
    have l16 := lda_normal_Counts (off := 0) o16 (by simp)
    simp only [List.drop_zero, List.take_succ_cons, List.take_zero] at l16
    have n2 : ((0 : Int) == 0) = true := rfl
    simp (disch := omega) only [r_neq, n1, stepR_value, isB_ff, r_pick, Bool.false_eq_true, if_false, Gd_true, r_eql, n2, l16]
    refine (model6_c (hs.ext x06 (inB_nob _))).mono ?_
    rintro r w7 ⟨rfl, x7⟩
    have x07 := x06.seq x7
    refine (refMay_c (hs.ext x07 (inB_nob _)) hl).mono ?_
    rintro r w8 ⟨rfl, x8⟩
    rw [hmay]
    have x48 := ((x5.seq x6).seq x7).seq x8
    have x08 := x07.seq x8
    have hbs : Bs w8 (.slice av bytes.length cv) bytes := hov.sl.ext x48 (inB_nob _)
    have n3 : (true != true) = false := rfl
    have n4 : ((0 : Int) != 0) = false := rfl
    have hcv := cv_sl_uint8_string hbs
    have hlst : lst ⟨bytes.toArray⟩ = bytes := lst_mk bytes
    have hsz : (⟨bytes.toArray⟩ : ByteArray).size = bytes.length := by rw [← lst_length, hlst]
    simp (disch := omega) only [bneq_bool, n4, Cnd_false, stepR_value, hcv]
    refine (refRead6_c (s := ⟨bytes.toArray⟩) (most := 15) (sym := 256) (by omega) (by omega)).mono ?_
    rintro r w9 ⟨hr9, x9⟩
    rw [hlst, held_readL hm hh (by omega) h256] at hr9
    obtain ⟨v9, rfl, ho9⟩ := hr9
    obtain ⟨a9, c9, rfl⟩ := ho9.len
    simp (disch := omega) only [x30, x31, x32, stepR_value, r_eql, r_pick, true_and]
    refine al_lightermanref06_C fun w10 o10 x10 s10 => ?_
    refine sta_lightermanref06_C o10 rfl (by simp [one]) (by simp) fun w11 o11 x11 s11 => ?_
    simp only [setAll, List.set_cons_zero, List.set_cons_succ] at o11
    have x911 : Ext w9 w11 nob := x10.new x11 (by omega)
    have x811 := x9.seq x911
    refine (normRead_c (most := 15) (sym := 256) (hbs.ext x811 (inB_nob _)) (by omega) (by omega)).mono ?_
    rintro r w12 ⟨hr12, x12⟩
    rw [held_readL hm hh (by omega) h256] at hr12
    obtain ⟨v12, rfl, ho12⟩ := hr12
    obtain ⟨a12, c12, rfl⟩ := ho12.len
    simp (disch := omega) only [x30, x31, x32, stepR_value]
    refine al_normal_Counts fun w13 o13' x13 s13 => ?_
    refine sta_normal_Counts o13' rfl (by simp [one]) (by simp) fun w14 o14' x14 s14 => ?_
    simp only [setAll, List.set_cons_zero, List.set_cons_succ] at o14'
    have x1214 : Ext w12 w14 nob := x13.new x14 (by omega)
    have x1114 := x12.seq x1214
    have x914 := x911.seq x1114
    have x814 := x9.seq x914
    have x014 := x08.seq x814
    have hsc := (hs.ext x014 (inB_nob _)).ext (Ext.dr w14 nob) (inB_nob _)
    have hs9 := ((ho9.sl.ext x914 (inB_nob _))).ext (Ext.dr w14 nob) (inB_nob _)
    have hs12 := (ho12.sl.ext x1214 (inB_nob _)).ext (Ext.dr w14 nob) (inB_nob _)
    have o1d := own_dr ((((o16.ext x7 (fun h => h)).ext x8 (fun h => h)).ext x814 (fun h => h)))
    have o11d := own_dr (o11.ext x1114 (fun h => h))
    have o14d := own_dr o14'
    have la := lda_normal_Counts (off := 0) o1d (by simp)
    have lb := lda_lightermanref06_C (off := 0) o11d (by simp)
    simp only [List.drop_zero, List.take_succ_cons, List.take_zero] at la lb
    have n5 : (((bytes.length : Nat) : Int) == ((bytes.length : Nat) : Int)) = true := by simp
    simp (disch := omega) only [n2, isB_tt, if_true, la, stepR_value, Gd_true, ln_sl_uint8, true_and, r_eql, n5, Gs_true, r_pick]
    refine (model6_c hsc).mono ?_
    rintro r w15 ⟨rfl, x15⟩
    have lb15 := lda_lightermanref06_C (off := 0) (o11d.ext x15 (fun h => h)) (by simp)
    simp only [List.drop_zero, List.take_succ_cons, List.take_zero] at lb15
    simp (disch := omega) only [lb15, lb, Result.ok.injEq, Next.value.injEq, and_true, stepR_value, true_and]
    refine (same6_c (hsc.ext x15 (inB_nob _)) (hs9.ext x15 (inB_nob _)) (by omega)).mono ?_
    rintro r w16 ⟨rfl, x16⟩
    have x1516 := x15.seq x16
    have lc16 := lda_normal_Counts (off := 0) (o14d.ext x1516 (fun h => h)) (by simp)
    have lb16 := lda_lightermanref06_C (off := 0) (o11d.ext x1516 (fun h => h)) (by simp)
    simp only [List.drop_zero, List.take_succ_cons, List.take_zero] at lc16 lb16
    simp (disch := omega) only [isB_tt, r_pick, if_true, lc16, stepR_value, lb16, Result.ok.injEq, Next.value.injEq, and_true, true_and, Gd_true, r_eql, n2, ln_sl_uint8, n5, Gs_true]
    refine (model6_c (hs12.ext x1516 (inB_nob _))).mono ?_
    rintro r w17 ⟨rfl, x17⟩
    have lb17 := lda_lightermanref06_C (off := 0) ((o11d.ext x1516 (fun h => h)).ext x17 (fun h => h)) (by simp)
    simp only [List.drop_zero, List.take_succ_cons, List.take_zero] at lb17
    simp (disch := omega) only [lb17, stepR_value, true_and]
    refine (same6_c ((hs12.ext x1516 (inB_nob _)).ext x17 (inB_nob _)) ((hs9.ext x1516 (inB_nob _)).ext x17 (inB_nob _)) (by omega)).mono ?_
    rintro r w18 ⟨rfl, x18⟩
    simp (disch := omega) only [true_and]
    exact (((x014.seq (Ext.dr w14 nob)).seq x1516).seq x17).seq x18
end Go.Proofs.Ytcbkdccobhkbpaa
/- The law NormalOf, whole. -/
namespace Go.Proofs.Ytcbkdccobhkbpaa
open Go Go.En Go.Pu
set_option maxRecDepth 4000
set_option linter.unusedSimpArgs false
set_option linter.unusedVariables false

theorem ofLaw_loop1 {ov : Value} {log : Int} {ns : List Nat} {w : World} (hs : Sl w ov (ns.map fun (n : Nat) => Value.int .u32 n)) (hn : ∀ n ∈ ns, n ≤ 4294967295) (hl : ns.length ≤ 300) {RR : Value → World → Prop}
    (hK : ∀ last, LastI ns ns.length last → law06_NormalOf_p9 RR ov (.int .i64 log) (.int .u64 ns.sum) (.int .i64 (ns.countP isOn : Nat)) (.int .i64 last) w) :
    law06_NormalOf_p17 RR ov (.int .i64 log) (.int .u64 0) (.int .i64 0) (.int .i64 0) w := by
  unfold law06_NormalOf_p17 law06_NormalOf_p16 law06_NormalOf_p15 law06_NormalOf_p14 law06_NormalOf_p13
  obtain ⟨a, c, hv, hc⟩ := hs.len
  rw [List.length_map] at hv
  subst hv
  refine LoopD.rule (fun m (t : Value × Value × Value × Value) w' => ∃ i last : Nat, m = ns.length - i ∧ t = (.int .u64 (ns.take i).sum, .int .i64 ((ns.take i).countP isOn : Nat), .int .i64 last, .int .i64 i) ∧ i ≤ ns.length ∧ LastI ns i last ∧ last ≤ i ∧ w' = w) ns.length
    ⟨0, 0, rfl, by simp, by omega, .inl ⟨rfl, fun j h => by omega⟩, by omega, rfl⟩ ?_
  rintro m t w1 ⟨i, last, rfl, rfl, hi, hla, hli, rfl⟩
  unfold law06_NormalOf_p12 law06_NormalOf_p11
  by_cases hlt : i < ns.length
  · have d1 : decide ((i : Int) < (ns.length : Int)) = true := by simp; omega
    obtain ⟨b, off, rfl, hcell⟩ := slA hs (by omega)
    have g1 := hcell i hlt
    rw [List.getElem?_map, List.getElem?_eq_getElem hlt, ← getD_at hlt] at g1
    simp only [Option.map_some] at g1
    have hni : ns.getD i 0 ≤ 4294967295 := by rw [getD_at hlt]; exact hn _ (List.getElem_mem hlt)
    have hsl := sum_le (B := 4294967295) (l := ns.take i) fun n hn' => hn n (List.mem_of_mem_take hn')
    rw [List.length_take, Nat.min_eq_left (by omega)] at hsl
    have hsl2 : i * 4294967295 ≤ 300 * 4294967295 := Nat.mul_le_mul_right _ (by omega)
    have hct : (ns.take i).countP isOn ≤ i := by
      have := List.countP_le_length (l := ns.take i) (p := isOn)
      rw [List.length_take] at this; omega
    have hsum : (ns.take (i + 1)).sum = (ns.take i).sum + ns.getD i 0 := by rw [take_snocD hlt, List.sum_append]; simp
    have hcnt : (ns.take (i + 1)).countP isOn = (ns.take i).countP isOn + (if 0 < ns.getD i 0 then 1 else 0) := by
      rw [take_snocD hlt, List.countP_append, List.countP_singleton]
      unfold isOn; simp only [decide_eq_true_eq]
    have hstep := hla.step
    generalize ns.getD i 0 = n at *
    have e1 : (((ns.take i).sum : Nat) : Int) + (n : Int) = (((ns.take i).sum + n : Nat) : Int) := by omega
    by_cases h0 : 0 < n
    · have d2 : decide ((0 : Int) < (n : Int)) = true := by simp; omega
      rw [if_pos h0] at hcnt hstep
      unfold law06_NormalOf_p10
      simp (disch := omega) only [Stp, ln_sl_uint32, ia_sl_uint32, Int.toNat_natCast, r_add, w_i64, stepR_value, ld_uint32, r_lss, d1, g1, ldC_some, cv_uint32_uint64, w_u64, e1, r_gtr, d2, and_true, Cnd_true]
      exact ⟨ns.length - (i + 1), by omega, i + 1, i, rfl, by rw [hsum, hcnt]; rfl, by omega, hstep, by omega⟩
    · have d2 : decide ((0 : Int) < (n : Int)) = false := by simp; omega
      rw [if_neg h0] at hcnt hstep
      unfold law06_NormalOf_p10
      simp (disch := omega) only [Stp, ln_sl_uint32, ia_sl_uint32, Int.toNat_natCast, r_add, w_i64, stepR_value, ld_uint32, r_lss, d1, g1, ldC_some, cv_uint32_uint64, w_u64, e1, r_gtr, d2, and_true, Cnd_false, Cnd_true]
      exact ⟨ns.length - (i + 1), by omega, i + 1, last, rfl, by rw [hsum, hcnt]; rfl, by omega, hstep, by omega⟩
  · have d1 : decide ((i : Int) < (ns.length : Int)) = false := by simp; omega
    obtain rfl : i = ns.length := by omega
    rw [List.take_of_length_le (Nat.le_refl _)]
    simp (disch := omega) only [Stp, ln_sl_uint32, r_add, stepR_value, r_lss, d1, Cnd_false]
    exact hK last hla

theorem normalOf_c {ov : Value} {log : Int} {ns : List Nat} {w : World} (hs : Sl w ov (ns.map fun (n : Nat) => Value.int .u32 n)) (hn : ∀ n ∈ ns, n ≤ 4294967295) (hl : ns.length ≤ 9223372036854775807) :
    Does pg F_law06_NormalOf #[ov, .int .i64 log] w (fun r w' => r = .bool true ∧ Ext w w' nob) := by
  refine law06_NormalOf_does ?_
  unfold law06_NormalOf law06_NormalOf_p19 law06_NormalOf_p18
  obtain ⟨a, c, hv, hc⟩ := hs.len
  rw [List.length_map] at hv hc
  subst hv
  refine (awake6_c w).mono ?_
  rintro r w2 ⟨rfl, hx⟩
  have hs2 := hs.ext hx (inB_nob _)
  by_cases hl3 : 300 < ns.length
  · have d1 : decide ((300 : Int) < (ns.length : Int)) = true := by simp; omega
    simp (disch := omega) only [Stp, r_not, Bool.not_true, ln_sl_uint32, true_and, stepR_value, r_gtr, d1, Cnd_true, Cnd_false]
    exact hx
  have d0 : decide ((300 : Int) < (ns.length : Int)) = false := by simp; omega
  simp (disch := omega) only [Stp, r_not, Bool.not_true, ln_sl_uint32, true_and, stepR_value, r_gtr, d0, Cnd_false]
  refine ofLaw_loop1 hs2 hn (by omega) fun last hlast => ?_
  unfold law06_NormalOf_p9 law06_NormalOf_p8
  have no : ¬ (5 ≤ log ∧ log ≤ 15 ∧ ns.length ≤ 256 ∧ 2 ≤ ns.countP isOn ∧ ns.countP isOn ≤ 2 ^ log.toNat ∧ ns.sum ≤ 2147483647) → ofOk log ns = false := fun h => by unfold ofOk; exact decide_eq_false h
  have hcl : ns.countP isOn ≤ ns.length := List.countP_le_length
  have hsl := sum_le (B := 4294967295) hn
  have hsl2 : ns.length * 4294967295 ≤ 300 * 4294967295 := Nat.mul_le_mul_right _ (by omega)
  have m1 : ((1 : Int) == 1) = true := rfl
  have m2 : (((0 : Nat) : Int) == 0) = true := rfl
  by_cases h1 : 5 ≤ log
  case neg =>
    have d1 : decide (5 ≤ log) = false := by simpa using h1
    simp (disch := omega) only [Stp, r_geq, d1, stepR_value, isB_ft, r_pick, Bool.false_eq_true, if_false, r_not, Bool.not_false, Cnd_true, Gd_false]
    refine (normOf_c hs2 hn (by omega)).mono ?_
    rintro r w3 ⟨hof, x3⟩
    rcases hof with ⟨_, rfl⟩ | ⟨h, _⟩
    case inr => rw [no (by omega)] at h; cases h
    simp (disch := omega) only [x20, x21, stepR_value, r_eql, r_pick]
    refine al_normal_Counts fun w4 o4 x4 s4 => ?_
    refine sta_normal_Counts o4 rfl (by simp [one]) (by simp) fun w5 o5 x5 s5 => ?_
    simp only [setAll, List.set_cons_zero, List.set_cons_succ] at o5
    have c5 := o5.cell (off := 1)
    simp only [List.getElem?_cons_zero, List.getElem?_cons_succ] at c5
    simp (disch := omega) only [m1, isB_tt, fa_normal_Counts_Part, Nat.zero_add, stepR_value, if_true, Gd_true, ld_sl_int, c5, ldC_some, ln_sl_int, r_eql, m2, true_and]
    exact (hx.seq x3).seq (x4.new x5 (by omega))
  have d1 : decide (5 ≤ log) = true := by simpa using h1
  by_cases h2 : log ≤ 15
  case neg =>
    have d2 : decide (log ≤ 15) = false := by simpa using h2
    simp (disch := omega) only [Stp, r_geq, d1, stepR_value, isB_tt, r_pick, if_true, Gd_true, r_leq, d2, isB_ft, Bool.false_eq_true, if_false, r_not, Bool.not_false, Cnd_true, Gd_false]
    refine (normOf_c hs2 hn (by omega)).mono ?_
    rintro r w3 ⟨hof, x3⟩
    rcases hof with ⟨_, rfl⟩ | ⟨h, _⟩
    case inr => rw [no (by omega)] at h; cases h
    simp (disch := omega) only [x20, x21, stepR_value, r_eql, r_pick]
    refine al_normal_Counts fun w4 o4 x4 s4 => ?_
    refine sta_normal_Counts o4 rfl (by simp [one]) (by simp) fun w5 o5 x5 s5 => ?_
    simp only [setAll, List.set_cons_zero, List.set_cons_succ] at o5
    have c5 := o5.cell (off := 1)
    simp only [List.getElem?_cons_zero, List.getElem?_cons_succ] at c5
    simp (disch := omega) only [m1, isB_tt, fa_normal_Counts_Part, Nat.zero_add, stepR_value, if_true, Gd_true, ld_sl_int, c5, ldC_some, ln_sl_int, r_eql, m2, true_and]
    exact (hx.seq x3).seq (x4.new x5 (by omega))
  have d2 : decide (log ≤ 15) = true := by simpa using h2
  by_cases h4 : ns.length ≤ 256
  case neg =>
    have d4 : decide ((ns.length : Int) ≤ 256) = false := by simp; omega
    simp (disch := omega) only [Stp, r_geq, d1, stepR_value, isB_tt, r_pick, if_true, Gd_true, r_leq, d2, ln_sl_uint32, d4, isB_ft, Bool.false_eq_true, if_false, r_not, Bool.not_false, Cnd_true, Gd_false]
    refine (normOf_c hs2 hn (by omega)).mono ?_
    rintro r w3 ⟨hof, x3⟩
    rcases hof with ⟨_, rfl⟩ | ⟨h, _⟩
    case inr => rw [no (by omega)] at h; cases h
    simp (disch := omega) only [x20, x21, stepR_value, r_eql, r_pick]
    refine al_normal_Counts fun w4 o4 x4 s4 => ?_
    refine sta_normal_Counts o4 rfl (by simp [one]) (by simp) fun w5 o5 x5 s5 => ?_
    simp only [setAll, List.set_cons_zero, List.set_cons_succ] at o5
    have c5 := o5.cell (off := 1)
    simp only [List.getElem?_cons_zero, List.getElem?_cons_succ] at c5
    simp (disch := omega) only [m1, isB_tt, fa_normal_Counts_Part, Nat.zero_add, stepR_value, if_true, Gd_true, ld_sl_int, c5, ldC_some, ln_sl_int, r_eql, m2, true_and]
    exact (hx.seq x3).seq (x4.new x5 (by omega))
  have d4 : decide ((ns.length : Int) ≤ 256) = true := by simp; omega
  by_cases h5 : 2 ≤ ns.countP isOn
  case neg =>
    have d5 : decide ((2 : Int) ≤ ((ns.countP isOn : Nat) : Int)) = false := by simp only [decide_eq_false_iff_not]; omega
    simp (disch := omega) only [Stp, r_geq, d1, stepR_value, isB_tt, r_pick, if_true, Gd_true, r_leq, d2, ln_sl_uint32, d4, d5, isB_ft, Bool.false_eq_true, if_false, r_not, Bool.not_false, Cnd_true, Gd_false]
    refine (normOf_c hs2 hn (by omega)).mono ?_
    rintro r w3 ⟨hof, x3⟩
    rcases hof with ⟨_, rfl⟩ | ⟨h, _⟩
    case inr => rw [no (by omega)] at h; cases h
    simp (disch := omega) only [x20, x21, stepR_value, r_eql, r_pick]
    refine al_normal_Counts fun w4 o4 x4 s4 => ?_
    refine sta_normal_Counts o4 rfl (by simp [one]) (by simp) fun w5 o5 x5 s5 => ?_
    simp only [setAll, List.set_cons_zero, List.set_cons_succ] at o5
    have c5 := o5.cell (off := 1)
    simp only [List.getElem?_cons_zero, List.getElem?_cons_succ] at c5
    simp (disch := omega) only [m1, isB_tt, fa_normal_Counts_Part, Nat.zero_add, stepR_value, if_true, Gd_true, ld_sl_int, c5, ldC_some, ln_sl_int, r_eql, m2, true_and]
    exact (hx.seq x3).seq (x4.new x5 (by omega))
  have d5 : decide ((2 : Int) ≤ ((ns.countP isOn : Nat) : Int)) = true := by simp only [decide_eq_true_eq]; omega
  obtain ⟨l, rfl⟩ : ∃ l : Nat, log = l := ⟨log.toNat, by omega⟩
  have hp15 : 2 ^ l ≤ 2 ^ 15 := Nat.pow_le_pow_right (by omega) (by omega)
  rw [Int.toNat_natCast] at no
  have hpow : ((2 ^ l : Nat) : Int) = (2 : Int) ^ l := by simp
  simp (disch := omega) only [Stp, r_geq, d1, stepR_value, isB_tt, r_pick, if_true, Gd_true, r_leq, d2, ln_sl_uint32, d4, d5]
  refine (power_c l (by omega) _).mono ?_
  rintro r w2' ⟨rfl, rfl⟩
  rw [← hpow]
  by_cases h6 : ns.countP isOn ≤ 2 ^ l
  case neg =>
    have d6 : decide (((ns.countP isOn : Nat) : Int) ≤ ((2 ^ l : Nat) : Int)) = false := by simp only [decide_eq_false_iff_not]; omega
    simp (disch := omega) only [r_leq, d6, stepR_value, isB_ft, r_pick, Bool.false_eq_true, if_false, r_not, Bool.not_false, Cnd_true, Gd_false]
    refine (normOf_c hs2 hn (by omega)).mono ?_
    rintro r w3 ⟨hof, x3⟩
    rcases hof with ⟨_, rfl⟩ | ⟨h, _⟩
    case inr => rw [no (by omega)] at h; cases h
    simp (disch := omega) only [x20, x21, stepR_value, r_eql, r_pick]
    refine al_normal_Counts fun w4 o4 x4 s4 => ?_
    refine sta_normal_Counts o4 rfl (by simp [one]) (by simp) fun w5 o5 x5 s5 => ?_
    simp only [setAll, List.set_cons_zero, List.set_cons_succ] at o5
    have c5 := o5.cell (off := 1)
    simp only [List.getElem?_cons_zero, List.getElem?_cons_succ] at c5
    simp (disch := omega) only [m1, isB_tt, fa_normal_Counts_Part, Nat.zero_add, stepR_value, if_true, Gd_true, ld_sl_int, c5, ldC_some, ln_sl_int, r_eql, m2, true_and]
    exact (hx.seq x3).seq (x4.new x5 (by omega))
  have d6 : decide (((ns.countP isOn : Nat) : Int) ≤ ((2 ^ l : Nat) : Int)) = true := by simp only [decide_eq_true_eq]; omega
  by_cases h7 : ns.sum ≤ 2147483647
  case neg =>
    have d7 : decide (((ns.sum : Nat) : Int) ≤ (2147483647 : Int)) = false := by simp only [decide_eq_false_iff_not]; omega
    simp (disch := omega) only [r_leq, d6, stepR_value, isB_tt, r_pick, if_true, Gd_true, d7, r_not, Bool.not_false, Cnd_true]
    refine (normOf_c hs2 hn (by omega)).mono ?_
    rintro r w3 ⟨hof, x3⟩
    rcases hof with ⟨_, rfl⟩ | ⟨h, _⟩
    case inr => rw [no (by omega)] at h; cases h
    simp (disch := omega) only [x20, x21, stepR_value, r_eql, r_pick]
    refine al_normal_Counts fun w4 o4 x4 s4 => ?_
    refine sta_normal_Counts o4 rfl (by simp [one]) (by simp) fun w5 o5 x5 s5 => ?_
    simp only [setAll, List.set_cons_zero, List.set_cons_succ] at o5
    have c5 := o5.cell (off := 1)
    simp only [List.getElem?_cons_zero, List.getElem?_cons_succ] at c5
    simp (disch := omega) only [m1, isB_tt, fa_normal_Counts_Part, Nat.zero_add, stepR_value, if_true, Gd_true, ld_sl_int, c5, ldC_some, ln_sl_int, r_eql, m2, true_and]
    exact (hx.seq x3).seq (x4.new x5 (by omega))
  have d7 : decide (((ns.sum : Nat) : Int) ≤ (2147483647 : Int)) = true := by simp only [decide_eq_true_eq]; omega
  have hok : ofOk (l : Int) ns = true := by unfold ofOk; rw [Int.toNat_natCast]; exact decide_eq_true (by omega)
  simp (disch := omega) only [r_leq, d6, stepR_value, isB_tt, r_pick, if_true, Gd_true, d7, r_not, Bool.not_true, Cnd_false]
  refine (normOf_c hs2 hn (by omega)).mono ?_
  rintro r w3 ⟨hof, x3⟩
  rcases hof with ⟨h, _⟩ | ⟨_, l', last', pb, ps, hll, hla, hmay, hpl, hl2, hiff, rfl, hpb, ob⟩
  · rw [hok] at h; cases h
  obtain rfl : l' = l := by omega
  obtain rfl := hla.one hlast
  simp (disch := omega) only [x20, x21, stepR_value, r_neq, r_pick]
  refine al_normal_Counts fun w4 o4 x4 s4 => ?_
  refine sta_normal_Counts o4 rfl (by simp [one]) (by simp) fun w5 o5 x5 s5 => ?_
  simp only [setAll, List.set_cons_zero, List.set_cons_succ] at o5
  have x35 : Ext w3 w5 nob := x4.new x5 (by omega)
  have x05 := (hx.seq x3).seq x35
  have ob5 := ob.ext x35 (fun h => h)
  have c0 := o5.cell (off := 0)
  have c1 := o5.cell (off := 1)
  have l1 := lda_normal_Counts (off := 0) o5 (by simp)
  simp only [List.drop_zero, List.take_succ_cons, List.take_zero, List.getElem?_cons_zero, List.getElem?_cons_succ] at l1 c0 c1
  have n1 : ((0 : Int) != 0) = false := rfl
  have n2 : ((l' : Int) != (l' : Int)) = false := by simp
  have e1 : (last' : Int) + 1 = ((last' + 1 : Nat) : Int) := by omega
  have n3 : (((last' + 1 : Nat) : Int) != ((last' + 1 : Nat) : Int)) = false := by simp
  have hss : Sl w5 (.slice (some ⟨pb, 0, none⟩) (last' + 1) (last' + 1)) ((ps.map fun (n : Nat) => (n : Int)).map (Value.int .i64)) := by
    rw [List.map_map]
    refine ⟨_, _, _, rfl, by rw [List.length_map, hpl], Nat.le_refl _, fun _ => ⟨_, _, rfl, fun i hi => ?_⟩⟩
    rw [ob5.cell, Nat.zero_add]; rfl
  simp (disch := omega) only [n1, isB_ff, fa_normal_Counts_Log, stepR_value, Bool.false_eq_true, if_false, fa_normal_Counts_Part, Nat.zero_add, Gd_true, ld_int, c0, ldC_some, r_neq, n2, r_pick, r_add, e1, w_i64, ld_sl_int, c1, ln_sl_int, n3, l1]
  refine (model6_c hss).mono ?_
  rintro r w6 ⟨rfl, x6⟩
  refine (refMay_c (hss.ext x6 (inB_nob _)) (by rw [List.length_map]; omega)).mono ?_
  rintro r w7 ⟨rfl, x7⟩
  rw [hmay.b]
  have x57 := x6.seq x7
  simp (disch := omega) only [r_not, Bool.not_true, stepR_value, Cnd_false]
  unfold law06_NormalOf_p7 law06_NormalOf_p6 law06_NormalOf_p5 law06_NormalOf_p4 law06_NormalOf_p3
  have x07 := x05.seq x57
  refine LoopD.rule (fun m (t : Value) w' => ∃ i : Nat, m = last' + 1 - i ∧ t = .int .i64 i ∧ i ≤ last' + 1 ∧ Ext w7 w' nob) (last' + 1) ⟨0, rfl, rfl, by omega, Ext.refl _ _⟩ ?_
  rintro m t w8 ⟨i, rfl, rfl, hi, x8⟩
  have o58 := (o5.ext x57 (fun h => h)).ext x8 (fun h => h)
  have c8 := o58.cell (off := 1)
  have c8d := (own_dr o58).cell (off := 1)
  simp only [List.getElem?_cons_zero, List.getElem?_cons_succ] at c8 c8d
  unfold law06_NormalOf_p2
  by_cases hlt : i < last' + 1
  · have d8 : decide ((i : Int) < ((last' + 1 : Nat) : Int)) = true := by simp only [decide_eq_true_eq]; omega
    have x8d : Ext w7 (dr w8) nob := x8.seq (Ext.dr _ _)
    have obd := (ob5.ext x57 (fun h => h)).ext x8d (fun h => h)
    have g1 := obd.cell (off := i)
    rw [List.getElem?_map, List.getElem?_eq_getElem (by omega), ← getD_at (by omega)] at g1
    simp only [Option.map_some] at g1
    obtain ⟨b1, off1, rfl, hcell⟩ := slA (hs.ext (x07.seq x8d) (inB_nob _)) (by omega)
    have g2 := hcell i (by omega)
    rw [List.getElem?_map, List.getElem?_eq_getElem (by omega), ← getD_at (by omega)] at g2
    simp only [Option.map_some] at g2
    have hif := hiff i hlt
    generalize ps.getD i 0 = p at *
    generalize ns.getD i 0 = n at *
    have e2 : ((p : Int) != 0) = decide ((0 : Int) < (n : Int)) := by
      by_cases h : 0 < n
      · have := hif.2 h
        rw [decide_eq_true (by omega)]
        simp; omega
      · have : ¬ 0 < p := fun h' => h (hif.1 h')
        rw [decide_eq_false (by omega)]
        simp; omega
    have e3 : (decide ((0 : Int) < (n : Int)) != decide ((0 : Int) < (n : Int))) = false := by simp
    have e4 : (!(decide ((0 : Int) < (n : Int)) == decide ((0 : Int) < (n : Int)))) = false := by simp
    simp (disch := omega) only [Stp, fa_normal_Counts_Part, Nat.zero_add, ia_sl_uint32, Int.toNat_natCast, r_add, w_i64, stepR_value, ld_uint32, true_and, ld_sl_int, c8, ldC_some, ln_sl_int, r_lss, d8, c8d, g2, r_gtr, ia_sl_int, ld_int, g1, r_neq, e2, bneq_bool, e4, Cnd_false, Cnd_true]
    exact ⟨last' + 1 - (i + 1), by omega, i + 1, rfl, rfl, by omega, x8d⟩
  · have d8 : decide ((i : Int) < ((last' + 1 : Nat) : Int)) = false := by simp only [decide_eq_false_iff_not]; omega
    unfold law06_NormalOf_p1
    simp (disch := omega) only [Stp, fa_normal_Counts_Part, Nat.zero_add, r_add, w_i64, stepR_value, true_and, ld_sl_int, c8, ldC_some, ln_sl_int, r_lss, d8, Cnd_false]
    exact x07.seq x8
end Go.Proofs.Ytcbkdccobhkbpaa
/- The law NormalCut, whole. -/
namespace Go.Proofs.Ytcbkdccobhkbpaa
open Go Go.En Go.Pu
set_option maxRecDepth 4000
set_option linter.unusedSimpArgs false
set_option linter.unusedVariables false

theorem natOf (z : List Int) (h : ∀ x ∈ z, 0 ≤ x ∧ x ≤ 4294967295) : ∃ ns : List Nat, (z.map (Value.int .u32)) = (ns.map fun (n : Nat) => Value.int .u32 n) ∧ ns.length = z.length ∧ ∀ n ∈ ns, n ≤ 4294967295 := by
  refine ⟨z.map Int.toNat, ?_, by simp, fun n hn => ?_⟩
  · rw [List.map_map]
    apply List.map_congr_left
    intro x hx
    have := h x hx
    show Value.int .u32 x = Value.int .u32 ((x.toNat : Nat) : Int)
    congr 1; omega
  · obtain ⟨x, hx, rfl⟩ := List.mem_map.1 hn
    have := h x hx
    omega

theorem normalCut_c {ov mv : Value} {log : Int} {ns : List Nat} {at' : Nat} {more : List UInt8} {w : World} (hs : Sl w ov (ns.map fun (n : Nat) => Value.int .u32 n)) (hn : ∀ n ∈ ns, n ≤ 4294967295) (hl : ns.length ≤ 9223372036854775807)
    (hat : at' < 65536) (hmr : Bs w mv more) (hml : more.length ≤ 9223372036854775807) :
    Does pg F_law06_NormalCut #[ov, .int .i64 log, .int .u16 at', mv] w (fun r w' => r = .bool true ∧ Ext w w' nob) := by
  refine law06_NormalCut_does ?_
  unfold law06_NormalCut law06_NormalCut_p1
  obtain ⟨a, c, hv, hc⟩ := hs.len
  rw [List.length_map] at hv hc
  subst hv
  obtain ⟨ma, mn, mc, hmv, hmn, hmc, _⟩ := id hmr
  rw [List.length_map] at hmn
  subst hmn
  have hmv' := hmv
  subst hmv'
  refine (awake6_c w).mono ?_
  rintro r w1 ⟨rfl, x1⟩
  by_cases h1 : 300 < ns.length
  · have d1 : decide ((300 : Int) < (ns.length : Int)) = true := by simp; omega
    simp (disch := omega) only [Stp, r_not, Bool.not_true, ln_sl_uint32, true_and, cv_uint16_int, w_i64, Same, and_true, stepR_value, r_gtr, d1, isB_tf, r_pick, if_true, Cnd_true, Gd_false, Cnd_false]
    exact x1
  have d1 : decide ((300 : Int) < (ns.length : Int)) = false := by simp; omega
  by_cases h2 : 50 < more.length
  · have d2 : decide ((50 : Int) < (more.length : Int)) = true := by simp; omega
    simp (disch := omega) only [Stp, r_not, Bool.not_true, ln_sl_uint32, true_and, cv_uint16_int, w_i64, Same, and_true, stepR_value, r_gtr, d1, isB_ff, r_pick, Bool.false_eq_true, if_false, Gd_true, ln_sl_uint8, d2, Cnd_true, Cnd_false]
    exact x1
  have d2 : decide ((50 : Int) < (more.length : Int)) = false := by simp; omega
  simp (disch := omega) only [Stp, r_not, Bool.not_true, ln_sl_uint32, true_and, cv_uint16_int, w_i64, Same, and_true, stepR_value, r_gtr, d1, isB_ff, r_pick, Bool.false_eq_true, if_false, Gd_true, ln_sl_uint8, d2, Cnd_false]
  refine (normOf_c (log := log) (hs.ext x1 (inB_nob _)) hn (by omega)).mono ?_
  rintro r w2 ⟨hof, x2⟩
  rcases hof with ⟨_, rfl⟩ | ⟨_, l, last, pb, ps, rfl, _, hmay, hpl, hl2, _, rfl, hpb, ob⟩
  · simp (disch := omega) only [x20, x21, stepR_value, r_neq]
    refine al_normal_Counts fun w3 o3 x3 s3 => ?_
    refine sta_normal_Counts o3 rfl (by simp [one]) (by simp) fun w4 o4 x4 s4 => ?_
    simp only [setAll, List.set_cons_zero, List.set_cons_succ] at o4
    have c4 := o4.cell (off := 1)
    simp only [List.getElem?_cons_zero, List.getElem?_cons_succ] at c4
    have m1 : ((1 : Int) != 0) = true := rfl
    have m2 : (((0 : Nat) : Int) == 0) = true := rfl
    simp (disch := omega) only [m1, fa_normal_Counts_Part, Nat.zero_add, stepR_value, ld_sl_int, c4, ldC_some, ln_sl_int, r_eql, m2, true_and, Cnd_true]
    exact (x1.seq x2).seq (x3.new x4 (by omega))
  · simp (disch := omega) only [x20, x21, stepR_value, r_neq]
    refine al_normal_Counts fun w3 o3 x3 s3 => ?_
    refine sta_normal_Counts o3 rfl (by simp [one]) (by simp) fun w4 o4 x4 s4 => ?_
    simp only [setAll, List.set_cons_zero, List.set_cons_succ] at o4
    have x24 : Ext w2 w4 nob := x3.new x4 (by omega)
    have x04 := (x1.seq x2).seq x24
    have ob4 := ob.ext x24 (fun h => h)
    have hss : Sl w4 (.slice (some ⟨pb, 0, none⟩) (last + 1) (last + 1)) ((ps.map fun (n : Nat) => (n : Int)).map (Value.int .i64)) := by
      rw [List.map_map]
      refine ⟨_, _, _, rfl, by rw [List.length_map, hpl], Nat.le_refl _, fun _ => ⟨_, _, rfl, fun i hi => ?_⟩⟩
      rw [ob4.cell, Nat.zero_add]; rfl
    have hpl2 : (ps.map fun (n : Nat) => (n : Int)).length = last + 1 := by rw [List.length_map, hpl]
    generalize (ps.map fun (n : Nat) => (n : Int)) = pi at *
    have l4 := lda_normal_Counts (off := 0) o4 (by simp)
    simp only [List.drop_zero, List.take_succ_cons, List.take_zero] at l4
    have n1 : ((0 : Int) != 0) = false := rfl
    simp (disch := omega) only [n1, fa_normal_Counts_Part, Nat.zero_add, stepR_value, ld_sl_int, l4, Cnd_false]
    refine (normWrite_c hmay hss).mono ?_
    rintro r w5 ⟨bytes, v, rfl, hh, hov, x5⟩
    have hD := descW_len hmay
    have hbl := hh.len
    have hD4 : 4 ≤ (descW l pi).length := by unfold descW; rw [List.length_append, bitsN_length]; omega
    obtain ⟨av, cv, rfl⟩ := hov.len
    have hb5 : Bs w5 (.slice av bytes.length cv) bytes := hov.sl
    have n2 : ((bytes.length : Int) == 0) = false := beq_eq_false_iff_ne.2 (by omega)
    have e1 : IntKind.i64.wrap (at' : Int) = (at' : Int) := w_i64 (by omega) (by omega)
    have e2 : (at' : Int).tmod (bytes.length : Int) = ((at' % bytes.length : Nat) : Int) := by rw [Int.tmod_eq_emod_of_nonneg (by omega)]; simp
    have hk : at' % bytes.length < bytes.length := Nat.mod_lt _ (by omega)
    generalize at' % bytes.length = k at *
    have hcut : Bs w5 (.slice (shift? av cv 0 1) (k - 0) (cv - 0)) (bytes.take k) := by
      have := hb5.take' (k := k) (by omega)
      rw [← List.map_take] at this
      exact this
    have hcl : bytes.length ≤ cv := by
      obtain ⟨_, _, _, e, _, hc', _⟩ := id hb5
      cases e; omega
    simp (disch := omega) only [x20, x21, stepR_value, r_neq, n1, Cnd_false, ln_sl_uint8, r_rem, e2, sl_sl_uint8_hi, Int.toNat_natCast]
    refine (normRead_c (most := 15) (sym := 256) hcut (by rw [List.length_take]; omega) (by omega)).mono ?_
    rintro r w6 ⟨hr6, x6⟩
    rw [cut_short hmay hh hk] at hr6
    obtain rfl := hr6
    simp (disch := omega) only [x30, x31, x32, stepR_value, r_eql, r_pick, true_and]
    refine al_normal_Counts fun w7 o7 x7 s7 => ?_
    refine sta_normal_Counts o7 rfl (by simp [one]) (by simp) fun w8 o8 x8 s8 => ?_
    have x68 : Ext w6 w8 nob := x7.new x8 (by omega)
    have x58 := x6.seq x68
    have x45 := x5
    have x48 := x5.seq x58
    have x08 := x04.seq x48
    have z4 := x5.size
    have z8 := x58.size
    have hcl8 := (hmr.ext x08 (inB_nob _)).cl
    rw [List.length_map] at hcl8
    refine ap_sl_uint8_sl_uint8 (hov.ext x58 (fun _ _ h => h)) hcl8 (bs_one _) (by omega) (by omega) fun v9 w9 o9 x9 => ?_
    have hb9 : Bs w9 v9 (bytes ++ more) := by
      have := o9.sl
      rw [← List.map_append] at this
      exact this
    have z9 := x9.size
    refine (normRead_c (most := 15) (sym := 256) hb9 (by rw [List.length_append]; omega) (by omega)).mono ?_
    rintro r w10 ⟨hr10, x10⟩
    rw [more_same hmay hh] at hr10
    obtain ⟨v10, rfl, ho10⟩ := hr10
    obtain ⟨a10, c10, rfl⟩ := ho10.len
    simp (disch := omega) only [x30, x31, x32, stepR_value]
    refine al_normal_Counts fun w11 o11 x11 s11 => ?_
    refine sta_normal_Counts o11 rfl (by simp [one]) (by simp) fun w12 o12 x12 s12 => ?_
    simp only [setAll, List.set_cons_zero, List.set_cons_succ] at o12
    have x1012 : Ext w10 w12 nob := x11.new x12 (by omega)
    have x912 := x10.seq x1012
    have x812 : Ext w8 w12 (fun y => w4.heap.size ≤ y) := x9.seq (x912.mono fun _ _ h => h.elim)
    have x412 : Ext w4 w12 nob := x48.trans x812 fun b hb h => by omega
    have x012 := x04.seq x412
    have l4' := o4.lt
    have o4d := own_dr (o4.ext x412 (fun h => h))
    have o12d := own_dr o12
    have la := lda_normal_Counts (off := 0) o12d (by simp)
    have lb := lda_normal_Counts (off := 0) o4d (by simp)
    simp only [List.drop_zero, List.take_succ_cons, List.take_zero] at la lb
    have hs10 := (ho10.sl.ext x1012 (inB_nob _)).ext (Ext.dr w12 nob) (inB_nob _)
    have hsc := (hss.ext x412 (inB_nob _)).ext (Ext.dr w12 nob) (inB_nob _)
    have m1 : ((10 : Int) == 10) = true := rfl
    have m2 : ((0 : Int) == 0) = true := rfl
    have m3 : (((bytes.length : Nat) : Int) == ((bytes.length : Nat) : Int)) = true := by simp
    simp (disch := omega) only [m1, isB_tt, if_true, la, stepR_value, lb, Result.ok.injEq, Next.value.injEq, and_true, Gd_true, r_eql, m2, r_pick, true_and, ln_sl_uint8, m3, Gs_true]
    refine (model6_c hs10).mono ?_
    rintro r w13 ⟨rfl, x13⟩
    have lb13 := lda_normal_Counts (off := 0) (o4d.ext x13 (fun h => h)) (by simp)
    simp only [List.drop_zero, List.take_succ_cons, List.take_zero] at lb13
    simp (disch := omega) only [lb13, stepR_value, true_and]
    refine (model6_c (hsc.ext x13 (inB_nob _))).mono ?_
    rintro r w14 ⟨rfl, x14⟩
    have x1214 := x13.seq x14
    have h256 := hmay.len256
    rw [← hpl2] at *
    refine (same6_c (hs10.ext x1214 (inB_nob _)) (hsc.ext x1214 (inB_nob _)) (by omega)).mono ?_
    rintro r w15 ⟨rfl, x15⟩
    simp (disch := omega) only [true_and]
    exact ((x012.seq (Ext.dr w12 nob)).seq x1214).seq x15
end Go.Proofs.Ytcbkdccobhkbpaa
/- The Normal laws at lists of integers. -/
namespace Go.Proofs.Ytcbkdccobhkbpaa
open Go Go.En Go.Pu
theorem normalOfI_c {ov : Value} {log : Int} {z : List Int} {w : World} (hs : Sl w ov (z.map (Value.int .u32))) (h : ∀ x ∈ z, 0 ≤ x ∧ x ≤ 4294967295) (hl : z.length ≤ 9223372036854775807) :
    Does pg F_law06_NormalOf #[ov, .int .i64 log] w (fun r w' => r = .bool true ∧ Ext w w' nob) := by
  obtain ⟨ns, e, hln, hn⟩ := natOf z h
  rw [e] at hs
  exact normalOf_c hs hn (by omega)
theorem normalCutI_c {ov mv : Value} {log : Int} {z : List Int} {at' : Nat} {more : List UInt8} {w : World} (hs : Sl w ov (z.map (Value.int .u32))) (h : ∀ x ∈ z, 0 ≤ x ∧ x ≤ 4294967295) (hl : z.length ≤ 9223372036854775807)
    (hat : at' < 65536) (hmr : Bs w mv more) (hml : more.length ≤ 9223372036854775807) :
    Does pg F_law06_NormalCut #[ov, .int .i64 log, .int .u16 at', mv] w (fun r w' => r = .bool true ∧ Ext w w' nob) := by
  obtain ⟨ns, e, hln, hn⟩ := natOf z h
  rw [e] at hs
  exact normalCut_c hs hn (by omega) hat hmr hml
end Go.Proofs.Ytcbkdccobhkbpaa
