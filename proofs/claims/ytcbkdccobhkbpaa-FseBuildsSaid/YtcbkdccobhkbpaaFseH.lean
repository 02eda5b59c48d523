/- Contract: the law FseBefore. -/
import Derived.Test.YtcbkdccobhkbpaaFseG
namespace Go.Proofs.Ytcbkdccobhkbpaa
open Go Go.En Go.Pu
set_option maxRecDepth 4000
set_option linter.unusedSimpArgs false
set_option linter.unusedVariables false

theorem countP_none {L : List T3} {P : T3 → Bool} (h : ∀ (i : Nat) (e : T3), L[i]? = some e → P e = false) : L.countP P = 0 := by
  rw [List.countP_eq_zero]
  intro e he
  obtain ⟨i, hi, rfl⟩ := List.getElem_of_mem he
  rw [h i _ (List.getElem?_eq_getElem hi)]; simp
theorem countP_one {L : List T3} {P : T3 → Bool} {i : Nat} {e : T3} (hi : L[i]? = some e) (hp : P e = true) (h : ∀ (j : Nat) (e : T3), L[j]? = some e → P e = true → j = i) : L.countP P = 1 := by
  have hl : i < L.length := by
    rcases Nat.lt_or_ge i L.length with h | h
    · exact h
    · rw [List.getElem?_eq_none h] at hi; cases hi
  have e0 : L = L.take i ++ e :: L.drop (i + 1) := by
    have := List.getElem?_eq_getElem hl
    rw [hi] at this
    rw [Option.some.inj this, ← List.drop_eq_getElem_cons hl, List.take_append_drop]
  have a : (L.take i).countP P = 0 := countP_none fun j x hx => by
    have hj : j < i := by
      rcases Nat.lt_or_ge j i with h | h
      · exact h
      · rw [List.getElem?_eq_none (by rw [List.length_take]; omega)] at hx; cases hx
    rw [List.getElem?_take_of_lt hj] at hx
    cases hq : P x with
    | false => rfl
    | true => have := h j x hx hq; omega
  have b : (L.drop (i + 1)).countP P = 0 := countP_none fun j x hx => by
    rw [List.getElem?_drop] at hx
    cases hq : P x with
    | false => rfl
    | true => have := h _ x hx hq; omega
  rw [e0, List.countP_append, List.countP_cons_of_pos hp, a, b]

theorem buildL_low {log : Nat} {ps : List Int} (hm : May log ps) : Low (buildL log ps) := by
  intro e he
  obtain ⟨i, hi', rfl⟩ := List.getElem_of_mem he
  have hi := hi'
  rw [buildL_length] at hi
  have hat := buildL_at (ps := ps) hi
  rw [List.getElem?_eq_getElem hi'] at hat
  rw [Option.some.inj hat]
  have L := spread_lay hm 0
  obtain ⟨s, hs, hg, hp1, hp2, hk, hc⟩ := kAt_bd hm L hi
  have hk2 : kAt ps (spreadL 0 log ps) i < 2 ^ (log + 1) := by rw [Nat.pow_succ]; omega
  obtain ⟨e1, e2, e3, e4⟩ := ent_bd (log := log) (k := kAt ps (spreadL 0 log ps) i) (by omega) hk2
  have h15 := hm.log15
  have hb : 2 ^ (log + 1) ≤ 2 ^ 16 := Nat.pow_le_pow_right (by omega) (by omega)
  have hpow : ((2 ^ log : Nat) : Int) = (2 : Int) ^ log := by simp
  unfold entAt entOf
  rw [← hpow]
  rw [Nat.succ_mul] at e2
  have hA := Nat.le_trans (Nat.le_trans (Nat.le_add_right _ _) e2) hb
  generalize hX : kAt ps (spreadL 0 log ps) i * 2 ^ (log + 1 - bl (kAt ps (spreadL 0 log ps) i)) = X at *
  refine ⟨_, rfl, by omega, ?_, ?_⟩
  · show (0 : Int) ≤ (X : Int) - ((2 ^ log : Nat) : Int)
    omega
  · show (X : Int) - ((2 ^ log : Nat) : Int) ≤ 100000
    omega

theorem no_or_one {log : Nat} {ps : List Int} (hm : May log ps) {s sy : Nat} (hs : s < 2 ^ log) :
    (∀ (i : Nat) (e : T3), (buildL log ps)[i]? = some e → e.1 ≠ (sy : Int)) ∨
    (∃ (i : Nat) (e : T3), (buildL log ps)[i]? = some e ∧ inE sy s e = true ∧ ∀ (j : Nat) (e : T3), (buildL log ps)[j]? = some e → inE sy s e = true → j = i) := by
  by_cases hp : ∃ (i : Nat) (e : T3), (buildL log ps)[i]? = some e ∧ e.1 = (sy : Int)
  · right
    obtain ⟨i, e, he, hsy⟩ := hp
    have hlt : ∀ {j : Nat} {e : T3}, (buildL log ps)[j]? = some e → j < 2 ^ log := fun {j e} h => by
      rcases Nat.lt_or_ge j (buildL log ps).length with h' | h'
      · rw [buildL_length] at h'; exact h'
      · rw [List.getElem?_eq_none h'] at h; cases h
    have hi := hlt he
    have L := spread_lay hm 0
    rw [buildL_at hi] at he
    obtain ⟨s', hs', hg, hp1, _, _, _⟩ := kAt_bd hm L hi
    have : e.1 = (s' : Int) := by rw [← Option.some.inj he]; unfold entAt entOf; exact hg
    have hss : s' = sy := by omega
    subst hss
    obtain ⟨i0, h0, h1, h2⟩ := one_way hm hs' (fun h => by rw [h] at hp1; simp [partsI] at hp1) hs
    refine ⟨i0, _, buildL_at h0, h1, fun j e he hq => h2 j (hlt he) ?_⟩
    rw [buildL_at (hlt he)] at he
    rw [Option.some.inj he]; exact hq
  · left
    intro i e he hsy
    exact hp ⟨i, e, he, hsy⟩

/-- what the law has seen: how many ways, and the symbol's first state -/
def FirstI (L : List T3) (sy : Int) (j : Nat) (f : Int) : Prop :=
  (f = -1 ∧ ∀ (i : Nat) (e : T3), i < j → L[i]? = some e → e.1 ≠ sy) ∨ (∃ (i : Nat) (e : T3), i < j ∧ f = (i : Int) ∧ L[i]? = some e ∧ e.1 = sy ∧ ∀ (i' : Nat) (e : T3), i' < i → L[i']? = some e → e.1 ≠ sy)

theorem before_loop {w0 w : World} {log : Nat} {L : List T3} {p8 b : Nat} {s sy : Nat} (hL : Low L) (hl : L.length ≤ 1000000) (hs : s < L.length)
    (o8 : Own w p8 [.int .i64 log, .slice (some ⟨b, 0, none⟩) L.length L.length]) (ob : Own w b (fe .u8 L)) (hx : Ext w0 w nob) {vi vx vn vf vg vk vh : Value} {R : Value → World → Prop}
    (hR : ∀ (there : Nat) (first : Int) w', there = L.countP (inE sy s) → FirstI L sy L.length first → Ext w w' nob → law07_FseBefore_p1 R (.int .u8 sy) (.pointer (some ⟨p8, 0, none⟩)) (.int .i64 s) vi vx vn vf vg vk vh (.int .i64 there) (.int .i64 first) w') :
    law07_FseBefore_p14 R (.int .u8 sy) (.pointer (some ⟨p8, 0, none⟩)) (.int .i64 s) vi vx vn vf vg vk vh (.int .i64 0) (.int .i64 (-1)) w := by
  unfold law07_FseBefore_p14 law07_FseBefore_p13 law07_FseBefore_p12 law07_FseBefore_p11 law07_FseBefore_p10
  refine LoopD.rule (fun m t w' => ∃ (j : Nat) (f : Int), m = L.length - j ∧ t = (.int .i64 ((L.take j).countP (inE sy s) : Nat), .int .i64 f, .int .i64 j) ∧ j ≤ L.length ∧ FirstI L sy j f ∧ -1 ≤ f ∧ Ext w w' nob) L.length
    ⟨0, -1, rfl, by simp, by omega, .inl ⟨rfl, fun i e h => by omega⟩, by omega, Ext.refl _ _⟩ ?_
  rintro m t w1 ⟨j, f, rfl, rfl, hj, hf, hf1, x1⟩
  have o81 := o8.ext x1 (fun h => h)
  have c8 := o81.cell (off := 1)
  simp only [List.getElem?_cons_zero, List.getElem?_cons_succ] at c8
  unfold law07_FseBefore_p9 law07_FseBefore_p8
  by_cases hlt : j < L.length
  · have d1 : decide ((j : Int) < (L.length : Int)) = true := by simp; omega
    have l1 := lda_fse_Entry (off := j * 3) (ob.ext x1 (fun h => h)) (by rw [fe_length]; omega)
    rw [fe_take hlt] at l1
    obtain ⟨n, hn, hn2, hb0, hb1⟩ := hL _ (List.getElem_mem hlt)
    have hge : L[j]? = some L[j] := List.getElem?_eq_getElem hlt
    have hct : (L.take (j + 1)).countP (inE sy s) = (L.take j).countP (inE sy s) + (if inE sy s L[j] = true then 1 else 0) := by
      rw [List.take_add_one, hge, List.countP_append]
      simp only [Option.toList, List.countP_singleton]
    have hinE : inE sy s L[j] = decide (L[j].1 = (sy : Int) ∧ L[j].2.2 ≤ (s : Int) ∧ (s : Int) < L[j].2.2 + ((2 ^ n : Nat) : Int)) := by
      unfold inE; rw [hn]; simp
    have hcb : (L.take j).countP (inE sy s) ≤ 1000000 := by
      have := List.countP_le_length (l := L.take j) (p := inE sy s)
      rw [List.length_take] at this; omega
    generalize L[j] = e at *
    obtain ⟨e1, e2, e3⟩ := e
    simp only at hn hb0 hb1 l1 hinE hct
    subst hn
    unfold law07_FseBefore_p7 law07_FseBefore_p6 law07_FseBefore_p5 law07_FseBefore_p4
    simp (disch := omega) only [Stp, Same, stepR_value, stepR_skip, r_add, r_sub, r_mul, r_quo, r_rem, r_and, r_or, r_xor, r_andNot, r_shl, r_shr, r_eql, r_neq, r_lss, r_leq, r_gtr, r_geq, r_neg, r_cpl, r_not, r_pick, r_min, r_max, r_nil, x20, x21, x30, x31, x32, x40, x41, x42, x43, ldC_some, Result.ok.injEq, Next.value.injEq, true_and, and_true, w_i64, w_u64, w_i32, w_u32, w_u16, w_u8, Int.toNat_natCast, isB_tt, isB_tf, isB_ft, isB_ff, Gd_true, Gd_false, Gs_true, Gs_false, Cnd_true, Cnd_false, if_true, if_false, Bool.false_eq_true, Nat.zero_add, Option.isNone_some, Option.isNone_none, Bool.not_true, Bool.not_false, List.getElem?_cons_succ, List.getElem?_cons_zero, fa_normal_Counts_Part, ld_sl_int, ln_sl_int, fa_normal_Counts_Log, ld_int, fa_fse_Table_Entries, ld_sl_fse_Entry, ln_sl_fse_Entry, ia_sl_fse_Entry, fa_fse_Entry_Symbol, ld_uint8, ia_ar256_int, ia_sl_int, cv_uint8_int, fa_fse_Entry_Bits, fa_fse_Table_Log, fa_fse_Entry_Base, cv_uint16_int, cv_int_uint, bneq_bool, cv_uint64_int, bd_normal_Counts_0_1, bd_normal_Counts_, bd_fse_Table_, bd_fse_Table_0_1, bd_lightermanref07_T_, fa_lightermanref06_C_Log, bd_lightermanref07_T_0, fa_lightermanref07_T_L, ld_sl_lightermanref07_E, bd_lightermanref07_E_0, fa_lightermanref06_C_Part, ia_sl_lightermanref07_E, fa_lightermanref07_E_Symbol, fa_lightermanref07_E_Bits, fa_lightermanref07_E_Base, bd_lightermanref06_C_0_1, fa_lightermanref07_T_Log, ln_sl_lightermanref07_E, cv_int_uint64, bd_fse_Entry_0, bd_fse_Table_1, cv_int_uint8, cv_uint_uint32, cv_uint32_uint8, ix_string, cv_uint64_uint8, c8, d1, l1]
    refine al_fse_Entry fun w3 o3 x3 s3 => ?_
    refine sta_fse_Entry o3 rfl (by simp [one]) (by simp) fun w4 o4 x4 s4 => ?_
    simp only [setAll, List.set_cons_zero, List.set_cons_succ] at o4
    have k0 := o4.cell (off := 0)
    have k1 := o4.cell (off := 1)
    have k2 := o4.cell (off := 2)
    simp only [List.getElem?_cons_zero, List.getElem?_cons_succ] at k0 k1 k2
    have x5 : Ext w w4 nob := (x1.seq x3).new x4 x1.size
    have hsh := shl1 hn2
    have hpw : 2 ^ n ≤ 2 ^ 20 := Nat.pow_le_pow_right (by omega) hn2
    have hw : IntKind.i64.wrap (e3 + ((2 ^ n : Nat) : Int)) = e3 + ((2 ^ n : Nat) : Int) := by
      generalize 2 ^ n = q at *
      exact w_i64 (by omega) (by omega)
    have fin : ∀ (x : Int) (f' : Int), x = (((L.take (j + 1)).countP (inE sy s) : Nat) : Int) → FirstI L sy (j + 1) f' → -1 ≤ f' → ∃ m, m < L.length - j ∧ ∃ (j' : Nat) (f : Int), m = L.length - j' ∧ ((.int .i64 x : Value), (.int .i64 f' : Value), (.int .i64 ((j : Int) + 1) : Value)) = (.int .i64 ((L.take j').countP (inE sy s) : Nat), .int .i64 f, .int .i64 j') ∧ j' ≤ L.length ∧ FirstI L sy j' f ∧ -1 ≤ f ∧ Ext w w4 nob :=
      fun x f' h1 h2 h3 => ⟨L.length - (j + 1), by omega, j + 1, f', rfl, by rw [h1]; rfl, by omega, h2, h3, x5⟩
    have keep : e1 ≠ (sy : Int) ∨ 0 ≤ f → FirstI L sy (j + 1) f := fun h => by
      rcases hf with ⟨g1, g2⟩ | ⟨i, e, g1, g2, g3, g4, g5⟩
      · refine .inl ⟨g1, fun i e hi he => ?_⟩
        by_cases hij : i = j
        · subst hij
          rw [hge] at he
          rw [← Option.some.inj he]
          exact h.elim id (fun h => by omega)
        · exact g2 i e (by omega) he
      · exact .inr ⟨i, e, by omega, g2, g3, g4, g5⟩
    by_cases he : e1 = (sy : Int)
    · have d4 : (e1 == (sy : Int)) = true := by simpa using he
      have newf : f < 0 → FirstI L sy (j + 1) (j : Int) := fun h => by
        rcases hf with ⟨g1, g2⟩ | ⟨i, e, g1, g2, g3, g4, g5⟩
        · exact .inr ⟨j, _, by omega, rfl, hge, he, fun i' e' hi' he' => g2 i' e' hi' he'⟩
        · omega
      have hcnt : ∀ (bb : Bool), inE sy s (e1, (n : Int), e3) = bb → (((L.take (j + 1)).countP (inE sy s) : Nat) : Int) = (((L.take j).countP (inE sy s) : Nat) : Int) + (if bb = true then 1 else 0) := fun bb h => by
        rw [hct, h]; split <;> simp
      by_cases h5 : e3 ≤ (s : Int)
      · have d5 : decide (e3 ≤ (s : Int)) = true := by simpa using h5
        by_cases h6 : (s : Int) < e3 + ((2 ^ n : Nat) : Int)
        · have d6 : decide ((s : Int) < e3 + ((2 ^ n : Nat) : Int)) = true := by simpa using h6
          have hc := hcnt true (by rw [hinE, decide_eq_true ⟨he, h5, h6⟩])
          simp only [if_true] at hc
          by_cases h7 : f < 0
          · have d7 : decide (f < 0) = true := by simpa using h7
            simp (disch := omega) only [law07_FseBefore_p2, law07_FseBefore_p3, law07_FseBefore_p4, law07_FseBefore_p5, law07_FseBefore_p6, law07_FseBefore_p7, law07_FseBefore_p8, law07_FseBefore_p9, Stp, Same, stepR_value, stepR_skip, r_add, r_sub, r_mul, r_quo, r_rem, r_and, r_or, r_xor, r_andNot, r_shl, r_shr, r_eql, r_neq, r_lss, r_leq, r_gtr, r_geq, r_neg, r_cpl, r_not, r_pick, r_min, r_max, r_nil, x20, x21, x30, x31, x32, x40, x41, x42, x43, ldC_some, Result.ok.injEq, Next.value.injEq, true_and, and_true, w_i64, w_u64, w_i32, w_u32, w_u16, w_u8, Int.toNat_natCast, isB_tt, isB_tf, isB_ft, isB_ff, Gd_true, Gd_false, Gs_true, Gs_false, Cnd_true, Cnd_false, if_true, if_false, Bool.false_eq_true, Nat.zero_add, Option.isNone_some, Option.isNone_none, Bool.not_true, Bool.not_false, List.getElem?_cons_succ, List.getElem?_cons_zero, fa_normal_Counts_Part, ld_sl_int, ln_sl_int, fa_normal_Counts_Log, ld_int, fa_fse_Table_Entries, ld_sl_fse_Entry, ln_sl_fse_Entry, ia_sl_fse_Entry, fa_fse_Entry_Symbol, ld_uint8, ia_ar256_int, ia_sl_int, cv_uint8_int, fa_fse_Entry_Bits, fa_fse_Table_Log, fa_fse_Entry_Base, cv_uint16_int, cv_int_uint, bneq_bool, cv_uint64_int, bd_normal_Counts_0_1, bd_normal_Counts_, bd_fse_Table_, bd_fse_Table_0_1, bd_lightermanref07_T_, fa_lightermanref06_C_Log, bd_lightermanref07_T_0, fa_lightermanref07_T_L, ld_sl_lightermanref07_E, bd_lightermanref07_E_0, fa_lightermanref06_C_Part, ia_sl_lightermanref07_E, fa_lightermanref07_E_Symbol, fa_lightermanref07_E_Bits, fa_lightermanref07_E_Base, bd_lightermanref06_C_0_1, fa_lightermanref07_T_Log, ln_sl_lightermanref07_E, cv_int_uint64, bd_fse_Entry_0, bd_fse_Table_1, cv_int_uint8, cv_uint_uint32, cv_uint32_uint8, ix_string, cv_uint64_uint8, k0, k1, k2, d4, d5, hsh, hw, d6, d7]
            exact fin _ _ hc.symm (newf h7) (by omega)
          · have d7 : decide (f < 0) = false := by simpa using h7
            simp (disch := omega) only [law07_FseBefore_p2, law07_FseBefore_p3, law07_FseBefore_p4, law07_FseBefore_p5, law07_FseBefore_p6, law07_FseBefore_p7, law07_FseBefore_p8, law07_FseBefore_p9, Stp, Same, stepR_value, stepR_skip, r_add, r_sub, r_mul, r_quo, r_rem, r_and, r_or, r_xor, r_andNot, r_shl, r_shr, r_eql, r_neq, r_lss, r_leq, r_gtr, r_geq, r_neg, r_cpl, r_not, r_pick, r_min, r_max, r_nil, x20, x21, x30, x31, x32, x40, x41, x42, x43, ldC_some, Result.ok.injEq, Next.value.injEq, true_and, and_true, w_i64, w_u64, w_i32, w_u32, w_u16, w_u8, Int.toNat_natCast, isB_tt, isB_tf, isB_ft, isB_ff, Gd_true, Gd_false, Gs_true, Gs_false, Cnd_true, Cnd_false, if_true, if_false, Bool.false_eq_true, Nat.zero_add, Option.isNone_some, Option.isNone_none, Bool.not_true, Bool.not_false, List.getElem?_cons_succ, List.getElem?_cons_zero, fa_normal_Counts_Part, ld_sl_int, ln_sl_int, fa_normal_Counts_Log, ld_int, fa_fse_Table_Entries, ld_sl_fse_Entry, ln_sl_fse_Entry, ia_sl_fse_Entry, fa_fse_Entry_Symbol, ld_uint8, ia_ar256_int, ia_sl_int, cv_uint8_int, fa_fse_Entry_Bits, fa_fse_Table_Log, fa_fse_Entry_Base, cv_uint16_int, cv_int_uint, bneq_bool, cv_uint64_int, bd_normal_Counts_0_1, bd_normal_Counts_, bd_fse_Table_, bd_fse_Table_0_1, bd_lightermanref07_T_, fa_lightermanref06_C_Log, bd_lightermanref07_T_0, fa_lightermanref07_T_L, ld_sl_lightermanref07_E, bd_lightermanref07_E_0, fa_lightermanref06_C_Part, ia_sl_lightermanref07_E, fa_lightermanref07_E_Symbol, fa_lightermanref07_E_Bits, fa_lightermanref07_E_Base, bd_lightermanref06_C_0_1, fa_lightermanref07_T_Log, ln_sl_lightermanref07_E, cv_int_uint64, bd_fse_Entry_0, bd_fse_Table_1, cv_int_uint8, cv_uint_uint32, cv_uint32_uint8, ix_string, cv_uint64_uint8, k0, k1, k2, d4, d5, hsh, hw, d6, d7]
            exact fin _ _ hc.symm (keep (.inr (by omega))) hf1
        · have d6 : decide ((s : Int) < e3 + ((2 ^ n : Nat) : Int)) = false := by simpa using h6
          have hc := hcnt false (by rw [hinE, decide_eq_false (by omega)])
          simp only [Bool.false_eq_true, if_false, Int.add_zero] at hc
          by_cases h7 : f < 0
          · have d7 : decide (f < 0) = true := by simpa using h7
            simp (disch := omega) only [law07_FseBefore_p2, law07_FseBefore_p3, law07_FseBefore_p4, law07_FseBefore_p5, law07_FseBefore_p6, law07_FseBefore_p7, law07_FseBefore_p8, law07_FseBefore_p9, Stp, Same, stepR_value, stepR_skip, r_add, r_sub, r_mul, r_quo, r_rem, r_and, r_or, r_xor, r_andNot, r_shl, r_shr, r_eql, r_neq, r_lss, r_leq, r_gtr, r_geq, r_neg, r_cpl, r_not, r_pick, r_min, r_max, r_nil, x20, x21, x30, x31, x32, x40, x41, x42, x43, ldC_some, Result.ok.injEq, Next.value.injEq, true_and, and_true, w_i64, w_u64, w_i32, w_u32, w_u16, w_u8, Int.toNat_natCast, isB_tt, isB_tf, isB_ft, isB_ff, Gd_true, Gd_false, Gs_true, Gs_false, Cnd_true, Cnd_false, if_true, if_false, Bool.false_eq_true, Nat.zero_add, Option.isNone_some, Option.isNone_none, Bool.not_true, Bool.not_false, List.getElem?_cons_succ, List.getElem?_cons_zero, fa_normal_Counts_Part, ld_sl_int, ln_sl_int, fa_normal_Counts_Log, ld_int, fa_fse_Table_Entries, ld_sl_fse_Entry, ln_sl_fse_Entry, ia_sl_fse_Entry, fa_fse_Entry_Symbol, ld_uint8, ia_ar256_int, ia_sl_int, cv_uint8_int, fa_fse_Entry_Bits, fa_fse_Table_Log, fa_fse_Entry_Base, cv_uint16_int, cv_int_uint, bneq_bool, cv_uint64_int, bd_normal_Counts_0_1, bd_normal_Counts_, bd_fse_Table_, bd_fse_Table_0_1, bd_lightermanref07_T_, fa_lightermanref06_C_Log, bd_lightermanref07_T_0, fa_lightermanref07_T_L, ld_sl_lightermanref07_E, bd_lightermanref07_E_0, fa_lightermanref06_C_Part, ia_sl_lightermanref07_E, fa_lightermanref07_E_Symbol, fa_lightermanref07_E_Bits, fa_lightermanref07_E_Base, bd_lightermanref06_C_0_1, fa_lightermanref07_T_Log, ln_sl_lightermanref07_E, cv_int_uint64, bd_fse_Entry_0, bd_fse_Table_1, cv_int_uint8, cv_uint_uint32, cv_uint32_uint8, ix_string, cv_uint64_uint8, k0, k1, k2, d4, d5, hsh, hw, d6, d7]
            exact fin _ _ hc.symm (newf h7) (by omega)
          · have d7 : decide (f < 0) = false := by simpa using h7
            simp (disch := omega) only [law07_FseBefore_p2, law07_FseBefore_p3, law07_FseBefore_p4, law07_FseBefore_p5, law07_FseBefore_p6, law07_FseBefore_p7, law07_FseBefore_p8, law07_FseBefore_p9, Stp, Same, stepR_value, stepR_skip, r_add, r_sub, r_mul, r_quo, r_rem, r_and, r_or, r_xor, r_andNot, r_shl, r_shr, r_eql, r_neq, r_lss, r_leq, r_gtr, r_geq, r_neg, r_cpl, r_not, r_pick, r_min, r_max, r_nil, x20, x21, x30, x31, x32, x40, x41, x42, x43, ldC_some, Result.ok.injEq, Next.value.injEq, true_and, and_true, w_i64, w_u64, w_i32, w_u32, w_u16, w_u8, Int.toNat_natCast, isB_tt, isB_tf, isB_ft, isB_ff, Gd_true, Gd_false, Gs_true, Gs_false, Cnd_true, Cnd_false, if_true, if_false, Bool.false_eq_true, Nat.zero_add, Option.isNone_some, Option.isNone_none, Bool.not_true, Bool.not_false, List.getElem?_cons_succ, List.getElem?_cons_zero, fa_normal_Counts_Part, ld_sl_int, ln_sl_int, fa_normal_Counts_Log, ld_int, fa_fse_Table_Entries, ld_sl_fse_Entry, ln_sl_fse_Entry, ia_sl_fse_Entry, fa_fse_Entry_Symbol, ld_uint8, ia_ar256_int, ia_sl_int, cv_uint8_int, fa_fse_Entry_Bits, fa_fse_Table_Log, fa_fse_Entry_Base, cv_uint16_int, cv_int_uint, bneq_bool, cv_uint64_int, bd_normal_Counts_0_1, bd_normal_Counts_, bd_fse_Table_, bd_fse_Table_0_1, bd_lightermanref07_T_, fa_lightermanref06_C_Log, bd_lightermanref07_T_0, fa_lightermanref07_T_L, ld_sl_lightermanref07_E, bd_lightermanref07_E_0, fa_lightermanref06_C_Part, ia_sl_lightermanref07_E, fa_lightermanref07_E_Symbol, fa_lightermanref07_E_Bits, fa_lightermanref07_E_Base, bd_lightermanref06_C_0_1, fa_lightermanref07_T_Log, ln_sl_lightermanref07_E, cv_int_uint64, bd_fse_Entry_0, bd_fse_Table_1, cv_int_uint8, cv_uint_uint32, cv_uint32_uint8, ix_string, cv_uint64_uint8, k0, k1, k2, d4, d5, hsh, hw, d6, d7]
            exact fin _ _ hc.symm (keep (.inr (by omega))) hf1
      · have d5 : decide (e3 ≤ (s : Int)) = false := by simpa using h5
        have hc := hcnt false (by rw [hinE, decide_eq_false (by omega)])
        simp only [Bool.false_eq_true, if_false, Int.add_zero] at hc
        by_cases h7 : f < 0
        · have d7 : decide (f < 0) = true := by simpa using h7
          simp (disch := omega) only [law07_FseBefore_p2, law07_FseBefore_p3, law07_FseBefore_p4, law07_FseBefore_p5, law07_FseBefore_p6, law07_FseBefore_p7, law07_FseBefore_p8, law07_FseBefore_p9, Stp, Same, stepR_value, stepR_skip, r_add, r_sub, r_mul, r_quo, r_rem, r_and, r_or, r_xor, r_andNot, r_shl, r_shr, r_eql, r_neq, r_lss, r_leq, r_gtr, r_geq, r_neg, r_cpl, r_not, r_pick, r_min, r_max, r_nil, x20, x21, x30, x31, x32, x40, x41, x42, x43, ldC_some, Result.ok.injEq, Next.value.injEq, true_and, and_true, w_i64, w_u64, w_i32, w_u32, w_u16, w_u8, Int.toNat_natCast, isB_tt, isB_tf, isB_ft, isB_ff, Gd_true, Gd_false, Gs_true, Gs_false, Cnd_true, Cnd_false, if_true, if_false, Bool.false_eq_true, Nat.zero_add, Option.isNone_some, Option.isNone_none, Bool.not_true, Bool.not_false, List.getElem?_cons_succ, List.getElem?_cons_zero, fa_normal_Counts_Part, ld_sl_int, ln_sl_int, fa_normal_Counts_Log, ld_int, fa_fse_Table_Entries, ld_sl_fse_Entry, ln_sl_fse_Entry, ia_sl_fse_Entry, fa_fse_Entry_Symbol, ld_uint8, ia_ar256_int, ia_sl_int, cv_uint8_int, fa_fse_Entry_Bits, fa_fse_Table_Log, fa_fse_Entry_Base, cv_uint16_int, cv_int_uint, bneq_bool, cv_uint64_int, bd_normal_Counts_0_1, bd_normal_Counts_, bd_fse_Table_, bd_fse_Table_0_1, bd_lightermanref07_T_, fa_lightermanref06_C_Log, bd_lightermanref07_T_0, fa_lightermanref07_T_L, ld_sl_lightermanref07_E, bd_lightermanref07_E_0, fa_lightermanref06_C_Part, ia_sl_lightermanref07_E, fa_lightermanref07_E_Symbol, fa_lightermanref07_E_Bits, fa_lightermanref07_E_Base, bd_lightermanref06_C_0_1, fa_lightermanref07_T_Log, ln_sl_lightermanref07_E, cv_int_uint64, bd_fse_Entry_0, bd_fse_Table_1, cv_int_uint8, cv_uint_uint32, cv_uint32_uint8, ix_string, cv_uint64_uint8, k0, k1, k2, d4, d5, d7]
          exact fin _ _ hc.symm (newf h7) (by omega)
        · have d7 : decide (f < 0) = false := by simpa using h7
          simp (disch := omega) only [law07_FseBefore_p2, law07_FseBefore_p3, law07_FseBefore_p4, law07_FseBefore_p5, law07_FseBefore_p6, law07_FseBefore_p7, law07_FseBefore_p8, law07_FseBefore_p9, Stp, Same, stepR_value, stepR_skip, r_add, r_sub, r_mul, r_quo, r_rem, r_and, r_or, r_xor, r_andNot, r_shl, r_shr, r_eql, r_neq, r_lss, r_leq, r_gtr, r_geq, r_neg, r_cpl, r_not, r_pick, r_min, r_max, r_nil, x20, x21, x30, x31, x32, x40, x41, x42, x43, ldC_some, Result.ok.injEq, Next.value.injEq, true_and, and_true, w_i64, w_u64, w_i32, w_u32, w_u16, w_u8, Int.toNat_natCast, isB_tt, isB_tf, isB_ft, isB_ff, Gd_true, Gd_false, Gs_true, Gs_false, Cnd_true, Cnd_false, if_true, if_false, Bool.false_eq_true, Nat.zero_add, Option.isNone_some, Option.isNone_none, Bool.not_true, Bool.not_false, List.getElem?_cons_succ, List.getElem?_cons_zero, fa_normal_Counts_Part, ld_sl_int, ln_sl_int, fa_normal_Counts_Log, ld_int, fa_fse_Table_Entries, ld_sl_fse_Entry, ln_sl_fse_Entry, ia_sl_fse_Entry, fa_fse_Entry_Symbol, ld_uint8, ia_ar256_int, ia_sl_int, cv_uint8_int, fa_fse_Entry_Bits, fa_fse_Table_Log, fa_fse_Entry_Base, cv_uint16_int, cv_int_uint, bneq_bool, cv_uint64_int, bd_normal_Counts_0_1, bd_normal_Counts_, bd_fse_Table_, bd_fse_Table_0_1, bd_lightermanref07_T_, fa_lightermanref06_C_Log, bd_lightermanref07_T_0, fa_lightermanref07_T_L, ld_sl_lightermanref07_E, bd_lightermanref07_E_0, fa_lightermanref06_C_Part, ia_sl_lightermanref07_E, fa_lightermanref07_E_Symbol, fa_lightermanref07_E_Bits, fa_lightermanref07_E_Base, bd_lightermanref06_C_0_1, fa_lightermanref07_T_Log, ln_sl_lightermanref07_E, cv_int_uint64, bd_fse_Entry_0, bd_fse_Table_1, cv_int_uint8, cv_uint_uint32, cv_uint32_uint8, ix_string, cv_uint64_uint8, k0, k1, k2, d4, d5, d7]
          exact fin _ _ hc.symm (keep (.inr (by omega))) hf1
    · have d4 : (e1 == (sy : Int)) = false := by simpa using he
      have hc : (((L.take (j + 1)).countP (inE sy s) : Nat) : Int) = (((L.take j).countP (inE sy s) : Nat) : Int) := by
        rw [hct, hinE, decide_eq_false (by omega)]; simp
      simp (disch := omega) only [law07_FseBefore_p2, law07_FseBefore_p3, law07_FseBefore_p4, law07_FseBefore_p5, law07_FseBefore_p6, law07_FseBefore_p7, law07_FseBefore_p8, law07_FseBefore_p9, Stp, Same, stepR_value, stepR_skip, r_add, r_sub, r_mul, r_quo, r_rem, r_and, r_or, r_xor, r_andNot, r_shl, r_shr, r_eql, r_neq, r_lss, r_leq, r_gtr, r_geq, r_neg, r_cpl, r_not, r_pick, r_min, r_max, r_nil, x20, x21, x30, x31, x32, x40, x41, x42, x43, ldC_some, Result.ok.injEq, Next.value.injEq, true_and, and_true, w_i64, w_u64, w_i32, w_u32, w_u16, w_u8, Int.toNat_natCast, isB_tt, isB_tf, isB_ft, isB_ff, Gd_true, Gd_false, Gs_true, Gs_false, Cnd_true, Cnd_false, if_true, if_false, Bool.false_eq_true, Nat.zero_add, Option.isNone_some, Option.isNone_none, Bool.not_true, Bool.not_false, List.getElem?_cons_succ, List.getElem?_cons_zero, fa_normal_Counts_Part, ld_sl_int, ln_sl_int, fa_normal_Counts_Log, ld_int, fa_fse_Table_Entries, ld_sl_fse_Entry, ln_sl_fse_Entry, ia_sl_fse_Entry, fa_fse_Entry_Symbol, ld_uint8, ia_ar256_int, ia_sl_int, cv_uint8_int, fa_fse_Entry_Bits, fa_fse_Table_Log, fa_fse_Entry_Base, cv_uint16_int, cv_int_uint, bneq_bool, cv_uint64_int, bd_normal_Counts_0_1, bd_normal_Counts_, bd_fse_Table_, bd_fse_Table_0_1, bd_lightermanref07_T_, fa_lightermanref06_C_Log, bd_lightermanref07_T_0, fa_lightermanref07_T_L, ld_sl_lightermanref07_E, bd_lightermanref07_E_0, fa_lightermanref06_C_Part, ia_sl_lightermanref07_E, fa_lightermanref07_E_Symbol, fa_lightermanref07_E_Bits, fa_lightermanref07_E_Base, bd_lightermanref06_C_0_1, fa_lightermanref07_T_Log, ln_sl_lightermanref07_E, cv_int_uint64, bd_fse_Entry_0, bd_fse_Table_1, cv_int_uint8, cv_uint_uint32, cv_uint32_uint8, ix_string, cv_uint64_uint8, k0, d4]
      exact fin _ _ hc.symm (keep (.inl he)) hf1
  · have d1 : decide ((j : Int) < (L.length : Int)) = false := by simp; omega
    have : j = L.length := by omega
    subst this
    simp (disch := omega) only [Stp, Same, stepR_value, stepR_skip, r_add, r_sub, r_mul, r_quo, r_rem, r_and, r_or, r_xor, r_andNot, r_shl, r_shr, r_eql, r_neq, r_lss, r_leq, r_gtr, r_geq, r_neg, r_cpl, r_not, r_pick, r_min, r_max, r_nil, x20, x21, x30, x31, x32, x40, x41, x42, x43, ldC_some, Result.ok.injEq, Next.value.injEq, true_and, and_true, w_i64, w_u64, w_i32, w_u32, w_u16, w_u8, Int.toNat_natCast, isB_tt, isB_tf, isB_ft, isB_ff, Gd_true, Gd_false, Gs_true, Gs_false, Cnd_true, Cnd_false, if_true, if_false, Bool.false_eq_true, Nat.zero_add, Option.isNone_some, Option.isNone_none, Bool.not_true, Bool.not_false, List.getElem?_cons_succ, List.getElem?_cons_zero, fa_normal_Counts_Part, ld_sl_int, ln_sl_int, fa_normal_Counts_Log, ld_int, fa_fse_Table_Entries, ld_sl_fse_Entry, ln_sl_fse_Entry, ia_sl_fse_Entry, fa_fse_Entry_Symbol, ld_uint8, ia_ar256_int, ia_sl_int, cv_uint8_int, fa_fse_Entry_Bits, fa_fse_Table_Log, fa_fse_Entry_Base, cv_uint16_int, cv_int_uint, bneq_bool, cv_uint64_int, bd_normal_Counts_0_1, bd_normal_Counts_, bd_fse_Table_, bd_fse_Table_0_1, bd_lightermanref07_T_, fa_lightermanref06_C_Log, bd_lightermanref07_T_0, fa_lightermanref07_T_L, ld_sl_lightermanref07_E, bd_lightermanref07_E_0, fa_lightermanref06_C_Part, ia_sl_lightermanref07_E, fa_lightermanref07_E_Symbol, fa_lightermanref07_E_Bits, fa_lightermanref07_E_Base, bd_lightermanref06_C_0_1, fa_lightermanref07_T_Log, ln_sl_lightermanref07_E, cv_int_uint64, bd_fse_Entry_0, bd_fse_Table_1, cv_int_uint8, cv_uint_uint32, cv_uint32_uint8, ix_string, cv_uint64_uint8, c8, d1]
    exact hR _ _ _ (by rw [List.take_of_length_le (Nat.le_refl _)]) hf x1
end Go.Proofs.Ytcbkdccobhkbpaa
