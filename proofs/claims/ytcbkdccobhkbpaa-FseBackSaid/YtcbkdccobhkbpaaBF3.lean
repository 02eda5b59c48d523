/- Contracts: the reference's table, its parts. -/
import Derived.Test.YtcbkdccobhkbpaaBF2
namespace Go.Proofs.Ytcbkdccobhkbpaa
open Go Go.En Go.Pu
set_option maxRecDepth 4000
set_option linter.unusedSimpArgs false
set_option linter.unusedVariables false

/-- how many bits a state tells -/
theorem refBits_c {log k : Nat} (h15 : log ≤ 15) (hk1 : 1 ≤ k) (hk2 : k < 2 ^ (log + 1)) {w0 w : World} {p1 : Nat} {sv t2 n5 t6 seen i15 : Value} (o1 : Own w p1 [.int .i64 log, sv])
    {k12 : Value → Value → Value → Value → Value → Value → Value → Value → World → Prop}
    (hR : k12 (.pointer (some ⟨p1, 0, none⟩)) t2 n5 t6 seen i15 (.int .i64 k) (.int .i64 ((log + 1 - bl k : Nat) : Int)) w) :
    ref07_Build_p5 k12 (.pointer (some ⟨p1, 0, none⟩)) t2 n5 t6 seen i15 (.int .i64 k) (.int .i64 log) w := by
  have hb1 := bl_pos (k := k) (by omega)
  have hb2 := bl_le_of hk2
  have hlt := bl_lt k
  have hle := bl_le (k := k) (by omega)
  have c0 := o1.cell (off := 0)
  simp only [List.getElem?_cons_zero] at c0
  unfold ref07_Build_p5
  refine LoopD.rule (fun m t w' => ∃ q : Nat, m = log - q ∧ t = .int .i64 ((log - q : Nat) : Int) ∧ q + 1 ≤ bl k ∧ w' = w) log ⟨0, rfl, rfl, by omega, rfl⟩ ?_
  rintro m t w' ⟨q, rfl, rfl, hq, rfl⟩
  have e1 : (log : Int) - ((log - q : Nat) : Int) + 1 = ((q + 1 : Nat) : Int) := by omega
  have hw : IntKind.i64.wrap ((log : Int) - ((log - q : Nat) : Int)) = (log : Int) - ((log - q : Nat) : Int) := w_i64 (by omega) (by omega)
  unfold ref07_Build_p4
  simp (disch := omega) only [Stp, fa_lightermanref06_C_Log, r_sub, w_i64, stepR_value, ld_int, c0, ldC_some, hw, r_add, e1]
  refine (power_c (q + 1) (by omega) _).mono ?_
  rintro r w1 ⟨rfl, rfl⟩
  have hpw : ((2 ^ (q + 1) : Nat) : Int) = (2 : Int) ^ (q + 1) := by simp
  rw [← hpw]
  by_cases hc : 2 ^ (q + 1) ≤ k
  · have d1 : decide (((2 ^ (q + 1) : Nat) : Int) ≤ (k : Int)) = true := by simp only [decide_eq_true_eq]; omega
    have hq2 : q + 2 ≤ bl k := by
      rcases Nat.lt_or_ge (q + 1) (bl k) with h | h
      · exact h
      · have : bl k = q + 1 := by omega
        rw [this] at hlt; omega
    simp (disch := omega) only [r_leq, d1, stepR_value, and_true, Cnd_true]
    exact ⟨log - (q + 1), by omega, q + 1, rfl, by congr 1; omega, hq2⟩
  · have d1 : decide (((2 ^ (q + 1) : Nat) : Int) ≤ (k : Int)) = false := by simp only [decide_eq_false_iff_not]; omega
    have : bl k = q + 1 := by
      have := bl_le_of (k := k) (n := q + 1) (by omega)
      omega
    rw [this, show log + 1 - (q + 1) = log - q from by omega] at hR
    simp (disch := omega) only [r_leq, d1, stepR_value, and_true, Cnd_false]
    exact hR

/-- the reference's walk to the next place below high -/
theorem refSeek_c {N high j : Nat} (hN : 0 < N) (hN2 : N ≤ 32768) (hh : 0 < high) (hhN : high ≤ N) {w : World} {c1 t2 t6 s k : Value}
    {k8 : Value → Value → Value → Value → Value → Value → Value → Value → World → Prop}
    (hR : k8 c1 t2 (.int .i64 N) t6 (.int .i64 ((high : Int) - 1)) (.int .i64 (seek N high N (pos N j) : Nat)) s k w) :
    ref07_Build_p28 k8 c1 t2 (.int .i64 N) t6 (.int .i64 ((high : Int) - 1)) (.int .i64 (pos N j : Nat)) s k (.int .i64 0) w := by
  obtain ⟨d, h1, h2, h3⟩ := seek_spec hN hh j
  have hd : d < N := by
    obtain ⟨D, hD, h0⟩ := pos_hit N j hN
    rcases Nat.lt_or_ge d N with h | h
    · exact h
    · have := h1 D (by omega)
      omega
  rw [h3] at hR
  unfold ref07_Build_p28
  refine LoopD.rule (fun m t w' => ∃ q : Nat, m = d - q ∧ t = (.int .i64 (pos N (j + q) : Nat), .int .i64 q) ∧ q ≤ d ∧ w' = w) d ⟨0, rfl, rfl, by omega, rfl⟩ ?_
  rintro m t w' ⟨q, rfl, rfl, hq, rfl⟩
  have hp := pos_lt hN (j + q)
  have d1 : decide ((q : Int) < (N : Int)) = true := by simp only [decide_eq_true_eq]; omega
  have e1 : (N : Int).tdiv 2 = ((N / 2 : Nat) : Int) := by rw [Int.tdiv_eq_ediv_of_nonneg (by omega)]; omega
  have e3 : (N : Int).tdiv 8 = ((N / 8 : Nat) : Int) := by rw [Int.tdiv_eq_ediv_of_nonneg (by omega)]; omega
  have e4 : (((pos N (j + q) : Nat) : Int) + ((N / 2 : Nat) : Int) + ((N / 8 : Nat) : Int) + 3).tmod (N : Int) = ((pos N (j + q + 1) : Nat) : Int) := by
    rw [Int.tmod_eq_emod_of_nonneg (by omega), ← adv_pos]
    unfold adv
    simp
  unfold ref07_Build_p27
  by_cases hqd : q < d
  · have := h1 q hqd
    have d2 : decide ((high : Int) - 1 < ((pos N (j + q) : Nat) : Int)) = true := by simp only [decide_eq_true_eq]; omega
    simp (disch := omega) only [Stp, r_lss, d1, r_quo, e1, w_i64, e3, r_add, stepR_value, r_rem, e4, isB_tt, r_pick, if_true, Gd_true, r_gtr, d2, and_true, Cnd_true]
    exact ⟨d - (q + 1), by omega, q + 1, rfl, rfl, by omega⟩
  · have : q = d := by omega
    subst this
    have d2 : decide ((high : Int) - 1 < ((pos N (j + q) : Nat) : Int)) = false := by simp only [decide_eq_false_iff_not]; omega
    simp (disch := omega) only [Stp, r_lss, d1, r_quo, w_i64, r_add, stepR_value, r_rem, isB_tt, r_pick, if_true, Gd_true, r_gtr, d2, and_true, Cnd_false]
    exact hR

theorem model7_c {log : Int} {sv : Value} {ps : List Int} {w : World} (hs : Sl w sv (ps.map (Value.int .i64))) :
    Does pg F_law07_modelOf #[.agg #[.int .i64 log, sv]] w (fun r w' => r = .agg #[.int .i64 log, sv] ∧ Ext w w' nob) := by
  refine law07_modelOf_does ?_
  obtain ⟨a, c, rfl, hc⟩ := hs.lenI
  unfold law07_modelOf law07_modelOf_p1
  refine stp_box fun w1 o1 x1 s1 => ?_
  refine al_lightermanref06_C fun w2 o2 x2 s2 => ?_
  have o1 := o1.ext x2 (fun h => h)
  have c0 := o1.cell (off := 0)
  have c1 := o1.cell (off := 1)
  simp only [Value.cells, List.getElem?_cons_zero, List.getElem?_cons_succ] at c0 c1
  simp (disch := omega) only [Stp, fa_normal_Counts_Log, fa_normal_Counts_Part, Nat.zero_add, stepR_value, ld_sl_int, ld_int, c0, ldC_some, c1, bd_lightermanref06_C_0_1]
  refine sta_lightermanref06_C o2 rfl (by simp [one]) (by simp) fun w3 o3 x3 s3 => ?_
  refine ldr_lightermanref06_C o3 (by simp [setAll]) ⟨rfl, ?_⟩
  exact (x1.seq x2).new x3 x1.size
end Go.Proofs.Ytcbkdccobhkbpaa
/- Contracts: the reference lays its rare symbols. -/
namespace Go.Proofs.Ytcbkdccobhkbpaa
open Go Go.En Go.Pu
set_option maxRecDepth 4000
set_option linter.unusedSimpArgs false
set_option linter.unusedVariables false

theorem m3_storeR {k : IntKind} {L : List Int} {rest : List Value} {i : Nat} (h : i < L.length) (x : Int) : (fe k (m3 L) ++ rest).set (i * 3) (.int k x) = fe k (m3 (L.set i x)) ++ rest := by
  rw [List.set_append_left _ _ (by rw [fe_length]; simp [m3]; omega), m3_store h]

theorem refTops_c {log N high cc p1 p6 b : Nat} {ps : List Int} {sv t2 : Value} {arr arr' : List Int} {rest : List Value} {w0 w : World} (hm : May log ps) (hs : Sl w0 sv (ps.map (Value.int .i64))) (hx : Ext w0 w nob)
    (hN2 : N ≤ 32768) (hcc : N ≤ cc) (harr : arr.length = N) (hng : (negs ps 0).length ≤ N) (ht : tops ps 0 N arr = (high, arr')) (hlo : w0.heap.size ≤ b) (hne : p1 ≠ b ∧ p6 ≠ b)
    (o1 : Own w p1 [.int .i64 log, sv]) (o6 : Own w p6 [.int .i64 log, .slice (some ⟨b, 0, none⟩) N cc]) (ob : Own w b (fe .i64 (m3 arr) ++ rest))
    {k2 : Value → Value → Value → Value → Value → World → Prop}
    (hR : ∀ w', Own w' b (fe .i64 (m3 arr') ++ rest) → Ext w w' (fun y => y = b) → k2 (.pointer (some ⟨p1, 0, none⟩)) t2 (.int .i64 N) (.pointer (some ⟨p6, 0, none⟩)) (.int .i64 ((high : Int) - 1)) w') :
    ref07_Build_p54 k2 (.pointer (some ⟨p1, 0, none⟩)) t2 (.int .i64 N) (.pointer (some ⟨p6, 0, none⟩)) (.int .i64 ((N : Int) - 1)) (.int .i64 0) w := by
  have hlen := hm.len256
  obtain ⟨a, c, rfl, hc⟩ := hs.lenI
  unfold ref07_Build_p54
  refine LoopD.rule (fun m t w' => ∃ (i hg : Nat) (ar : List Int), m = ps.length - i ∧ t = (.int .i64 ((hg : Int) - 1), .int .i64 i) ∧ i ≤ ps.length ∧ (negs (ps.drop i) i).length ≤ hg ∧ hg ≤ N ∧ ar.length = N ∧ tops (ps.drop i) i hg ar = (high, arr') ∧ Own w' b (fe .i64 (m3 ar) ++ rest) ∧ Ext w w' (fun y => y = b)) ps.length
    ⟨0, N, arr, rfl, rfl, by omega, by rw [List.drop_zero]; exact hng, by omega, harr, by rw [List.drop_zero]; exact ht, ob, Ext.refl _ _⟩ ?_
  rintro m t w3 ⟨i, hg, ar, rfl, rfl, hi, hng, hgN, harr, htop, o3, x3⟩
  have c1 := (o1.ext x3 hne.1).cell (off := 1)
  have c6 := (o6.ext x3 hne.2).cell (off := 1)
  simp only [List.getElem?_cons_zero, List.getElem?_cons_succ] at c1 c6
  unfold ref07_Build_p53 ref07_Build_p52
  by_cases hlt : i < ps.length
  · have d1 : decide ((i : Int) < (ps.length : Int)) = true := by simp; omega
    obtain ⟨b', off', c', e, _, hcell⟩ := (hs.ext (hx.new x3 hlo) (inB_nob _)).openI (by omega)
    cases e
    have g1 := hcell i hlt
    have hd : ps.drop i = ps[i] :: ps.drop (i + 1) := List.drop_eq_getElem_cons hlt
    have hlow := hm.low _ (List.getElem_mem hlt)
    rw [hd, negs] at hng
    rw [hd, tops] at htop
    by_cases hp : ps[i] = -1
    · have d2 : decide (ps[i] < 0) = true := by simp; omega
      rw [if_pos hp] at hng htop
      simp only [List.length_cons] at hng
      have e1 : (hg : Int) - 1 = ((hg - 1 : Nat) : Int) := by omega
      have e2 : IntKind.i64.wrap (((hg - 1 : Nat) : Int) - 1) = ((hg - 1 : Nat) : Int) - 1 := w_i64 (by omega) (by omega)
      rw [e1]
      simp (disch := omega) only [Stp, fa_lightermanref06_C_Part, Nat.zero_add, fa_lightermanref07_T_L, r_sub, w_i64, stepR_value, ld_sl_lightermanref07_E, ld_sl_int, c1, ldC_some, ln_sl_int, r_lss, d1, ia_sl_int, Int.toNat_natCast, ld_int, g1, d2, c6, ia_sl_lightermanref07_E, fa_lightermanref07_E_Symbol, Cnd_true]
      refine st_int o3 rfl (by rw [List.length_append, fe_length]; simp [m3]; omega) fun w4 o4 x4 s4 => ?_
      rw [m3_storeR (by omega)] at o4
      unfold ref07_Build_p51
      simp (disch := omega) only [Stp, r_add, w_i64, stepR_value]
      exact ⟨ps.length - (i + 1), by omega, i + 1, hg - 1, _, rfl, rfl, by omega, by omega, by omega, by simp [harr], htop, o4, x3.trans x4 (fun _ _ h => h)⟩
    · have d2 : decide (ps[i] < 0) = false := by simp; omega
      rw [if_neg hp] at hng htop
      unfold ref07_Build_p51
      simp (disch := omega) only [Stp, fa_lightermanref06_C_Part, Nat.zero_add, fa_lightermanref07_T_L, r_sub, w_i64, r_add, stepR_value, ld_sl_lightermanref07_E, ld_sl_int, c1, ldC_some, ln_sl_int, r_lss, d1, ia_sl_int, Int.toNat_natCast, ld_int, g1, d2, c6, Cnd_false, Cnd_true]
      exact ⟨ps.length - (i + 1), by omega, i + 1, hg, ar, rfl, rfl, by omega, by omega, by omega, harr, htop, o3, x3⟩
  · have d1 : decide ((i : Int) < (ps.length : Int)) = false := by simp; omega
    rw [List.drop_of_length_le (by omega), tops] at htop
    obtain ⟨rfl, rfl⟩ : hg = high ∧ ar = arr' := by simpa using htop
    simp (disch := omega) only [Stp, fa_lightermanref06_C_Part, Nat.zero_add, fa_lightermanref07_T_L, r_sub, w_i64, stepR_value, ld_sl_lightermanref07_E, ld_sl_int, c1, ldC_some, ln_sl_int, r_lss, d1, Cnd_false]
    exact hR _ o3 x3
end Go.Proofs.Ytcbkdccobhkbpaa
/- Contracts: the reference lays its other symbols. -/
namespace Go.Proofs.Ytcbkdccobhkbpaa
open Go Go.En Go.Pu
set_option maxRecDepth 4000
set_option linter.unusedSimpArgs false
set_option linter.unusedVariables false

theorem refPlace_c {log N high cc p1 p6 b : Nat} {ps : List Int} {sv t2 : Value} {arr : List Int} {rest : List Value} {w0 w : World} (hm : May log ps) (hs : Sl w0 sv (ps.map (Value.int .i64))) (hx : Ext w0 w nob)
    (hN1 : 32 ≤ N) (hN2 : N ≤ 32768) (hcc : N ≤ cc) (harr : arr.length = N) (hhigh : (reps ps 0).length = high) (hhN : high ≤ N) (hlo : w0.heap.size ≤ b) (hne : p1 ≠ b ∧ p6 ≠ b)
    (o1 : Own w p1 [.int .i64 log, sv]) (o6 : Own w p6 [.int .i64 log, .slice (some ⟨b, 0, none⟩) N cc]) (ob : Own w b (fe .i64 (m3 arr) ++ rest))
    {k4 : Value → Value → Value → Value → World → Prop}
    (hR : ∀ w', Own w' b (fe .i64 (m3 (place N high (reps ps 0) 0 arr)) ++ rest) → Ext w w' (fun y => y = b) → k4 (.pointer (some ⟨p1, 0, none⟩)) t2 (.int .i64 N) (.pointer (some ⟨p6, 0, none⟩)) w') :
    ref07_Build_p44 k4 (.pointer (some ⟨p1, 0, none⟩)) t2 (.int .i64 N) (.pointer (some ⟨p6, 0, none⟩)) (.int .i64 ((high : Int) - 1)) (.int .i64 0) (.int .i64 0) w := by
  have hlen := hm.len256
  obtain ⟨a, c, rfl, hc⟩ := hs.lenI
  unfold ref07_Build_p44
  refine LoopD.rule (fun m t w' => ∃ (s j : Nat) (ar : List Int), m = ps.length - s ∧ t = (.int .i64 (pos N j : Nat), .int .i64 s) ∧ s ≤ ps.length ∧ ar.length = N ∧ place N high (reps (ps.drop s) s) (pos N j) ar = place N high (reps ps 0) 0 arr ∧ (reps (ps.drop s) s).length ≤ high ∧ Own w' b (fe .i64 (m3 ar) ++ rest) ∧ Ext w w' (fun y => y = b)) ps.length
    ⟨0, 0, arr, rfl, by rw [pos_zero]; rfl, by omega, harr, by rw [pos_zero, List.drop_zero], by rw [List.drop_zero, hhigh]; exact Nat.le_refl _, ob, Ext.refl _ _⟩ ?_
  rintro m t w4 ⟨s, j, ar, rfl, rfl, hs4, har, hpl, hrl, o4, x4⟩
  have c1 := (o1.ext x4 hne.1).cell (off := 1)
  simp only [List.getElem?_cons_zero, List.getElem?_cons_succ] at c1
  unfold ref07_Build_p43 ref07_Build_p42
  by_cases hlt : s < ps.length
  · have d1 : decide ((s : Int) < (ps.length : Int)) = true := by simp; omega
    obtain ⟨q, hq⟩ : ∃ q, q = ps[s].toNat := ⟨_, rfl⟩
    rw [reps_drop hlt, ← hq] at hpl hrl
    have hqN : q ≤ N := by simp at hrl; omega
    simp (disch := omega) only [Stp, fa_lightermanref06_C_Part, Nat.zero_add, stepR_value, ld_sl_int, c1, ldC_some, ln_sl_int, r_lss, d1, Cnd_true]
    unfold ref07_Build_p41 ref07_Build_p40 ref07_Build_p39 ref07_Build_p38 ref07_Build_p37 ref07_Build_p36
    refine LoopD.rule (fun m t w' => ∃ (k j : Nat) (ar : List Int), m = q - k ∧ t = (.int .i64 (pos N j : Nat), .int .i64 k) ∧ k ≤ q ∧ ar.length = N ∧ place N high (List.replicate (q - k) s ++ reps (ps.drop (s + 1)) (s + 1)) (pos N j) ar = place N high (reps ps 0) 0 arr ∧ Own w' b (fe .i64 (m3 ar) ++ rest) ∧ Ext w w' (fun y => y = b)) q
      ⟨0, j, ar, rfl, rfl, by omega, har, hpl, o4, x4⟩ ?_
    rintro m t w5 ⟨k, j5, ar5, rfl, rfl, hk, har5, hpl5, o5, x5⟩
    have c15 := (o1.ext x5 hne.1).cell (off := 1)
    have c65 := (o6.ext x5 hne.2).cell (off := 1)
    simp only [List.getElem?_cons_zero, List.getElem?_cons_succ] at c15 c65
    obtain ⟨b', off', c', e, _, hcell⟩ := (hs.ext (hx.new x5 hlo) (inB_nob _)).openI (by omega)
    cases e
    have g1 := hcell s hlt
    unfold ref07_Build_p35 ref07_Build_p34
    by_cases hkq : k < q
    · have d2 : decide ((k : Int) < ps[s]) = true := by simp; omega
      have hp := pos_lt (n := N) (by omega) j5
      have hhg : 0 < high := by simp at hrl; omega
      simp (disch := omega) only [Stp, fa_lightermanref06_C_Part, Nat.zero_add, stepR_value, ld_sl_int, c15, ldC_some, ia_sl_int, Int.toNat_natCast, ld_int, g1, r_lss, d2, Cnd_true]
      unfold ref07_Build_p33 ref07_Build_p32 ref07_Build_p31 ref07_Build_p30
      simp (disch := omega) only [Stp, fa_lightermanref07_T_L, Nat.zero_add, r_quo, stepR_value, r_add, r_rem, ld_sl_lightermanref07_E, c65, ldC_some, ia_sl_lightermanref07_E, Int.toNat_natCast, fa_lightermanref07_E_Symbol]
      refine st_int o5 rfl (by rw [List.length_append, fe_length]; simp [m3]; omega) fun w6 o6' x6 s6 => ?_
      rw [m3_storeR (by omega)] at o6'
      have e1 : (N : Int).tdiv 2 = ((N / 2 : Nat) : Int) := by rw [Int.tdiv_eq_ediv_of_nonneg (by omega)]; omega
      have e3 : (N : Int).tdiv 8 = ((N / 8 : Nat) : Int) := by rw [Int.tdiv_eq_ediv_of_nonneg (by omega)]; omega
      have e4 : (((pos N j5 : Nat) : Int) + ((N / 2 : Nat) : Int) + ((N / 8 : Nat) : Int) + 3).tmod (N : Int) = ((pos N (j5 + 1) : Nat) : Int) := by
        rw [Int.tmod_eq_emod_of_nonneg (by omega), ← adv_pos]
        unfold adv
        simp
      simp (disch := omega) only [e1, w_i64, e3, e4]
      unfold ref07_Build_p29
      rw [show q - k = (q - (k + 1)) + 1 from by omega, List.replicate_succ, List.cons_append, place_cons, adv_pos] at hpl5
      obtain ⟨d, _, hd2, hd3⟩ := seek_spec (n := N) (high := high) (by omega) hhg (j5 + 1)
      refine refSeek_c (by omega) hN2 hhg hhN ?_
      rw [hd3] at hpl5 ⊢
      unfold ref07_Build_p26
      simp (disch := omega) only [Stp, r_add, w_i64, stepR_value]
      exact ⟨q - (k + 1), by omega, k + 1, j5 + 1 + d, _, rfl, rfl, by omega, by simp [har5], hpl5, o6', x5.trans x6 (fun _ _ h => h)⟩
    · have d2 : decide ((k : Int) < ps[s]) = false := by simp; omega
      rw [show q - k = 0 from by omega, List.replicate_zero, List.nil_append] at hpl5
      unfold ref07_Build_p25
      simp (disch := omega) only [Stp, fa_lightermanref06_C_Part, Nat.zero_add, r_add, w_i64, stepR_value, ld_sl_int, c15, ldC_some, ia_sl_int, Int.toNat_natCast, ld_int, g1, r_lss, d2, Cnd_false]
      exact ⟨ps.length - (s + 1), by omega, s + 1, j5, ar5, rfl, rfl, by omega, har5, hpl5, by simp at hrl; omega, o5, x5⟩
  · have d1 : decide ((s : Int) < (ps.length : Int)) = false := by simp; omega
    rw [List.drop_of_length_le (by omega), reps, place] at hpl
    simp (disch := omega) only [Stp, fa_lightermanref06_C_Part, Nat.zero_add, stepR_value, ld_sl_int, c1, ldC_some, ln_sl_int, r_lss, d1, Cnd_false]
    exact hR _ (by rw [← hpl]; exact o4) x4
end Go.Proofs.Ytcbkdccobhkbpaa
/- Contracts: the reference's empty entries. -/
namespace Go.Proofs.Ytcbkdccobhkbpaa
open Go Go.En Go.Pu
set_option maxRecDepth 4000
set_option linter.unusedSimpArgs false
set_option linter.unusedVariables false

theorem refInit_c {log N p6 : Nat} {c1 t2 : Value} {w : World} (hN1 : 32 ≤ N) (hN2 : N ≤ 32768) (o6 : Own w p6 [.int .i64 log, .slice none 0 0])
    {k0 : Value → Value → Value → Value → World → Prop}
    (hR : ∀ w' b cc rest, Own w' p6 [.int .i64 log, .slice (some ⟨b, 0, none⟩) N cc] → Own w' b (fe .i64 (m3 (List.replicate N (-1))) ++ rest) → N ≤ cc → w.heap.size ≤ b → Ext w w' (fun y => y = p6 ∨ w.heap.size ≤ y) → k0 c1 t2 (.int .i64 N) (.pointer (some ⟨p6, 0, none⟩)) w') :
    ref07_Build_p62 k0 c1 t2 (.int .i64 N) (.pointer (some ⟨p6, 0, none⟩)) (.int .i64 0) w := by
  have l6 := o6.lt
  unfold ref07_Build_p62
  refine LoopD.rule (fun m t w' => ∃ (i : Nat) (v : Value), m = N - i ∧ t = .int .i64 i ∧ i ≤ N ∧ Own w' p6 [.int .i64 log, v] ∧ OSl w' w.heap.size 3 v i (fe .i64 (m3 (List.replicate i (-1)))) ∧ Ext w w' (fun y => y = p6 ∨ w.heap.size ≤ y)) N
    ⟨0, _, rfl, rfl, by omega, o6, OSl.nil _ _ _, Ext.refl _ _⟩ ?_
  rintro m t w1 ⟨i, v, rfl, rfl, hi, o1, os, x1⟩
  have c1' := o1.cell (off := 1)
  simp only [List.getElem?_cons_zero, List.getElem?_cons_succ] at c1'
  unfold ref07_Build_p61
  by_cases hlt : i < N
  · have d1 : decide ((i : Int) < (N : Int)) = true := by simp only [decide_eq_true_eq]; omega
    simp (disch := omega) only [Stp, r_lss, d1, fa_lightermanref07_T_L, Nat.zero_add, bd_lightermanref07_E_0, r_add, w_i64, stepR_value, ld_sl_lightermanref07_E, c1', ldC_some, Cnd_true]
    refine bs_sl_lightermanref07_E (cells := #[.int .i64 (-1), .int .i64 0, .int .i64 0]) (by decide) (by decide) (by kernel_rfl) fun w2 o2 x2 s2 => ?_
    refine ap_sl_lightermanref07_E_sl_lightermanref07_E (os.ext x2 (fun _ _ h => h)) (o2.cl (off := 0) (l := [.int .i64 (-1), .int .i64 0, .int .i64 0]) rfl (fun i hi => by rw [Nat.zero_add])) (by simp [one]) (Nat.le_trans x1.size x2.size) (by omega) fun v3 w3 o3 x3 => ?_
    have o13 := (o1.ext x2 (fun h => h)).ext x3 (by omega)
    refine st_sl_lightermanref07_E o13 ?_ (by simp) fun w4 o4 x4 s4 => ?_
    · obtain ⟨a, c, e⟩ := o3.len
      rw [e]; rfl
    simp only [List.set_cons_zero, List.set_cons_succ] at o4
    refine ⟨N - (i + 1), by omega, i + 1, v3, rfl, rfl, by omega, o4, ?_, ?_⟩
    · have e : fe .i64 (m3 (List.replicate (i + 1) (-1))) = fe .i64 (m3 (List.replicate i (-1))) ++ [.int .i64 (-1), .int .i64 0, .int .i64 0] := by
        rw [List.replicate_succ']; unfold m3; rw [List.map_append, fe_append]; rfl
      rw [e]
      exact o3.ext x4 (fun b hb h => by omega)
    · exact ((x1.seq (x2.mono fun _ _ h => h.elim)).seq (x3.mono fun _ _ h => .inr h)).seq (x4.mono fun _ _ h => .inl h)
  · have d1 : decide ((i : Int) < (N : Int)) = false := by simp only [decide_eq_false_iff_not]; omega
    have : i = N := by omega
    subst this
    simp (disch := omega) only [Stp, r_lss, d1, fa_lightermanref07_T_L, Nat.zero_add, bd_lightermanref07_E_0, r_add, w_i64, stepR_value, ld_sl_lightermanref07_E, Cnd_false]
    rcases os.2 with ⟨_, h⟩ | ⟨b, c, rest, rfl, h2, h3, h4, h5⟩
    · omega
    · exact hR _ b c rest o1 h3 h5 h2 x1
end Go.Proofs.Ytcbkdccobhkbpaa
/- Contracts: the reference fills its entries. -/
namespace Go.Proofs.Ytcbkdccobhkbpaa
open Go Go.En Go.Pu
set_option maxRecDepth 4000
set_option linter.unusedSimpArgs false
set_option linter.unusedVariables false

theorem fe_setR1 {k : IntKind} {L : List T3} {rest : List Value} {i : Nat} (h : i < L.length) (x : Int) : (fe k L ++ rest).set (i * 3 + 1) (.int .i64 x) = fe k (L.set i (L[i].1, x, L[i].2.2)) ++ rest := by
  rw [List.set_append_left _ _ (by rw [fe_length]; omega), (fe_set k L i h x).2.1]
theorem fe_setR2 {k : IntKind} {L : List T3} {rest : List Value} {i : Nat} (h : i < L.length) (x : Int) : (fe k L ++ rest).set (i * 3 + 2) (.int .i64 x) = fe k (L.set i (L[i].1, L[i].2.1, x)) ++ rest := by
  rw [List.set_append_left _ _ (by rw [fe_length]; omega), (fe_set k L i h x).2.2]

theorem refStep_c {log N cc p1 p6 b ns : Nat} {ps S : List Int} {sv t2 : Value} {rest : List Value} {w0 w : World} (hm : May log ps) (L : Lay log ps S) (hN : 2 ^ log = N) (hs : Sl w0 sv (ps.map (Value.int .i64))) (hx : Ext w0 w nob) (hcc : N ≤ cc)
    {i : Nat} (hlt : i < N) (hne : p1 ≠ b ∧ p6 ≠ b ∧ ns ≠ b ∧ p1 ≠ ns ∧ p6 ≠ ns)
    (o1 : Own w p1 [.int .i64 log, sv]) (o6 : Own w p6 [.int .i64 log, .slice (some ⟨b, 0, none⟩) N cc]) (ob : Own w b (fe .i64 (Es log ps S i) ++ rest)) (os : Own w ns ((cn S i).map (Value.int .i64)))
    {kn : Value → Value → Value → Value → Value → Value → World → Prop} {R : Value → World → Prop}
    (hR : ∀ w', Own w' b (fe .i64 (Es log ps S (i + 1)) ++ rest) → Own w' ns ((cn S (i + 1)).map (Value.int .i64)) → Ext w w' (fun y => y = ns ∨ y = b) →
      kn (.pointer (some ⟨p1, 0, none⟩)) t2 (.int .i64 N) (.pointer (some ⟨p6, 0, none⟩)) (.pointer (some ⟨ns, 0, none⟩)) (.int .i64 ((i + 1 : Nat) : Int)) w') :
    ref07_Build_p15 kn R (.pointer (some ⟨p1, 0, none⟩)) t2 (.int .i64 N) (.pointer (some ⟨p6, 0, none⟩)) (.pointer (some ⟨ns, 0, none⟩)) (.int .i64 i) w := by
  have h15 := hm.log15
  have hlen := hm.len256
  have hN2 : 2 ^ log ≤ 2 ^ 15 := Nat.pow_le_pow_right (by omega) h15
  have hSl : S.length = 2 ^ log := L.len
  obtain ⟨a, c, rfl, hc⟩ := hs.lenI
  have c1 := o1.cell (off := 1)
  have c6 := o6.cell (off := 1)
  simp only [List.getElem?_cons_zero, List.getElem?_cons_succ] at c1 c6
  have hltN : i < 2 ^ log := by omega
  obtain ⟨s, hsl, hsS, hp1, hp2, hk', hcnt⟩ := kAt_bd hm L hltN
  obtain ⟨k, hkk⟩ : ∃ k, k = kAt ps S i := ⟨_, rfl⟩
  rw [← hkk] at hk'
  have hk2 : k < 2 ^ (log + 1) := by rw [Nat.pow_succ]; omega
  have hel : i < (Es log ps S i).length := by rw [Es_length]; exact hltN
  have hE0 : (Es log ps S i)[i]'hel = ((s : Int), 0, 0) := by rw [Es_at hltN, hsS]
  have g0 := ob.cell (off := i * 3)
  rw [List.getElem?_append_left (by rw [fe_length]; omega), (fe_get .i64 (Es log ps S i) i hel).1, hE0] at g0
  simp only at g0
  obtain ⟨b', off', c', e, _, hcell⟩ := (hs.ext hx (inB_nob _)).openI (by omega)
  cases e
  have g1 := hcell s hsl
  have hlow := hm.low _ (List.getElem_mem hsl)
  have hSi : S[i]'(by omega) = (s : Int) := by rw [← hsS, List.getD_eq_getElem?_getD, List.getElem?_eq_getElem (by omega)]; rfl
  have gs := os.cell (off := s)
  rw [List.getElem?_map, List.getElem?_eq_getElem (by rw [cn_length]; omega), cn_get (by omega)] at gs
  simp only [Option.map_some] at gs
  have hcs := cn_set (S := S) (i := i) (s := s) (by omega) (by omega) hSi
  have d1 : decide ((s : Int) < 0) = false := by simp
  have d2 : decide ((ps.length : Int) ≤ (s : Int)) = false := by simp; omega
  unfold ref07_Build_p15 ref07_Build_p14 ref07_Build_p13 ref07_Build_p12
  simp (disch := omega) only [Stp, fa_lightermanref07_T_L, Nat.zero_add, fa_lightermanref06_C_Part, stepR_value, bd_lightermanref07_T_, ld_sl_lightermanref07_E, c6, ldC_some, ia_sl_lightermanref07_E, Int.toNat_natCast, fa_lightermanref07_E_Symbol, ld_int, g0, r_lss, d1, isB_ff, r_pick, Bool.false_eq_true, if_false, Gd_true, ld_sl_int, c1, ln_sl_int, r_geq, d2, Cnd_false]
  have hpn := partsI_nonneg hlow
  have hcl : (S.take i).count (s : Int) ≤ i := by
    have := List.count_le_length (a := (s : Int)) (l := S.take i)
    rw [List.length_take] at this; omega
  have c10 := o1.cell (off := 0)
  simp only [List.getElem?_cons_zero] at c10
  have ek : (((S.take i).count (s : Int) : Nat) : Int) + partsI ps[s] = (k : Int) := by rw [hk']; omega
  have h9 : ref07_Build_p9 (fun c_1 t2 n_5 t6 seen_14 i_15 w => ref07_Build_p2 kn c_1 t2 n_5 t6 seen_14 i_15 w) (.pointer (some ⟨p1, 0, none⟩)) t2 (.int .i64 N) (.pointer (some ⟨p6, 0, none⟩)) (.pointer (some ⟨ns, 0, none⟩)) (.int .i64 i) (.int .i64 (s : Int)) (.int .i64 (partsI ps[s])) w := by
    unfold ref07_Build_p9 ref07_Build_p8
    simp (disch := omega) only [Stp, ia_ar256_int, Int.toNat_natCast, Nat.zero_add, fa_lightermanref06_C_Log, stepR_value, ld_int, gs, ldC_some, r_add, ek, w_i64]
    refine st_int os rfl (by rw [List.length_map, cn_length]; omega) fun w2 os2 x2 s2 => ?_
    rw [← List.map_set, hcs] at os2
    have o12 := o1.ext x2 (by omega)
    have o62 := o6.ext x2 (by omega)
    have ob2 := ob.ext x2 (by omega)
    have c12 := o12.cell (off := 0)
    have c62 := o62.cell (off := 1)
    simp only [List.getElem?_cons_zero, List.getElem?_cons_succ] at c12 c62
    simp (disch := omega) only [c12, ldC_some, stepR_value]
    unfold ref07_Build_p7 ref07_Build_p6
    refine refBits_c (w0 := w0) h15 (by omega) hk2 o12 ?_
    unfold ref07_Build_p3
    obtain ⟨nbits, hnbits⟩ : ∃ x, x = log + 1 - bl k := ⟨_, rfl⟩
    obtain ⟨eb1, eb2, eb3, eb4⟩ := ent_bd (log := log) (k := k) (by omega) hk2
    rw [← hnbits] at eb1 eb2 ⊢
    have hent : entAt log ps S i = entOf log (s : Int) k := by unfold entAt; rw [hsS, ← hkk]
    have hes := Es_set (log := log) (ps := ps) (S := S) (i := i) hltN
    rw [hent] at hes
    simp (disch := omega) only [Stp, fa_lightermanref07_T_L, Nat.zero_add, Same, Result.ok.injEq, Next.value.injEq, and_true, true_and, stepR_value, ld_sl_lightermanref07_E, c62, ldC_some, ia_sl_lightermanref07_E, Int.toNat_natCast, fa_lightermanref07_E_Bits]
    refine st_int ob2 rfl (by rw [List.length_append, fe_length, Es_length]; omega) fun w3 ob3 x3 s3 => ?_
    rw [fe_setR1 hel, hE0] at ob3
    have o63 := own_dr (o62.ext x3 (by omega))
    have ob3 := own_dr ob3
    have c63 := o63.cell (off := 1)
    simp only [List.getElem?_cons_zero, List.getElem?_cons_succ] at c63
    simp (disch := omega) only [c63, ldC_some, stepR_value, ia_sl_lightermanref07_E, Int.toNat_natCast, Nat.zero_add, fa_lightermanref07_E_Base, true_and]
    refine (power_c nbits (by omega) _).mono ?_
    rintro r w4 ⟨rfl, rfl⟩
    have hA := Nat.le_trans (Nat.le_trans (Nat.mul_le_mul_right (2 ^ nbits) (show k ≤ k + 1 by omega)) eb2) (Nat.pow_le_pow_right (show 0 < 2 by omega) (show log + 1 ≤ 16 by omega))
    have hpw : ((2 ^ nbits : Nat) : Int) = (2 : Int) ^ nbits := by simp
    rw [← hpw]
    have em : (k : Int) * ((2 ^ nbits : Nat) : Int) = ((k * 2 ^ nbits : Nat) : Int) := by simp
    have e5 : (((k * 2 ^ nbits : Nat) : Int) - (N : Int)) = (entOf log (s : Int) k).2.2 := by
      unfold entOf
      simp only
      rw [← hnbits, ← hN]
      simp
    have e7 : (entOf log (s : Int) k) = ((s : Int), (nbits : Int), (entOf log (s : Int) k).2.2) := by unfold entOf; rw [hnbits]
    generalize hq : k * 2 ^ nbits = q at *
    have e6 : IntKind.i64.wrap ((q : Int) - (N : Int)) = (q : Int) - (N : Int) := w_i64 (by omega) (by omega)
    have ew : IntKind.i64.wrap (q : Int) = (q : Int) := w_i64 (by omega) (by omega)
    generalize hbase : (entOf log (s : Int) k).2.2 = base at *
    rw [e5] at e6
    simp (disch := omega) only [c63, ldC_some, r_mul, em, ew, stepR_value, r_sub, e5, e6, true_and]
    have hel5 : i < ((Es log ps S i).set i ((s : Int), (nbits : Int), 0)).length := by simpa using hel
    refine st_int ob3 rfl (by rw [List.length_append, fe_length]; simp [Es_length]; omega) fun w5 ob5 x5 s5 => ?_
    rw [fe_setR2 hel5] at ob5
    simp only [List.getElem_set_self, List.set_set] at ob5
    rw [← e7, hes] at ob5
    unfold ref07_Build_p2
    simp (disch := omega) only [Stp, r_add, w_i64, stepR_value]
    refine hR _ ob5 ((own_dr (os2.ext x3 (by omega))).ext x5 (by omega)) ?_
    exact (((x2.mono fun _ _ h => .inl h : Ext w w2 (fun y => y = ns ∨ y = b)).seq (x3.mono fun _ _ h => .inr h)).seq (Ext.dr _ _)).seq (x5.mono fun _ _ h => .inr h)
  unfold ref07_Build_p11 ref07_Build_p10
  by_cases hneg : ps[s] < 0
  · have d3 : decide (ps[s] < 0) = true := by simpa using hneg
    have ep : partsI ps[s] = 1 := by unfold partsI; rw [if_pos hneg]
    rw [ep] at h9
    simp (disch := omega) only [Stp, fa_lightermanref06_C_Part, Nat.zero_add, stepR_value, ld_sl_int, c1, ldC_some, ia_sl_int, Int.toNat_natCast, ld_int, g1, r_lss, d3, Cnd_true]
    exact h9
  · have d3 : decide (ps[s] < 0) = false := by simpa using hneg
    have ep : partsI ps[s] = ps[s] := by unfold partsI; rw [if_neg hneg]
    rw [ep] at h9
    simp (disch := omega) only [Stp, fa_lightermanref06_C_Part, Nat.zero_add, stepR_value, ld_sl_int, c1, ldC_some, ia_sl_int, Int.toNat_natCast, ld_int, g1, r_lss, d3, Cnd_false]
    exact h9
end Go.Proofs.Ytcbkdccobhkbpaa
/- Contracts: the reference's table, whole from its laid symbols on. -/
namespace Go.Proofs.Ytcbkdccobhkbpaa
open Go Go.En Go.Pu
set_option maxRecDepth 4000
set_option linter.unusedSimpArgs false
set_option linter.unusedVariables false

theorem refFill_c {log N cc p1 p2 p6 b : Nat} {ps S : List Int} {sv : Value} {rest : List Value} {w0 w : World} (hm : May log ps) (L : Lay log ps S) (hN : 2 ^ log = N) (hs : Sl w0 sv (ps.map (Value.int .i64))) (hx : Ext w0 w nob) (hcc : N ≤ cc)
    (hne : p1 ≠ b ∧ p6 ≠ b ∧ p2 ≠ b ∧ p2 ≠ p6 ∧ p1 ≠ p2) (hlo : w0.heap.size ≤ b ∧ w0.heap.size ≤ p2)
    (o1 : Own w p1 [.int .i64 log, sv]) (o2 : Own w p2 [.int .i64 0, .slice none 0 0]) (o6 : Own w p6 [.int .i64 log, .slice (some ⟨b, 0, none⟩) N cc]) (ob : Own w b (fe .i64 (m3 S) ++ rest)) {R : Value → World → Prop}
    (hR : ∀ w', Own w' b (fe .i64 (Es log ps S N) ++ rest) → Ext w0 w' nob → R (.tuple #[.agg #[.int .i64 log, .slice (some ⟨b, 0, none⟩) N cc], .int .i64 0]) w') :
    ref07_Build_p24 R (.pointer (some ⟨p1, 0, none⟩)) (.pointer (some ⟨p2, 0, none⟩)) (.int .i64 N) (.pointer (some ⟨p6, 0, none⟩)) w := by
  have hN2 : 2 ^ log ≤ 2 ^ 15 := Nat.pow_le_pow_right (by omega) hm.log15
  unfold ref07_Build_p24 ref07_Build_p23
  refine al_ar256_int fun w1 os x1 s1 => ?_
  obtain ⟨cs, hcs, os⟩ : ∃ cs, cs = List.replicate 256 (Value.int .i64 0) ∧ Own w1 w.heap.size cs := ⟨_, by kernel_rfl, os⟩
  rw [hcs] at os
  have os : Own w1 w.heap.size ((cn S 0).map (Value.int .i64)) := by rw [cn_zero, List.map_replicate]; exact os
  have l1 := o1.lt
  have l2 := o2.lt
  have l6 := o6.lt
  have lb := ob.lt
  have hxs := hx.size
  have o1 := o1.ext x1 (fun h => h)
  have o2 := o2.ext x1 (fun h => h)
  have o6 := o6.ext x1 (fun h => h)
  have ob := ob.ext x1 (fun h => h)
  have x01 := hx.seq x1
  generalize w.heap.size = ns at *
  have ob : Own w1 b (fe .i64 (Es log ps S 0) ++ rest) := by rw [Es_zero L.len]; exact ob
  unfold ref07_Build_p22 ref07_Build_p21 ref07_Build_p20 ref07_Build_p19 ref07_Build_p18
  refine LoopD.rule (fun m t w' => ∃ i : Nat, m = N - i ∧ t = .int .i64 i ∧ i ≤ N ∧ Own w' b (fe .i64 (Es log ps S i) ++ rest) ∧ Own w' ns ((cn S i).map (Value.int .i64)) ∧ Ext w1 w' (fun y => y = ns ∨ y = b)) N ⟨0, rfl, rfl, by omega, ob, os, Ext.refl _ _⟩ ?_
  rintro m t w2 ⟨i, rfl, rfl, hi, ob2, os2, x2⟩
  have x02 : Ext w0 w2 nob := x01.trans x2 (fun y hy hh => by omega)
  have o62 := o6.ext x2 (by omega)
  unfold ref07_Build_p17 ref07_Build_p16
  by_cases hlt : i < N
  · have d1 : decide ((i : Int) < (N : Int)) = true := by simp only [decide_eq_true_eq]; omega
    simp (disch := omega) only [Stp, r_lss, d1, stepR_value, Cnd_true]
    refine refStep_c hm L hN hs x02 hcc hlt (by omega) (o1.ext x2 (by omega)) o62 ob2 os2 fun w3 ob3 os3 x3 => ?_
    exact ⟨N - (i + 1), by omega, i + 1, rfl, rfl, by omega, ob3, os3, x2.trans x3 (fun _ _ h => h)⟩
  · have d1 : decide ((i : Int) < (N : Int)) = false := by simp only [decide_eq_false_iff_not]; omega
    have : i = N := by omega
    subst this
    have l4 := lda_lightermanref07_T (off := 0) o62 (by simp)
    simp only [List.drop_zero, List.take_succ_cons, List.take_zero] at l4
    simp (disch := omega) only [Stp, r_lss, d1, stepR_value, Cnd_false]
    unfold ref07_Build_p1
    simp (disch := omega) only [Stp, l4, stepR_value]
    refine sta_lightermanref07_T (o2.ext x2 (by omega)) rfl (by simp [one]) (by simp) fun w5 o25 x5 s5 => ?_
    refine ldr_lightermanref07_T o25 (by simp [setAll]) ?_
    simp only [setAll, List.set_cons_zero, List.set_cons_succ, List.drop_zero, List.take_succ_cons, List.take_zero]
    exact hR _ (ob2.ext x5 (by omega)) (x02.new x5 hlo.2)
end Go.Proofs.Ytcbkdccobhkbpaa
/- Contract: the reference's table, whole. -/
namespace Go.Proofs.Ytcbkdccobhkbpaa
open Go Go.En Go.Pu
set_option maxRecDepth 4000
set_option linter.unusedSimpArgs false
set_option linter.unusedVariables false

theorem refBuild_c {log : Nat} {sv : Value} {ps : List Int} {w : World} (hm : May log ps) (hs : Sl w sv (ps.map (Value.int .i64))) :
    Does pg F_ref07_Build #[.agg #[.int .i64 log, sv]] w (fun r w' => ∃ b cc rest, r = .tuple #[.agg #[.int .i64 log, .slice (some ⟨b, 0, none⟩) (2 ^ log) cc], .int .i64 0] ∧ w.heap.size ≤ b ∧ Own w' b (fe .i64 (buildL log ps) ++ rest) ∧ Ext w w' nob) := by
  refine ref07_Build_does ?_
  have hlen := hm.len256
  have h15 := hm.log15
  have hN2 : 2 ^ log ≤ 2 ^ 15 := Nat.pow_le_pow_right (by omega) h15
  have hN1 : 2 ^ 5 ≤ 2 ^ log := Nat.pow_le_pow_right (by omega) hm.log5
  unfold ref07_Build ref07_Build_p68 ref07_Build_p67
  refine stp_box fun w1 o1 x1 s1 => ?_
  refine al_lightermanref07_T fun w2 o2 x2 s2 => ?_
  have o1 := o1.ext x2 (fun h => h)
  have l1 := lda_lightermanref06_C (off := 0) o1 (by simp [Value.cells])
  simp only [Value.cells, List.drop_zero, List.take_succ_cons, List.take_zero] at l1
  simp (disch := omega) only [Stp, l1, bd_lightermanref07_T_, stepR_value, fa_lightermanref06_C_Log, ld_int]
  refine (refCheck_c (most := 15) ((hs.ext x1 (inB_nob _)).ext x2 (inB_nob _)) (by omega)).mono ?_
  rintro r w3 ⟨rfl, x3⟩
  have hce := chkE_ok (most := 15) hm hm.log15
  rw [show (((15 : Nat) : Int)) = 15 from rfl] at hce
  rw [hce]
  have e0 : ((0 : Int) != 0) = false := rfl
  have o1 := o1.ext x3 (fun h => h)
  have o2 := o2.ext x3 (fun h => h)
  have c0 := o1.cell (off := 0)
  simp only [Value.cells, List.getElem?_cons_zero] at c0
  simp (disch := omega) only [r_neq, e0, stepR_value, c0, ldC_some, Cnd_false]
  refine (power_c log (by omega) _).mono ?_
  rintro r w4 ⟨rfl, rfl⟩
  have hpow : ((2 ^ log : Nat) : Int) = (2 : Int) ^ log := by simp
  rw [← hpow]
  simp (disch := omega) only [c0, ldC_some, stepR_value, bd_lightermanref07_T_0]
  refine al_lightermanref07_T fun w5 o5 x5 s5 => ?_
  refine sta_lightermanref07_T o5 rfl (by simp [one]) (by simp) fun w6 o6 x6 s6 => ?_
  simp only [setAll, List.set_cons_zero, List.set_cons_succ] at o6
  have l1 := o1.lt
  have l2 := o2.lt
  have l6 := o6.lt
  have z1 := x1.size
  have z2 := x2.size
  have z3 := x3.size
  have z5 := x5.size
  have z6 := x6.size
  have o1 := (o1.ext x5 (fun h => h)).ext x6 (by omega)
  have o2 := (o2.ext x5 (fun h => h)).ext x6 (by omega)
  have x06 : Ext w w6 nob := ((((x1.seq x2).seq x3).seq x5)).new x6 (by omega)
  have hne : w.heap.size ≠ w1.heap.size ∧ w.heap.size ≠ w4.heap.size ∧ w1.heap.size ≠ w4.heap.size := by omega
  have hp12 : w.heap.size ≤ w1.heap.size ∧ w1.heap.size ≤ w4.heap.size := by omega
  obtain ⟨p1, hp1⟩ : ∃ p1, p1 = w.heap.size := ⟨_, rfl⟩
  generalize w1.heap.size = p2 at *
  generalize w4.heap.size = p6 at *
  rw [← hp1] at o1 ⊢
  obtain ⟨arr, ht, harr, hneg, hsp⟩ := spread_spec hm (-1)
  have hlay := spread_lay hm (-1)
  have hEs := Es_all log ps
  rw [spread_x0 hm 0 (-1)] at hEs
  rw [hsp] at hlay hEs
  generalize hN : 2 ^ log = N at *
  unfold ref07_Build_p66 ref07_Build_p65 ref07_Build_p64 ref07_Build_p63
  refine refInit_c (by omega) (by omega) o6 fun w7 b cc rest o67 ob hcc hb x7 => ?_
  have o17 := o1.ext x7 (by omega)
  have o27 := o2.ext x7 (by omega)
  have x07 : Ext w w7 nob := x06.trans x7 (fun y hy hh => by omega)
  unfold ref07_Build_p60 ref07_Build_p59
  simp (disch := omega) only [Stp, r_sub, w_i64, stepR_value]
  unfold ref07_Build_p58 ref07_Build_p57 ref07_Build_p56 ref07_Build_p55
  refine refTops_c hm hs x07 (by omega) hcc (by simp) (by omega) ht (by omega) (by omega) o17 o67 ob fun w8 ob8 x8 => ?_
  have x08 := x07.new x8 (by omega)
  have o18 := o17.ext x8 (by omega)
  have o28 := o27.ext x8 (by omega)
  have o68 := o67.ext x8 (by omega)
  unfold ref07_Build_p50 ref07_Build_p49 ref07_Build_p48 ref07_Build_p47 ref07_Build_p46 ref07_Build_p45
  refine refPlace_c hm hs x08 (by omega) (by omega) hcc harr rfl (by omega) (by omega) (by omega) o18 o68 ob8 fun w9 ob9 x9 => ?_
  have x09 := x08.new x9 (by omega)
  refine refFill_c hm hlay hN hs x09 hcc (by omega) (by omega) (o18.ext x9 (by omega)) (o28.ext x9 (by omega)) (o68.ext x9 (by omega)) ob9 fun w10 ob10 x10 => ?_
  rw [hEs] at ob10
  exact ⟨b, cc, rest, rfl, by omega, ob10, x10⟩
end Go.Proofs.Ytcbkdccobhkbpaa
/- The law FseBuilds: the program's table and the reference's are one. -/
namespace Go.Proofs.Ytcbkdccobhkbpaa
open Go Go.En Go.Pu
set_option maxRecDepth 4000
set_option linter.unusedSimpArgs false
set_option linter.unusedVariables false

theorem refBuild_bad {log : Int} {sv : Value} {ps : List Int} {w : World} (hm : mayB log ps = false) (hs : Sl w sv (ps.map (Value.int .i64))) (hl : ps.length ≤ 9223372036854775807) :
    Does pg F_ref07_Build #[.agg #[.int .i64 log, sv]] w (fun r w' => r = .tuple #[.agg #[.int .i64 0, .slice none 0 0], .int .i64 1] ∧ Ext w w' nob) := by
  refine ref07_Build_does ?_
  unfold ref07_Build ref07_Build_p68 ref07_Build_p67
  refine stp_box fun w1 o1 x1 s1 => ?_
  refine al_lightermanref07_T fun w2 o2 x2 s2 => ?_
  have o1 := o1.ext x2 (fun h => h)
  have l1 := lda_lightermanref06_C (off := 0) o1 (by simp [Value.cells])
  simp only [Value.cells, List.drop_zero, List.take_succ_cons, List.take_zero] at l1
  simp (disch := omega) only [Stp, l1, bd_lightermanref07_T_, stepR_value, fa_lightermanref06_C_Log, ld_int]
  refine (refCheck_c (most := 15) ((hs.ext x1 (inB_nob _)).ext x2 (inB_nob _)) (by omega)).mono ?_
  rintro r w3 ⟨rfl, x3⟩
  have hce : chkE log ps 15 = 1 := by unfold chkE; rw [hm]; rfl
  rw [hce]
  have e0 : ((1 : Int) != 0) = true := rfl
  simp (disch := omega) only [r_neq, e0, stepR_value, Cnd_true]
  refine sta_lightermanref07_T (o2.ext x3 (fun h => h)) rfl (by simp [one]) (by simp) fun w6 o6 x6 s6 => ?_
  refine ldr_lightermanref07_T o6 (by simp [setAll]) ⟨rfl, ?_⟩
  exact ((x1.seq x2).seq x3).new x6 (by omega)

theorem sameTable_nil (w : World) : Does pg F_law07_sameTable #[.agg #[.int .i64 0, .slice none 0 0], .agg #[.int .i64 0, .slice none 0 0]] w (fun r w' => r = .bool true ∧ Ext w w' nob) := by
  refine law07_sameTable_does ?_
  unfold law07_sameTable law07_sameTable_p9 law07_sameTable_p8
  refine stp_box fun w1 o1 x1 s1 => ?_
  refine stp_box fun w2 o2 x2 s2 => ?_
  have o1 := o1.ext x2 (fun h => h)
  have c10 := o1.cell (off := 0)
  have c11 := o1.cell (off := 1)
  have c20 := o2.cell (off := 0)
  have c21 := o2.cell (off := 1)
  simp only [Value.cells, List.getElem?_cons_zero, List.getElem?_cons_succ] at c10 c11 c20 c21
  have e1 : ((0 : Int) != 0) = false := rfl
  have e2 : (((0 : Nat) : Int) != ((0 : Nat) : Int)) = false := rfl
  simp (disch := omega) only [Stp, fa_fse_Table_Log, fa_lightermanref07_T_Log, fa_fse_Table_Entries, Nat.zero_add, stepR_value, fa_lightermanref07_T_L, ld_int, c10, ldC_some, c20, r_neq, e1, isB_ff, r_pick, Bool.false_eq_true, if_false, Gd_true, ld_sl_lightermanref07_E, ld_sl_fse_Entry, c11, ln_sl_fse_Entry, c21, ln_sl_lightermanref07_E, e2, Cnd_false]
  unfold law07_sameTable_p7 law07_sameTable_p6 law07_sameTable_p5 law07_sameTable_p4 law07_sameTable_p3
  refine LoopD.rule (fun m (t : Value) w' => m = 0 ∧ t = .int .i64 0 ∧ w' = w2) 0 ⟨rfl, rfl, rfl⟩ ?_
  rintro m t w3 ⟨rfl, rfl, rfl⟩
  unfold law07_sameTable_p2 law07_sameTable_p1
  have d1 : decide ((0 : Int) < ((0 : Nat) : Int)) = false := rfl
  simp (disch := omega) only [Stp, fa_lightermanref07_T_L, Nat.zero_add, fa_fse_Table_Entries, stepR_value, r_add, w_i64, true_and, ld_sl_lightermanref07_E, ld_sl_fse_Entry, c21, ldC_some, ln_sl_lightermanref07_E, r_lss, d1, Cnd_false]
  exact x1.seq x2

theorem sameTable_c {log b b2 cc : Nat} {L : List T3} {rest : List Value} {w : World} (hl : L.length ≤ 1000000) (hlog : log ≤ 1000) (hsy : ∀ e ∈ L, 0 ≤ e.1 ∧ e.1 < 256)
    (ob : Own w b (fe .u8 L)) (ob2 : Own w b2 (fe .i64 L ++ rest)) :
    Does pg F_law07_sameTable #[.agg #[.int .i64 log, .slice (some ⟨b, 0, none⟩) L.length L.length], .agg #[.int .i64 log, .slice (some ⟨b2, 0, none⟩) L.length cc]] w (fun r w' => r = .bool true ∧ Ext w w' nob) := by
  refine law07_sameTable_does ?_
  unfold law07_sameTable law07_sameTable_p9 law07_sameTable_p8
  refine stp_box fun w1 o1 x1 s1 => ?_
  refine stp_box fun w2 o2 x2 s2 => ?_
  have o1 := o1.ext x2 (fun h => h)
  have c10 := o1.cell (off := 0)
  have c11 := o1.cell (off := 1)
  have c20 := o2.cell (off := 0)
  have c21 := o2.cell (off := 1)
  simp only [Value.cells, List.getElem?_cons_zero, List.getElem?_cons_succ] at c10 c11 c20 c21
  have e1 : ((log : Int) != (log : Int)) = false := by simp
  have e2 : ((L.length : Int) != (L.length : Int)) = false := by simp
  simp (disch := omega) only [Stp, fa_fse_Table_Log, fa_lightermanref07_T_Log, fa_fse_Table_Entries, Nat.zero_add, stepR_value, fa_lightermanref07_T_L, ld_int, c10, ldC_some, c20, r_neq, e1, isB_ff, r_pick, Bool.false_eq_true, if_false, Gd_true, ld_sl_lightermanref07_E, ld_sl_fse_Entry, c11, ln_sl_fse_Entry, c21, ln_sl_lightermanref07_E, e2, Cnd_false]
  unfold law07_sameTable_p7 law07_sameTable_p6 law07_sameTable_p5 law07_sameTable_p4 law07_sameTable_p3
  have ob := (ob.ext x1 (fun h => h)).ext x2 (fun h => h)
  have ob2 := (ob2.ext x1 (fun h => h)).ext x2 (fun h => h)
  have x02 := x1.seq x2
  refine LoopD.rule (fun m t w' => ∃ i : Nat, m = L.length - i ∧ t = .int .i64 i ∧ i ≤ L.length ∧ Ext w2 w' nob) L.length ⟨0, rfl, rfl, by omega, Ext.refl _ _⟩ ?_
  rintro m t w3 ⟨i, rfl, rfl, hi, x3⟩
  have o13 := o1.ext x3 (fun h => h)
  have o23 := o2.ext x3 (fun h => h)
  have c11 := o13.cell (off := 1)
  have c21 := o23.cell (off := 1)
  simp only [Value.cells, List.getElem?_cons_zero, List.getElem?_cons_succ] at c11 c21
  unfold law07_sameTable_p2
  by_cases hlt : i < L.length
  · have d3 : decide ((i : Int) < (L.length : Int)) = true := by simp; omega
    have l1 := lda_fse_Entry (off := i * 3) (ob.ext x3 (fun h => h)) (by rw [fe_length]; omega)
    rw [fe_take hlt] at l1
    have hge : L[i]? = some L[i] := List.getElem?_eq_getElem hlt
    have hsy := hsy _ (List.getElem_mem hlt)
    obtain ⟨q1, q2, q3⟩ := fe_get' (k := .i64) hge
    have hq : i * 3 + 2 < (fe .i64 L).length := by rw [fe_length]; omega
    rw [← List.getElem?_append_left (l₂ := rest) (by omega)] at q1 q2 q3
    generalize L[i] = e at *
    obtain ⟨e1, e2, e3⟩ := e
    simp only at hsy l1 q1 q2 q3
    simp (disch := omega) only [Stp, fa_lightermanref07_T_L, Nat.zero_add, fa_fse_Table_Entries, stepR_value, r_add, w_i64, true_and, ld_sl_lightermanref07_E, ld_sl_fse_Entry, c21, ldC_some, ln_sl_lightermanref07_E, r_lss, d3, c11, ia_sl_fse_Entry, Int.toNat_natCast, l1, Cnd_true]
    refine al_fse_Entry fun w4 o4 x4 s4 => ?_
    refine sta_fse_Entry o4 rfl (by simp [one]) (by simp) fun w5 o5 x5 s5 => ?_
    simp only [setAll, List.set_cons_zero, List.set_cons_succ] at o5
    have x35 : Ext w2 w5 nob := (x3.seq x4).new x5 x3.size
    have k0 := o5.cell (off := 0)
    have k1 := o5.cell (off := 1)
    have k2 := o5.cell (off := 2)
    have od := own_dr o5
    have k0d := od.cell (off := 0)
    have k1d := od.cell (off := 1)
    have k2d := od.cell (off := 2)
    have o2d := own_dr (o2.ext x35 (fun h => h))
    have obd := own_dr (ob2.ext x35 (fun h => h))
    have c21' := (o2.ext x35 (fun h => h)).cell (off := 1)
    have c21d := o2d.cell (off := 1)
    have r1 := (ob2.ext x35 (fun h => h)).cell (off := i * 3)
    have r2 := (ob2.ext x35 (fun h => h)).cell (off := i * 3 + 1)
    have r3 := (ob2.ext x35 (fun h => h)).cell (off := i * 3 + 2)
    have r1d := obd.cell (off := i * 3)
    have r2d := obd.cell (off := i * 3 + 1)
    have r3d := obd.cell (off := i * 3 + 2)
    rw [q1] at r1 r1d
    rw [q2] at r2 r2d
    rw [q3] at r3 r3d
    simp only [Value.cells, List.getElem?_cons_zero, List.getElem?_cons_succ] at k0 k1 k2 k0d k1d k2d c21' c21d
    have hw : IntKind.i64.wrap e1 = e1 := w_i64 (by omega) (by omega)
    have f1 : (e1 != e1) = false := by simp
    have f2 : (e2 != e2) = false := by simp
    have f3 : (e3 != e3) = false := by simp
    simp (disch := omega) only [fa_fse_Entry_Symbol, c21d, ldC_some, fa_fse_Entry_Bits, Nat.zero_add, stepR_value, fa_fse_Entry_Base, ia_sl_lightermanref07_E, Int.toNat_natCast, fa_lightermanref07_E_Symbol, ld_int, r1d, true_and, ld_uint8, k0d, cv_uint8_int, hw, r_neq, f1, isB_ff, r_pick, Bool.false_eq_true, if_false, Gd_true, ld_sl_lightermanref07_E, fa_lightermanref07_E_Bits, r2d, k1d, f2, fa_lightermanref07_E_Base, r3d, k2d, f3, Cnd_false]
    exact ⟨L.length - (i + 1), by omega, i + 1, rfl, rfl, by omega, x35.seq (Ext.dr _ _)⟩
  · have d3 : decide ((i : Int) < (L.length : Int)) = false := by simp; omega
    unfold law07_sameTable_p1
    simp (disch := omega) only [Stp, fa_lightermanref07_T_L, Nat.zero_add, fa_fse_Table_Entries, stepR_value, r_add, w_i64, true_and, ld_sl_lightermanref07_E, ld_sl_fse_Entry, c21, ldC_some, ln_sl_lightermanref07_E, r_lss, d3, Cnd_false]
    exact x02.seq x3

theorem buildL_sy {log : Nat} {ps : List Int} (hm : May log ps) : ∀ e ∈ buildL log ps, 0 ≤ e.1 ∧ e.1 < 256 := by
  intro e he
  obtain ⟨i, hi, rfl⟩ := List.getElem_of_mem he
  have h2 : i < 2 ^ log := by rw [buildL_length] at hi; exact hi
  rw [buildL_fst log ps h2]
  obtain ⟨s, hs, e, _⟩ := kAt_bd hm (spread_lay hm 0) h2
  have := hm.len256
  rw [e]; omega

theorem fseBuilds_c {log : Int} {sv : Value} {ps : List Int} {w : World} (hs : Sl w sv (ps.map (Value.int .i64))) (hl : ps.length ≤ 9223372036854775807) :
    Does pg F_law07_FseBuilds #[.agg #[.int .i64 log, sv]] w (fun r w' => r = .bool true ∧ Ext w w' nob) := by
  refine law07_FseBuilds_does ?_
  unfold law07_FseBuilds law07_FseBuilds_p1
  obtain ⟨a, c, hv, hc⟩ := hs.lenI
  refine stp_box fun w1 o1 x1 s1 => ?_
  refine (awake7_c w1).mono ?_
  rintro r w2 ⟨rfl, x2⟩
  have o1 := o1.ext x2 (fun h => h)
  have x02 := x1.seq x2
  have hs2 := hs.ext x02 (inB_nob _)
  have c0 := o1.cell (off := 0)
  have c1 := o1.cell (off := 1)
  have l1 := lda_normal_Counts (off := 0) o1 (by simp [Value.cells])
  simp only [Value.cells, List.drop_zero, List.take_succ_cons, List.take_zero, List.getElem?_cons_zero, List.getElem?_cons_succ] at l1 c0 c1
  subst hv
  by_cases h1 : 300 < ps.length
  · have d1 : decide ((300 : Int) < (ps.length : Int)) = true := by simp; omega
    simp (disch := omega) only [Stp, r_not, Bool.not_true, fa_normal_Counts_Part, Nat.zero_add, fa_normal_Counts_Log, stepR_value, true_and, ld_sl_int, c1, ldC_some, ln_sl_int, r_gtr, d1, isB_tf, r_pick, if_true, Cnd_true, Gd_false, Cnd_false]
    exact x02
  have d1 : decide ((300 : Int) < (ps.length : Int)) = false := by simp; omega
  by_cases h2 : 10 < log ∧ log ≤ 15
  · have d2 : decide ((10 : Int) < log) = true := by simpa using h2.1
    have d3 : decide (log ≤ 15) = true := by simpa using h2.2
    simp (disch := omega) only [Stp, r_not, Bool.not_true, fa_normal_Counts_Part, Nat.zero_add, fa_normal_Counts_Log, stepR_value, true_and, ld_sl_int, c1, ldC_some, ln_sl_int, r_gtr, d1, isB_ff, r_pick, Bool.false_eq_true, if_false, Gd_true, ld_int, c0, d2, isB_tt, if_true, r_leq, d3, Cnd_true, Cnd_false]
    exact x02
  have hcase : decide ((10 : Int) < log) = false ∨ (decide ((10 : Int) < log) = true ∧ decide (log ≤ 15) = false) := by
    by_cases h : 10 < log
    · exact .inr ⟨by simpa using h, by simp; omega⟩
    · exact .inl (by simpa using h)
  cases hmay : mayB log ps with
  | false =>
    rcases hcase with d2 | ⟨d2, d3⟩
    case' inl => simp (disch := omega) only [Stp, r_not, Bool.not_true, fa_normal_Counts_Part, Nat.zero_add, fa_normal_Counts_Log, stepR_value, true_and, ld_sl_int, c1, ldC_some, ln_sl_int, r_gtr, d1, isB_ff, r_pick, Bool.false_eq_true, if_false, Gd_true, ld_int, c0, d2, isB_ft, Cnd_false, Gd_false, l1]
    case' inr => simp (disch := omega) only [Stp, r_not, Bool.not_true, fa_normal_Counts_Part, Nat.zero_add, fa_normal_Counts_Log, stepR_value, true_and, ld_sl_int, c1, ldC_some, ln_sl_int, r_gtr, d1, isB_ff, r_pick, Bool.false_eq_true, if_false, Gd_true, ld_int, c0, d2, isB_tt, if_true, r_leq, d3, l1, Cnd_false]
    all_goals
      refine (build_bad hmay hs2 hl).mono ?_
      rintro r w3 ⟨rfl, x3⟩
      simp (disch := omega) only [x20, x21, stepR_value]
      refine al_fse_Table fun w4 o4 x4 s4 => ?_
      refine sta_fse_Table o4 rfl (by simp [one]) (by simp) fun w5 o5 x5 s5 => ?_
      simp only [setAll, List.set_cons_zero, List.set_cons_succ] at o5
      have z1 := o1.lt
      have z3 := x3.size
      have z02 := x02.size
      have x05 : Ext w w5 nob := ((x02.seq x3).seq x4).new x5 (by omega)
      have o15 := (((o1.ext x3 (fun h => h)).ext x4 (fun h => h))).ext x5 (by omega)
      have l15 := lda_normal_Counts (off := 0) o15 (by simp [Value.cells])
      simp only [Value.cells, List.drop_zero, List.take_succ_cons, List.take_zero] at l15
      simp (disch := omega) only [l15, stepR_value]
      refine (model7_c (hs.ext x05 (inB_nob _))).mono ?_
      rintro r w6 ⟨rfl, x6⟩
      refine (refBuild_bad hmay ((hs.ext x05 (inB_nob _)).ext x6 (inB_nob _)) hl).mono ?_
      rintro r w7 ⟨rfl, x7⟩
      simp (disch := omega) only [x20, x21, stepR_value, r_eql, r_pick]
      refine al_lightermanref07_T fun w8 o8 x8 s8 => ?_
      refine sta_lightermanref07_T o8 rfl (by simp [one]) (by simp) fun w9 o9 x9 s9 => ?_
      simp only [setAll, List.set_cons_zero, List.set_cons_succ] at o9
      have z6 := x6.size
      have z7 := x7.size
      have z5 := x05.size
      have l5 := o5.lt
      have o59 := (((o5.ext x6 (fun h => h)).ext x7 (fun h => h)).ext x8 (fun h => h)).ext x9 (by omega)
      have l59 := lda_fse_Table (off := 0) o59 (by simp [Value.cells])
      have l9 := lda_lightermanref07_T (off := 0) o9 (by simp [Value.cells])
      simp only [Value.cells, List.drop_zero, List.take_succ_cons, List.take_zero] at l59 l9
      have e1 : ((1 : Int) == (1 : Int)) = true := rfl
      simp (disch := omega) only [e1, isB_tt, l59, stepR_value, if_true, Gd_true, l9]
      refine (sameTable_nil _).mono ?_
      rintro r w10 ⟨rfl, x10⟩
      simp (disch := omega) only [true_and]
      exact (((((x05.seq x6).seq x7).seq x8).new x9 (by omega))).seq x10
  | true =>
    obtain ⟨l, rfl, hm⟩ := may_of hmay
    rcases hcase with d2 | ⟨d2, d3⟩
    rotate_left
    · have := hm.log15
      simp at d3 d2
      omega
    · simp (disch := omega) only [Stp, r_not, Bool.not_true, fa_normal_Counts_Part, Nat.zero_add, fa_normal_Counts_Log, stepR_value, true_and, ld_sl_int, c1, ldC_some, ln_sl_int, r_gtr, d1, isB_ff, r_pick, Bool.false_eq_true, if_false, Gd_true, ld_int, c0, d2, isB_ft, Cnd_false, Gd_false, l1]
      refine (build_c hm hs2).mono ?_
      rintro r w3 ⟨b, v, rfl, ⟨rfl, hb, ob⟩, x3⟩
      simp (disch := omega) only [x20, x21, stepR_value]
      refine al_fse_Table fun w4 o4 x4 s4 => ?_
      refine sta_fse_Table o4 rfl (by simp [one]) (by simp) fun w5 o5 x5 s5 => ?_
      simp only [setAll, List.set_cons_zero, List.set_cons_succ] at o5
      have z1 := o1.lt
      have z3 := x3.size
      have z4 := x4.size
      have z02 := x02.size
      have lb := ob.lt
      have x05 : Ext w w5 nob := ((x02.seq x3).seq x4).new x5 (by omega)
      have o15 := (((o1.ext x3 (fun h => h)).ext x4 (fun h => h))).ext x5 (by omega)
      have ob5 := (ob.ext x4 (fun h => h)).ext x5 (by omega)
      have l15 := lda_normal_Counts (off := 0) o15 (by simp [Value.cells])
      simp only [Value.cells, List.drop_zero, List.take_succ_cons, List.take_zero] at l15
      simp (disch := omega) only [l15, stepR_value]
      refine (model7_c (hs.ext x05 (inB_nob _))).mono ?_
      rintro r w6 ⟨rfl, x6⟩
      refine (refBuild_c hm ((hs.ext x05 (inB_nob _)).ext x6 (inB_nob _))).mono ?_
      rintro r w7 ⟨b2, cc, rest, rfl, hb2, ob2, x7⟩
      simp (disch := omega) only [x20, x21, stepR_value, r_eql, r_pick]
      refine al_lightermanref07_T fun w8 o8 x8 s8 => ?_
      refine sta_lightermanref07_T o8 rfl (by simp [one]) (by simp) fun w9 o9 x9 s9 => ?_
      simp only [setAll, List.set_cons_zero, List.set_cons_succ] at o9
      have z6 := x6.size
      have z7 := x7.size
      have z8 := x8.size
      have z5 := x05.size
      have l5 := o5.lt
      have lb2 := ob2.lt
      have lb5 := ob5.lt
      have o59 := (((o5.ext x6 (fun h => h)).ext x7 (fun h => h)).ext x8 (fun h => h)).ext x9 (by omega)
      have ob9 := (((ob5.ext x6 (fun h => h)).ext x7 (fun h => h)).ext x8 (fun h => h)).ext x9 (by omega)
      have ob29 := (ob2.ext x8 (fun h => h)).ext x9 (by omega)
      have l59 := lda_fse_Table (off := 0) o59 (by simp [Value.cells])
      have l9 := lda_lightermanref07_T (off := 0) o9 (by simp [Value.cells])
      simp only [Value.cells, List.drop_zero, List.take_succ_cons, List.take_zero] at l59 l9
      have e1 : ((0 : Int) == (0 : Int)) = true := rfl
      simp (disch := omega) only [e1, isB_tt, l59, stepR_value, if_true, Gd_true, l9]
      have hlen : 2 ^ l = (buildL l ps).length := (buildL_length l ps).symm
      have hN2 : 2 ^ l ≤ 2 ^ 15 := Nat.pow_le_pow_right (by omega) hm.log15
      rw [hlen]
      refine (sameTable_c (by rw [← hlen]; omega) (by have := hm.log15; omega) (buildL_sy hm) ob9 ob29).mono ?_
      rintro r w10 ⟨rfl, x10⟩
      simp (disch := omega) only [true_and]
      exact (((((x05.seq x6).seq x7).seq x8).new x9 (by omega))).seq x10
end Go.Proofs.Ytcbkdccobhkbpaa
