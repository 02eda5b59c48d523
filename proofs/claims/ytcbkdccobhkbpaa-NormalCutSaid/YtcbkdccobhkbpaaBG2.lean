/- Contract: the law FseParts. -/
import Derived.Test.YtcbkdccobhkbpaaBF1
import Derived.Test.YtcbkdccobhkbpaaPuF
namespace Go.Proofs.Ytcbkdccobhkbpaa
open Go Go.En Go.Pu
set_option maxRecDepth 4000
set_option linter.unusedSimpArgs false
set_option linter.unusedVariables false

/-- how often each symbol stands among the first i states -/
def cn (S : List Int) (i : Nat) : List Int := (List.range 256).map fun (s : Nat) => (((S.take i).count (s : Int) : Nat) : Int)
theorem cn_length (S : List Int) (i : Nat) : (cn S i).length = 256 := by simp [cn]
theorem cn_zero (S : List Int) : cn S 0 = List.replicate 256 0 := by
  unfold cn
  apply List.ext_getElem
  · simp
  · intro i h1 h2
    simp only [List.getElem_map, List.getElem_range, List.take_zero, List.count_nil, List.getElem_replicate]; rfl
theorem cn_get {S : List Int} {i s : Nat} (h : s < 256) : (cn S i)[s]'(by rw [cn_length]; exact h) = (((S.take i).count (s : Int) : Nat) : Int) := by simp [cn]
theorem cn_set {S : List Int} {i s : Nat} (hi : i < S.length) (hs : s < 256) (e : S[i] = (s : Int)) : (cn S i).set s ((((S.take i).count (s : Int) : Nat) : Int) + 1) = cn S (i + 1) := by
  apply List.ext_getElem
  · simp [cn]
  · intro j h1 h2
    have hj : j < 256 := by simpa [cn] using h2
    rw [List.getElem_set, cn_get hj, cn_get hj, List.take_add_one, List.getElem?_eq_getElem hi, List.count_append]
    simp only [Option.toList, e, List.count_singleton]
    by_cases hij : s = j
    · subst hij; simp
    · have : ((s : Int) == (j : Int)) = false := by simp; omega
      rw [if_neg hij, this]; simp

/-- what a rare symbol's state tells -/
theorem rare_ent {log : Nat} {ps : List Int} (hm : May log ps) {s : Nat} (hs : s < ps.length) (hp : ps[s] = -1) : ∃ h : 2 ^ log - 1 - (ps.take s).count (-1) < (buildL log ps).length,
    (ps.take s).count (-1) + 1 ≤ 2 ^ log ∧ (buildL log ps)[2 ^ log - 1 - (ps.take s).count (-1)]'h = ((s : Int), (log : Int), 0) := by
  have L := spread_lay hm 0
  have ht := L.top s hs hp
  obtain ⟨T, hT⟩ : ∃ T, T = 2 ^ log - 1 - (ps.take s).count (-1) := ⟨_, rfl⟩
  rw [← hT] at ht ⊢
  have hTl : T < 2 ^ log := by
    rcases Nat.lt_or_ge T (spreadL 0 log ps).length with h | h
    · rw [← L.len]; exact h
    · rw [List.getElem?_eq_none h] at ht; cases ht
  have hg : (spreadL 0 log ps).getD T 0 = (s : Int) := by rw [List.getD_eq_getElem?_getD, ht]; rfl
  have hTS : T < (spreadL 0 log ps).length := by rw [L.len]; exact hTl
  have hSe : (spreadL 0 log ps)[T] = (s : Int) := by rw [List.getElem?_eq_getElem hTS] at ht; exact Option.some.inj ht
  have hc := count_take_lt hTS
  rw [hSe, L.cnt s hs, hp] at hc
  have e1 : (partsI (-1)).toNat = 1 := rfl
  have hk : kAt ps (spreadL 0 log ps) T = 1 := by
    unfold kAt
    rw [hg, Int.toNat_natCast, List.getD_eq_getElem?_getD, List.getElem?_eq_getElem hs]
    simp only [Option.getD_some]
    rw [hp, e1]; omega
  refine ⟨by rw [buildL_length]; exact hTl, ?_, ?_⟩
  · have : (ps.take s).count (-1) < (negs ps 0).length := by
      have h1 := negs_at ps 0 s hs hp
      rcases Nat.lt_or_ge ((ps.take s).count (-1)) (negs ps 0).length with h | h
      · exact h
      · rw [List.getElem?_eq_none h] at h1; cases h1
    have hrl := reps_len ps 0 hm.low
    rw [hm.sum] at hrl
    have hpow : ((2 ^ log : Nat) : Int) = (2 : Int) ^ log := by simp
    omega
  · unfold buildL
    simp only [List.getElem_map, List.getElem_range]
    unfold entAt entOf
    rw [hg, hk]
    have : bl 1 = 1 := by decide
    rw [this]
    simp

theorem fe_get' {k : IntKind} {L : List T3} {i : Nat} {e : T3} (h : L[i]? = some e) : (fe k L)[i * 3]? = some (.int k e.1) ∧ (fe k L)[i * 3 + 1]? = some (.int .i64 e.2.1) ∧ (fe k L)[i * 3 + 2]? = some (.int .i64 e.2.2) := by
  have hi : i < L.length := by
    rcases Nat.lt_or_ge i L.length with h' | h'
    · exact h'
    · rw [List.getElem?_eq_none h'] at h; cases h
  rw [List.getElem?_eq_getElem hi] at h
  have := fe_get k L i hi
  rw [Option.some.inj h] at this
  exact this

theorem parts_all {log : Nat} {ps : List Int} {w0 w : World} {p1 p4 nb b : Nat} {sv : Value} (hm : May log ps) (hl10 : log ≤ 10) (hs : Sl w0 sv (ps.map (Value.int .i64)))
    (o1 : Own w p1 [.int .i64 log, sv]) (o4 : Own w p4 [.int .i64 log, .slice (some ⟨b, 0, none⟩) (2 ^ log) (2 ^ log)]) (ob : Own w b (fe .u8 (buildL log ps))) (on : Own w nb (List.replicate 256 (.int .i64 0)))
    (hne : p1 ≠ nb ∧ p4 ≠ nb ∧ b ≠ nb) (hlo : w0.heap.size ≤ nb) (hx : Ext w0 w nob) :
    law07_FseParts_p22 (fun r w' => r = .bool true ∧ Ext w0 w' nob) (.pointer (some ⟨p1, 0, none⟩)) (.pointer (some ⟨p4, 0, none⟩)) (.pointer (some ⟨nb, 0, none⟩)) w := by
  have L := spread_lay hm 0
  have hlen := hm.len256
  have hN2 : 2 ^ log ≤ 2 ^ 10 := Nat.pow_le_pow_right (by omega) hl10
  have hbl := buildL_length log ps
  have hfst : ∀ i, i < 2 ^ log → ∃ e, (buildL log ps)[i]? = some e ∧ e.1 = (spreadL 0 log ps).getD i 0 := fun i h => ⟨_, List.getElem?_eq_getElem (by rw [buildL_length]; exact h), buildL_fst log ps h⟩
  have hent : ∀ (s : Nat) (hs : s < ps.length), ps[s] = -1 → (buildL log ps)[2 ^ log - 1 - (ps.take s).count (-1)]? = some ((s : Int), (log : Int), 0) ∧ (ps.take s).count (-1) + 1 ≤ 2 ^ log := fun s hs hp => by
    obtain ⟨h1, h2, h3⟩ := rare_ent hm (s := s) hs hp
    exact ⟨by rw [List.getElem?_eq_getElem h1, h3], h2⟩
  generalize hB : buildL log ps = BL at *
  generalize hS : spreadL 0 log ps = S at *
  have hSl := L.len
  generalize hN : 2 ^ log = N at *
  unfold law07_FseParts_p22 law07_FseParts_p21 law07_FseParts_p20 law07_FseParts_p19 law07_FseParts_p18
  have on : Own w nb ((cn S 0).map (Value.int .i64)) := by rw [cn_zero, List.map_replicate]; exact on
  refine LoopD.rule (fun m t w' => ∃ i : Nat, m = N - i ∧ t = .int .i64 i ∧ i ≤ N ∧ Own w' nb ((cn S i).map (Value.int .i64)) ∧ Ext w w' (fun y => y = nb)) N ⟨0, rfl, rfl, by omega, on, Ext.refl _ _⟩ ?_
  rintro m t w1 ⟨i, rfl, rfl, hi, on1, x1⟩
  have o41 := o4.ext x1 hne.2.1
  have ob1 := ob.ext x1 hne.2.2
  have c4 := o41.cell (off := 1)
  have c40 := o41.cell (off := 0)
  simp only [List.getElem?_cons_zero, List.getElem?_cons_succ] at c4 c40
  unfold law07_FseParts_p17
  by_cases hlt : i < N
  · have d1 : decide ((i : Int) < (N : Int)) = true := by simp only [decide_eq_true_eq]; omega
    have hiS : i < S.length := by omega
    obtain ⟨s, hsl, hse⟩ := L.rng _ (List.getElem_mem hiS)
    have hgd : S.getD i 0 = (s : Int) := by rw [List.getD_eq_getElem?_getD, List.getElem?_eq_getElem hiS, hse]; rfl
    obtain ⟨e0, he0, he1⟩ := hfst i hlt
    have g0 := ob1.cell (off := i * 3)
    rw [(fe_get' he0).1, he1, hgd] at g0
    have gn := on1.cell (off := s)
    rw [List.getElem?_map, List.getElem?_eq_getElem (by rw [cn_length]; omega), cn_get (by omega)] at gn
    simp only [Option.map_some] at gn
    have hcs := cn_set (S := S) (i := i) (s := s) hiS (by omega) hse
    have hcl : (S.take i).count (s : Int) ≤ i := by
      have := List.count_le_length (a := (s : Int)) (l := S.take i)
      rw [List.length_take] at this; omega
    simp (disch := omega) only [Stp, fa_fse_Table_Entries, Nat.zero_add, r_add, w_i64, stepR_value, ld_sl_fse_Entry, c4, ldC_some, ln_sl_fse_Entry, r_lss, d1, ia_sl_fse_Entry, Int.toNat_natCast, fa_fse_Entry_Symbol, ld_uint8, g0, ia_ar256_int, ld_int, gn, Cnd_true]
    refine st_int on1 rfl (by rw [List.length_map, cn_length]; omega) fun w2 on2 x2 s2 => ?_
    rw [← List.map_set, hcs] at on2
    exact ⟨N - (i + 1), by omega, i + 1, rfl, rfl, by omega, on2, x1.trans x2 (fun _ _ h => h)⟩
  · have d1 : decide ((i : Int) < (N : Int)) = false := by simp only [decide_eq_false_iff_not]; omega
    have : i = N := by omega
    subst this
    have hcn : ∀ s (h : s < ps.length), ((cn S i).map (Value.int .i64))[s]? = some (.int .i64 (partsI ps[s])) := fun s h => by
      rw [List.getElem?_map, List.getElem?_eq_getElem (by rw [cn_length]; omega), cn_get (by omega), List.take_of_length_le (by omega), L.cnt s h]
      have := partsI_nonneg (hm.low _ (List.getElem_mem h))
      simp; omega
    have x01 : Ext w0 w1 nob := hx.new x1 hlo
    have o11 := o1.ext x1 hne.1
    obtain ⟨a, c, rfl, hc⟩ := hs.lenI
    have c11 := o11.cell (off := 1)
    simp only [List.getElem?_cons_zero, List.getElem?_cons_succ] at c11
    unfold law07_FseParts_p16 law07_FseParts_p15 law07_FseParts_p14 law07_FseParts_p13 law07_FseParts_p12 law07_FseParts_p11 law07_FseParts_p10
    simp (disch := omega) only [Stp, fa_fse_Table_Entries, Nat.zero_add, r_add, w_i64, stepR_value, ld_sl_fse_Entry, c4, ldC_some, ln_sl_fse_Entry, r_lss, d1, r_sub, Cnd_false]
    refine LoopD.rule (fun m t w' => ∃ s : Nat, m = ps.length - s ∧ t = (.int .i64 ((i : Int) - 1 - ((ps.take s).count (-1) : Nat)), .int .i64 s) ∧ s ≤ ps.length ∧ Ext w1 w' nob) ps.length
      ⟨0, rfl, by simp, by omega, Ext.refl _ _⟩ ?_
    rintro m t w2 ⟨s, rfl, rfl, hsi, x2⟩
    have c12 := (o11.ext x2 (fun h => h)).cell (off := 1)
    have on2 := on1.ext x2 (fun h => h)
    simp only [List.getElem?_cons_zero, List.getElem?_cons_succ] at c12
    unfold law07_FseParts_p9 law07_FseParts_p8 law07_FseParts_p7 law07_FseParts_p6 law07_FseParts_p5 law07_FseParts_p4
    by_cases hlt : s < ps.length
    · have d2 : decide ((s : Int) < (ps.length : Int)) = true := by simp; omega
      obtain ⟨b', off', c', e, _, hcell⟩ := ((hs.ext x01 (inB_nob _)).ext x2 (inB_nob _)).openI (by omega)
      cases e
      have g1 := hcell s hlt
      have hlow := hm.low _ (List.getElem_mem hlt)
      have hcnt : (ps.take (s + 1)).count (-1) = (ps.take s).count (-1) + (if ps[s] = -1 then 1 else 0) := by
        rw [List.take_add_one, List.getElem?_eq_getElem hlt, List.count_append]
        simp only [Option.toList, List.count_singleton]
        by_cases h : ps[s] = -1
        · rw [if_pos h]; simp [h]
        · rw [if_neg h]; simp [h]
      have gn := on2.cell (off := s)
      rw [hcn s hlt] at gn
      by_cases hp : ps[s] < 0
      · have hp1 : ps[s] = -1 := by omega
        have d3 : decide (ps[s] < 0) = true := by simpa using hp
        obtain ⟨hTe, hT1⟩ := hent s hlt hp1
        rw [if_pos hp1] at hcnt
        obtain ⟨T, hTd⟩ : ∃ T, T = i - 1 - (ps.take s).count (-1) := ⟨_, rfl⟩
        have eT : (i : Int) - 1 - (((ps.take s).count (-1) : Nat) : Int) = (T : Int) := by omega
        rw [← hTd] at hTe
        have ob2 := own_dr (ob1.ext x2 (fun h => h))
        have o42 := own_dr (o41.ext x2 (fun h => h))
        have f0 := ob2.cell (off := T * 3)
        have f1 := ob2.cell (off := T * 3 + 1)
        have f2 := ob2.cell (off := T * 3 + 2)
        have c42 := o42.cell (off := 1)
        have c420 := o42.cell (off := 0)
        obtain ⟨q0, q1, q2⟩ := fe_get' (k := .u8) hTe
        rw [q0] at f0
        rw [q1] at f1
        rw [q2] at f2
        simp only [List.getElem?_cons_zero, List.getElem?_cons_succ] at f0 f1 f2 c42 c420
        have gn' : (dr w2).cell? ⟨nb, s, none⟩ = some (.int .i64 (partsI ps[s])) := gn
        have ep : partsI ps[s] = 1 := by rw [hp1]; rfl
        rw [ep] at gn'
        have n1 : ((s : Int) != (s : Int)) = false := by simp
        have n2 : ((log : Int) != (log : Int)) = false := by simp
        have n3 : ((0 : Int) != 0) = false := rfl
        have n4 : ((1 : Int) != 1) = false := rfl
        rw [eT]
        simp (disch := omega) only [Stp, fa_normal_Counts_Part, Nat.zero_add, fa_fse_Table_Entries, stepR_value, fa_fse_Table_Log, r_sub, w_i64, true_and, ld_sl_fse_Entry, ld_sl_int, c12, ldC_some, ln_sl_int, r_lss, d2, ia_sl_int, Int.toNat_natCast, ld_int, g1, d3, c42, ia_sl_fse_Entry, fa_fse_Entry_Symbol, ld_uint8, f0, cv_uint8_int, r_neq, n1, isB_ff, r_pick, Bool.false_eq_true, if_false, Gd_true, c420, fa_fse_Entry_Bits, f1, n2, fa_fse_Entry_Base, f2, n3, Cnd_false, Cnd_true]
        unfold law07_FseParts_p3 law07_FseParts_p2
        simp (disch := omega) only [Stp, ia_ar256_int, Int.toNat_natCast, Nat.zero_add, r_add, w_i64, stepR_value, ld_int, gn', ldC_some, r_neq, n4, Cnd_false]
        exact ⟨ps.length - (s + 1), by omega, s + 1, rfl, by rw [hcnt]; congr 2; omega, by omega, x2.seq (Ext.dr _ _)⟩
      · have d3 : decide (ps[s] < 0) = false := by simpa using hp
        have ep : partsI ps[s] = ps[s] := by unfold partsI; rw [if_neg hp]
        rw [ep] at gn
        have n1 : (ps[s] != ps[s]) = false := by simp
        rw [if_neg (by omega)] at hcnt
        simp (disch := omega) only [Stp, fa_normal_Counts_Part, Nat.zero_add, fa_fse_Table_Entries, stepR_value, fa_fse_Table_Log, r_sub, true_and, ld_sl_fse_Entry, ld_sl_int, c12, ldC_some, ln_sl_int, r_lss, d2, ia_sl_int, Int.toNat_natCast, ld_int, g1, d3, Cnd_false, Cnd_true]
        unfold law07_FseParts_p3 law07_FseParts_p2
        simp (disch := omega) only [Stp, ia_ar256_int, Int.toNat_natCast, Nat.zero_add, r_add, w_i64, stepR_value, ld_int, gn, ldC_some, r_neq, n1, Cnd_false]
        exact ⟨ps.length - (s + 1), by omega, s + 1, rfl, by rw [hcnt]; rfl, by omega, x2⟩
    · have d2 : decide ((s : Int) < (ps.length : Int)) = false := by simp; omega
      unfold law07_FseParts_p1
      simp (disch := omega) only [Stp, fa_normal_Counts_Part, Nat.zero_add, fa_fse_Table_Entries, stepR_value, fa_fse_Table_Log, r_sub, true_and, ld_sl_fse_Entry, ld_sl_int, c12, ldC_some, ln_sl_int, r_lss, d2, Cnd_false]
      exact x01.seq x2

theorem fseParts_c {log : Int} {sv : Value} {ps : List Int} {w : World} (hs : Sl w sv (ps.map (Value.int .i64))) (hl : ps.length ≤ 9223372036854775807) :
    Does pg F_law07_FseParts #[.agg #[.int .i64 log, sv]] w (fun r w' => r = .bool true ∧ Ext w w' nob) := by
  refine law07_FseParts_does ?_
  unfold law07_FseParts law07_FseParts_p24 law07_FseParts_p23
  obtain ⟨a, c, hv, hc⟩ := hs.lenI
  refine stp_box fun w1 o1 x1 s1 => ?_
  refine (awake7_c w1).mono ?_
  rintro r w2 ⟨rfl, x2⟩
  have o1 := o1.ext x2 (fun h => h)
  have x02 := x1.seq x2
  have hs2 := hs.ext x02 (inB_nob _)
  have c0 := o1.cell (off := 0)
  have c1 := o1.cell (off := 1)
  have l1 := lda_normal_Counts (off := 0) o1 (by simp [Value.cells])
  simp only [Value.cells, List.drop_zero, List.take_succ_cons, List.take_zero, List.getElem?_cons_zero, List.getElem?_cons_succ] at l1 c0 c1
  subst hv
  by_cases h1 : 300 < ps.length
  · have d1 : decide ((300 : Int) < (ps.length : Int)) = true := by simp; omega
    simp (disch := omega) only [Stp, r_not, Bool.not_true, fa_normal_Counts_Part, Nat.zero_add, fa_normal_Counts_Log, stepR_value, true_and, ld_sl_int, c1, ldC_some, ln_sl_int, r_gtr, d1, isB_tf, r_pick, if_true, Cnd_true, Gd_false, Cnd_false]
    exact x02
  have d1 : decide ((300 : Int) < (ps.length : Int)) = false := by simp; omega
  by_cases h2 : 10 < log
  · have d2 : decide ((10 : Int) < log) = true := by simpa using h2
    simp (disch := omega) only [Stp, r_not, Bool.not_true, fa_normal_Counts_Part, Nat.zero_add, fa_normal_Counts_Log, stepR_value, true_and, ld_sl_int, c1, ldC_some, ln_sl_int, r_gtr, d1, isB_ff, r_pick, Bool.false_eq_true, if_false, Gd_true, ld_int, c0, d2, Cnd_true, Cnd_false]
    exact x02
  have d2 : decide ((10 : Int) < log) = false := by simpa using h2
  cases hmay : mayB log ps with
  | false =>
    simp (disch := omega) only [Stp, r_not, Bool.not_true, fa_normal_Counts_Part, Nat.zero_add, fa_normal_Counts_Log, stepR_value, true_and, ld_sl_int, c1, ldC_some, ln_sl_int, r_gtr, d1, isB_ff, r_pick, Bool.false_eq_true, if_false, Gd_true, ld_int, c0, d2, l1, Cnd_false]
    refine (build_bad hmay hs2 hl).mono ?_
    rintro r w3 ⟨rfl, x3⟩
    have e1 : ((1 : Int) != 0) = true := rfl
    have e2 : (((0 : Nat) : Int) == 0) = true := rfl
    simp (disch := omega) only [x20, x21, stepR_value, r_neq]
    refine al_fse_Table fun w4 o4 x4 s4 => ?_
    refine sta_fse_Table o4 rfl (by simp [one]) (by simp) fun w5 o5 x5 s5 => ?_
    simp only [setAll, List.set_cons_zero, List.set_cons_succ] at o5
    have c5 := o5.cell (off := 1)
    simp only [List.getElem?_cons_zero, List.getElem?_cons_succ] at c5
    simp (disch := omega) only [e1, fa_fse_Table_Entries, Nat.zero_add, stepR_value, ld_sl_fse_Entry, c5, ldC_some, ln_sl_fse_Entry, r_eql, e2, true_and, Cnd_true]
    have := x02.size
    have := x3.size
    exact ((x02.seq x3).seq x4).new x5 (by omega)
  | true =>
    obtain ⟨l, rfl, hm⟩ := may_of hmay
    simp (disch := omega) only [Stp, r_not, Bool.not_true, fa_normal_Counts_Part, Nat.zero_add, fa_normal_Counts_Log, stepR_value, true_and, ld_sl_int, c1, ldC_some, ln_sl_int, r_gtr, d1, isB_ff, r_pick, Bool.false_eq_true, if_false, Gd_true, ld_int, c0, d2, l1, Cnd_false]
    refine (build_c hm hs2).mono ?_
    rintro r w3 ⟨b, v, rfl, ⟨rfl, hb, ob⟩, x3⟩
    have e1 : ((0 : Int) != 0) = false := rfl
    simp (disch := omega) only [x20, x21, stepR_value, r_neq]
    refine al_fse_Table fun w4 o4 x4 s4 => ?_
    refine sta_fse_Table o4 rfl (by simp [one]) (by simp) fun w5 o5 x5 s5 => ?_
    simp only [setAll, List.set_cons_zero, List.set_cons_succ] at o5
    rw [buildL_length] at o5
    simp (disch := omega) only [e1, fa_fse_Table_Entries, Nat.zero_add, stepR_value, ld_sl_fse_Entry, Cnd_false]
    refine al_ar256_int fun w6 o6 x6 s6 => ?_
    obtain ⟨cs, hcs, o6⟩ : ∃ cs, cs = List.replicate 256 (Value.int .i64 0) ∧ Own w6 w5.heap.size cs := ⟨_, by kernel_rfl, o6⟩
    rw [hcs] at o6
    have lb := ob.lt
    have l1 := o1.lt
    have g3 := x3.size
    have g2 := x02.size
    refine parts_all hm (by omega) hs (((o1.ext x3 (fun h => h)).ext x4 (fun h => h)).ext x5 (by omega) |>.ext x6 (fun h => h)) (o5.ext x6 (fun h => h)) (((ob.ext x4 (fun h => h)).ext x5 (by omega)).ext x6 (fun h => h)) o6 (by omega) (by omega) ?_
    exact (((x02.seq x3).seq x4).new x5 (by omega)).seq x6
end Go.Proofs.Ytcbkdccobhkbpaa
/- Contracts: the state that one follows; the law FseBefore. -/
namespace Go.Proofs.Ytcbkdccobhkbpaa
open Go Go.En Go.Pu
set_option maxRecDepth 4000
set_option linter.unusedSimpArgs false
set_option linter.unusedVariables false

/-- a table whose bits are few -/
def Low (L : List T3) : Prop := ∀ e ∈ L, ∃ n : Nat, e.2.1 = (n : Int) ∧ n ≤ 20 ∧ 0 ≤ e.2.2 ∧ e.2.2 ≤ 100000

theorem shl1 {n : Nat} (h : n ≤ 20) : IntKind.i64.wrap (1 * 2 ^ (min n IntKind.i64.bits)) = ((2 ^ n : Nat) : Int) := by
  have : ∀ k : Fin 21, IntKind.i64.wrap (1 * 2 ^ (min k.val IntKind.i64.bits)) = ((2 ^ k.val : Nat) : Int) := by decide
  exact this ⟨n, by omega⟩
theorem shl1u {n : Nat} (h : n ≤ 20) : IntKind.u64.wrap (1 * 2 ^ (min n IntKind.u64.bits)) = ((2 ^ n : Nat) : Int) := by
  have : ∀ k : Fin 21, IntKind.u64.wrap (1 * 2 ^ (min k.val IntKind.u64.bits)) = ((2 ^ k.val : Nat) : Int) := by decide
  exact this ⟨n, by omega⟩

/-- what Before tells -/
def BeforeOf (L : List T3) (s sy : Int) (r : Value) : Prop :=
  (∃ (i : Nat) (e : T3), L[i]? = some e ∧ inE sy s e = true ∧ r = .tuple #[.int .i64 (i : Nat), .int .u64 (s - e.2.2), .int .i64 e.2.1, .int .i64 0]) ∨
  ((∀ (i : Nat) (e : T3), L[i]? = some e → inE sy s e = false) ∧ r = .tuple #[.int .i64 0, .int .u64 0, .int .i64 0, .int .i64 21])

theorem before_c {w : World} {base b log : Nat} {L : List T3} {v : Value} (h : Tbl w base b log L v) (hL : Low L) (hl : L.length ≤ 1000000) (s : Nat) (hs : s < L.length) (sy : Int) :
    Does pg F_fse_Before #[v, .int .i64 s, .int .u8 sy] w (fun r w' => BeforeOf L s sy r ∧ Ext w w' nob) := by
  refine fse_Before_does ?_
  obtain ⟨rfl, hb, ob⟩ := h
  unfold fse_Before fse_Before_p9 fse_Before_p8
  refine stp_box fun w1 o1 x1 s1 => ?_
  have c1 := o1.cell (off := 1)
  simp only [Value.cells, List.getElem?_cons_zero, List.getElem?_cons_succ] at c1
  have d1 : decide ((s : Int) < 0) = false := by simp
  have d2 : decide ((L.length : Int) ≤ (s : Int)) = false := by simp; omega
  simp (disch := omega) only [Stp, r_lss, d1, fa_fse_Table_Entries, Nat.zero_add, stepR_value, isB_ff, r_pick, Bool.false_eq_true, if_false, Gd_true, ld_sl_fse_Entry, c1, ldC_some, ln_sl_fse_Entry, r_geq, d2, Cnd_false]
  unfold fse_Before_p7 fse_Before_p6 fse_Before_p5 fse_Before_p4 fse_Before_p3
  simp (disch := omega) only [Stp, fa_fse_Table_Entries, Nat.zero_add, stepR_value, ld_sl_fse_Entry, c1, ldC_some, ln_sl_fse_Entry]
  refine LoopD.rule (fun m t w' => ∃ i : Nat, m = L.length - i ∧ t = .int .i64 i ∧ i ≤ L.length ∧ (∀ (j : Nat) (e : T3), j < i → L[j]? = some e → inE sy s e = false) ∧ Ext w w' nob) L.length ⟨0, rfl, rfl, by omega, fun j e hj => by omega, x1⟩ ?_
  rintro m t w2 ⟨i, rfl, rfl, hi, hno, x2⟩
  unfold fse_Before_p2
  by_cases hlt : i < L.length
  · have d3 : decide ((i : Int) < (L.length : Int)) = true := by simp; omega
    have l1 := lda_fse_Entry (off := i * 3) (ob.ext x2 (fun h => h)) (by rw [fe_length]; omega)
    rw [fe_take hlt] at l1
    obtain ⟨n, hn, hn2, hb0, hb1⟩ := hL _ (List.getElem_mem hlt)
    have hge : L[i]? = some L[i] := List.getElem?_eq_getElem hlt
    have hinE : inE sy s L[i] = decide (L[i].1 = sy ∧ L[i].2.2 ≤ s ∧ (s : Int) < L[i].2.2 + ((2 ^ n : Nat) : Int)) := by
      unfold inE; rw [hn]; simp
    generalize L[i] = e at *
    obtain ⟨e1, e2, e3⟩ := e
    simp only at hn hb0 hb1 l1 hinE
    subst hn
    simp (disch := omega) only [Stp, r_lss, d3, ia_sl_fse_Entry, Int.toNat_natCast, Nat.zero_add, true_and, r_add, w_i64, stepR_value, l1, Cnd_true]
    refine al_fse_Entry fun w3 o3 x3 s3 => ?_
    refine sta_fse_Entry o3 rfl (by simp [one]) (by simp) fun w4 o4 x4 s4 => ?_
    simp only [setAll, List.set_cons_zero, List.set_cons_succ] at o4
    have k0 := o4.cell (off := 0)
    have k1 := o4.cell (off := 1)
    have k2 := o4.cell (off := 2)
    simp only [List.getElem?_cons_zero, List.getElem?_cons_succ] at k0 k1 k2
    have x5 : Ext w w4 nob := (x2.seq x3).new x4 x2.size
    have hsh := shl1 hn2
    have od := own_dr o4
    have k1d := od.cell (off := 1)
    simp only [List.getElem?_cons_zero, List.getElem?_cons_succ] at k1d
    have no : ∀ {b : Bool}, inE sy s (e1, (n : Int), e3) = b → b = false → ∀ (j : Nat) (e : T3), j < i + 1 → L[j]? = some e → inE sy s e = false := fun h1 h2 j e hj he => by
      by_cases hji : j = i
      · subst hji; rw [hge] at he; rw [← Option.some.inj he, h1, h2]
      · exact hno j e (by omega) he
    by_cases he : e1 = sy
    · have d4 : (e1 == sy) = true := by simpa using he
      by_cases h5 : e3 ≤ (s : Int)
      · have d5 : decide ((0 : Int) ≤ (s : Int) - e3) = true := by simp; omega
        by_cases h6 : (s : Int) - e3 < ((2 ^ n : Nat) : Int)
        · have d6 : decide ((s : Int) - e3 < ((2 ^ n : Nat) : Int)) = true := by simpa using h6
          have hw : IntKind.u64.wrap ((s : Int) - e3) = (s : Int) - e3 := w_u64 (by omega) (by omega)
          simp (disch := omega) only [fa_fse_Entry_Base, Nat.zero_add, fa_fse_Entry_Symbol, fa_fse_Entry_Bits, stepR_value, ld_int, true_and, ld_uint8, k2, ldC_some, r_sub, w_i64, k0, cv_int_uint64, hw, r_eql, d4, isB_tt, r_pick, if_true, Gd_true, r_geq, d5, k1, r_shl, Int.toNat_natCast, hsh, r_lss, d6, k1d, Cnd_true]
          exact ⟨.inl ⟨i, _, hge, by rw [hinE, decide_eq_true ⟨he, h5, by omega⟩], rfl⟩, x5.seq (Ext.dr _ _)⟩
        · have d6 : decide ((s : Int) - e3 < ((2 ^ n : Nat) : Int)) = false := by simpa using h6
          simp (disch := omega) only [fa_fse_Entry_Base, Nat.zero_add, fa_fse_Entry_Symbol, fa_fse_Entry_Bits, stepR_value, ld_int, true_and, ld_uint8, k2, ldC_some, r_sub, w_i64, k0, cv_int_uint64, w_u64, r_eql, d4, isB_tt, r_pick, if_true, Gd_true, r_geq, d5, k1, r_shl, Int.toNat_natCast, hsh, r_lss, d6, Cnd_false]
          exact ⟨L.length - (i + 1), by omega, i + 1, rfl, rfl, by omega, no hinE (decide_eq_false (by omega)), x5⟩
      · have d5 : decide ((0 : Int) ≤ (s : Int) - e3) = false := by simp; omega
        simp (disch := omega) only [fa_fse_Entry_Base, Nat.zero_add, fa_fse_Entry_Symbol, fa_fse_Entry_Bits, stepR_value, ld_int, true_and, ld_uint8, k2, ldC_some, r_sub, w_i64, k0, cv_int_uint64, r_eql, d4, isB_tt, r_pick, if_true, Gd_true, r_geq, d5, isB_ft, Bool.false_eq_true, if_false, Cnd_false, Gd_false]
        exact ⟨L.length - (i + 1), by omega, i + 1, rfl, rfl, by omega, no hinE (decide_eq_false (by omega)), x5⟩
    · have d4 : (e1 == sy) = false := by simpa using he
      simp (disch := omega) only [fa_fse_Entry_Base, Nat.zero_add, fa_fse_Entry_Symbol, fa_fse_Entry_Bits, stepR_value, ld_int, true_and, ld_uint8, k2, ldC_some, r_sub, w_i64, k0, cv_int_uint64, r_eql, d4, isB_ft, r_pick, Bool.false_eq_true, if_false, Cnd_false, Gd_false]
      exact ⟨L.length - (i + 1), by omega, i + 1, rfl, rfl, by omega, no hinE (decide_eq_false (by omega)), x5⟩
  · have d3 : decide ((i : Int) < (L.length : Int)) = false := by simp; omega
    unfold fse_Before_p1
    simp (disch := omega) only [Stp, r_lss, d3, true_and, r_add, w_i64, stepR_value, Cnd_false]
    exact ⟨.inr ⟨fun j e he => hno j e (by
      rcases Nat.lt_or_ge j L.length with h | h
      · omega
      · rw [List.getElem?_eq_none h] at he; cases he) he, rfl⟩, x2⟩

theorem before_out {w : World} {base b log : Nat} {L : List T3} {v : Value} (h : Tbl w base b log L v) (hl : L.length ≤ 1000000) (sy : Int) :
    Does pg F_fse_Before #[v, .int .i64 L.length, .int .u8 sy] w (fun r w' => r = .tuple #[.int .i64 0, .int .u64 0, .int .i64 0, .int .i64 1] ∧ Ext w w' nob) := by
  refine fse_Before_does ?_
  obtain ⟨rfl, hb, ob⟩ := h
  unfold fse_Before fse_Before_p9 fse_Before_p8
  refine stp_box fun w1 o1 x1 s1 => ?_
  have c1 := o1.cell (off := 1)
  simp only [Value.cells, List.getElem?_cons_zero, List.getElem?_cons_succ] at c1
  have d1 : decide ((L.length : Int) < 0) = false := by simp
  have d2 : decide ((L.length : Int) ≤ (L.length : Int)) = true := by simp
  simp (disch := omega) only [Stp, r_lss, d1, fa_fse_Table_Entries, Nat.zero_add, stepR_value, true_and, isB_ff, r_pick, Bool.false_eq_true, if_false, Gd_true, ld_sl_fse_Entry, c1, ldC_some, ln_sl_fse_Entry, r_geq, d2, Cnd_true]
  exact x1
end Go.Proofs.Ytcbkdccobhkbpaa
