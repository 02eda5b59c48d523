/- Contract: the program writes counts. -/
import Derived.Test.YtcbkdccobhkbpaaBN1
import Derived.Test.YtcbkdccobhkbpaaBT3
import Derived.Test.YtcbkdccobhkbpaaPuN
namespace Go.Proofs.Ytcbkdccobhkbpaa
open Go Go.En Go.Pu
set_option maxRecDepth 4000
set_option linter.unusedSimpArgs false
set_option linter.unusedVariables false

theorem out_c {lo p : Nat} {B : List Bool} {w : World} (h : Wr w lo p B) (hB : B.length ≤ 10000000) :
    Does pg F_bits_Writer_Out #[.pointer (some ⟨p, 0, none⟩)] w (fun r w' => ∃ bytes, Held B bytes ∧ OSl w' w.heap.size 1 r bytes.length (bytes.map b2v) ∧ Ext w w' nob) := by
  refine bits_Writer_Out_does ?_
  obtain ⟨h0, v, bytes, o, os, hh⟩ := h
  have c0 := (own_dr o).cell (off := 0)
  have c0' := o.cell (off := 0)
  simp only [List.getElem?_cons_zero, List.getElem?_cons_succ] at c0 c0'
  have hs : Bs w v bytes := by
    have h1 := os.1
    rcases os.2 with ⟨rfl, h2⟩ | ⟨b, c, rest, rfl, h2, h3, h4, h5⟩
    · exact ⟨_, _, _, rfl, by omega, by omega, fun h => by omega⟩
    · refine ⟨_, _, _, rfl, by omega, h5, fun _ => ⟨b, 0, rfl, fun i hi => ?_⟩⟩
      rw [h3.cell, Nat.zero_add, List.getElem?_append_left (by omega)]
  have hl := hh.len
  unfold bits_Writer_Out bits_Writer_Out_p1
  simp (disch := omega) only [Stp, peql_p_bits_Writer, Option.isNone_some, r_nil, stepR_value, fa_bits_Writer_b, ld_sl_uint8, c0', ldC_some, Cnd_false]
  refine (clone_c hs (by omega)).mono ?_
  rintro r w1 ⟨o1, x1⟩
  exact ⟨bytes, hh, o1, x1⟩

/-- what the loop of Write holds -/
structure WrS (w : World) (w0 : World) (pc lo pw log : Nat) (sv : Value) (ps : List Int) (B : List Bool) : Prop where
  oc : Own w pc [.int .i64 log, sv]
  sl : Sl w0 sv (ps.map (Value.int .i64))
  hw : Wr w lo pw B
  hc : pc < lo
  hx : Ext w0 w nob
  hlo : w0.heap.size ≤ lo
theorem WrS.put {w w' w0 : World} {pc lo pw log : Nat} {sv : Value} {ps : List Int} {B B' : List Bool} (h : WrS w w0 pc lo pw log sv ps B) (hw : Wr w' lo pw B') (hx : Ext w w' (fun y => lo ≤ y)) : WrS w' w0 pc lo pw log sv ps B' :=
  ⟨h.oc.ext hx (by have := h.hc; omega), h.sl, hw, h.hc, h.hx.trans hx fun b hb hh => by have := h.hlo; omega, h.hlo⟩

/-- one part's bits -/
theorem write_val {w w0 : World} {pc lo pw log left i : Nat} {sv : Value} {ps : List Int} {B : List Bool} {p : Int} (h : WrS w w0 pc lo pw log sv ps B) (hB : B.length ≤ 1000000) (h0 : 0 < left) (h1 : left ≤ 32768) (hg : ps[i]? = some p) (hp0 : -1 ≤ p) (hpl : p ≤ left)
    {kn : Value → Value → Value → Value → Value → World → Prop}
    (hK : ∀ w', WrS w' w0 pc lo pw log sv ps (B ++ valW left (p + 1).toNat) → kn (.pointer (some ⟨pc, 0, none⟩)) (.pointer (some ⟨pw, 0, none⟩)) (.int .i64 left) (.int .i64 i) (.int .i64 p) w') :
    normal_Write_p16 kn (.pointer (some ⟨pc, 0, none⟩)) (.pointer (some ⟨pw, 0, none⟩)) (.int .i64 left) (.int .i64 i) w := by
  unfold normal_Write_p16
  have hi : i < ps.length := by
    rcases Nat.lt_or_ge i ps.length with h' | h'
    · exact h'
    · rw [List.getElem?_eq_none h'] at hg; cases hg
  have hsl := h.sl.ext h.hx (inB_nob _)
  obtain ⟨b', off', c', hv, _, hcell⟩ := hsl.openI (by omega)
  have g1 := hcell i hi
  rw [List.getElem?_eq_getElem hi] at hg
  rw [Option.some.inj hg] at g1
  have hoc := h.oc
  subst hv
  have c1 := hoc.cell (off := 1)
  simp only [List.getElem?_cons_zero, List.getElem?_cons_succ] at c1
  obtain ⟨m, hm, hm1, hm2, hf1, hf2, hf3⟩ := val_facts h0 h1
  have e1 : (left : Int) + 1 = ((left + 1 : Nat) : Int) := by omega
  simp (disch := omega) only [Stp, fa_normal_Counts_Part, Nat.zero_add, r_add, e1, w_i64, stepR_value, cv_int_uint, w_u64, ld_sl_int, c1, ldC_some, ia_sl_int, Int.toNat_natCast, ld_int, g1, cv_int_uint64]
  refine (len_c (x := left + 1) (by omega) w).mono ?_
  rintro r w1 ⟨rfl, rfl⟩
  rw [hm]
  obtain ⟨v, hv⟩ : ∃ v : Nat, p + 1 = (v : Int) := ⟨(p + 1).toNat, by omega⟩
  have hvt : (p + 1).toNat = v := by omega
  rw [hvt] at hK
  have hvl : v ≤ left + 1 := by omega
  have hsh1 := shl1 (n := m + 1) (by omega)
  have hsh0 := shl1 (n := m) (by omega)
  have e2 : ((m + 1 : Nat) : Int) - 1 = (m : Int) := by omega
  have hp : 2 ^ m ≤ 2 ^ 16 := Nat.pow_le_pow_right (by omega) hm2
  unfold valW at hK
  simp only [hm, Nat.add_sub_cancel] at hK
  rw [hf3] at *
  generalize hq : 2 ^ m = q at *
  have e3 : ((2 * q : Nat) : Int) - 2 - (left : Int) = ((2 * q - 2 - left : Nat) : Int) := by omega
  by_cases hfr : v < 2 * q - 2 - left
  · have d1 : decide ((v : Int) < ((2 * q - 2 - left : Nat) : Int)) = true := by simp only [decide_eq_true_eq]; omega
    rw [if_pos hfr] at hK
    simp (disch := omega) only [r_shl, Int.toNat_natCast, hsh1, hv, r_sub, e2, w_i64, stepR_value, r_lss, e3, d1, r_add, cv_int_uint64, w_u64, Cnd_true]
    refine (write_c (n := m) (x := v) h.hw (by omega) (by omega) (by omega)).mono ?_
    rintro r w2 ⟨rfl, hw2, x2⟩
    exact hK w2 (h.put hw2 x2)
  · have d1 : decide ((v : Int) < ((2 * q - 2 - left : Nat) : Int)) = false := by simp only [decide_eq_false_iff_not]; omega
    rw [if_neg hfr] at hK
    by_cases h2 : v < q
    · have d2 : decide ((v : Int) < (q : Int)) = true := by simp only [decide_eq_true_eq]; omega
      rw [if_pos h2] at hK
      simp (disch := omega) only [r_shl, Int.toNat_natCast, hsh1, hv, r_sub, e2, w_i64, stepR_value, hsh0, r_lss, d2, Cnd_true, e3, d1, Cnd_false]
      refine (write_c (n := m + 1) (x := v) h.hw (by omega) (by omega) (by omega)).mono ?_
      rintro r w2 ⟨rfl, hw2, x2⟩
      exact hK w2 (h.put hw2 x2)
    · have d2 : decide ((v : Int) < (q : Int)) = false := by simp only [decide_eq_false_iff_not]; omega
      have e4 : (v : Int) + ((2 * q - 2 - left : Nat) : Int) = ((v + (2 * q - 2 - left) : Nat) : Int) := by omega
      rw [if_neg h2] at hK
      simp (disch := omega) only [r_shl, Int.toNat_natCast, hsh1, hv, r_sub, e2, w_i64, stepR_value, hsh0, r_lss, d2, Cnd_false, e3, d1, r_add, e4, cv_int_uint64, w_u64]
      refine (write_c (n := m + 1) (x := v + (2 * q - 2 - left)) h.hw (by omega) (by omega) (by omega)).mono ?_
      rintro r w2 ⟨rfl, hw2, x2⟩
      exact hK w2 (h.put hw2 x2)

/-- how many noughts stand behind -/
theorem write_run {w w0 : World} {pc lo pw log left i k : Nat} {sv : Value} {ps : List Int} {B : List Bool} (h : WrS w w0 pc lo pw log sv ps B) (hl : ps.length ≤ 1000000) (hz : ∀ j, j < k → ps[i + 1 + j]? = some 0) (hy : ∃ y, ps[i + 1 + k]? = some y ∧ y ≠ 0)
    {k3 : Value → Value → Value → Value → Value → World → Prop}
    (hK : k3 (.pointer (some ⟨pc, 0, none⟩)) (.pointer (some ⟨pw, 0, none⟩)) (.int .i64 left) (.int .i64 i) (.int .i64 k) w) :
    normal_Write_p11 k3 (.pointer (some ⟨pc, 0, none⟩)) (.pointer (some ⟨pw, 0, none⟩)) (.int .i64 left) (.int .i64 i) (.int .i64 0) w := by
  unfold normal_Write_p11
  have lt : ∀ {j : Nat} {y : Int}, ps[j]? = some y → j < ps.length := fun {j y} h => by
    rcases Nat.lt_or_ge j ps.length with h' | h'
    · exact h'
    · rw [List.getElem?_eq_none h'] at h; cases h
  obtain ⟨y, hy, hyn⟩ := hy
  have hyl := lt hy
  have hsl := h.sl.ext h.hx (inB_nob _)
  obtain ⟨b', off', c', hv, _, hcell⟩ := hsl.openI (by omega)
  have hoc := h.oc
  subst hv
  have c1 := hoc.cell (off := 1)
  simp only [List.getElem?_cons_zero, List.getElem?_cons_succ] at c1
  refine LoopD.rule (fun m (t : Value) w' => ∃ j : Nat, m = k - j ∧ t = .int .i64 j ∧ j ≤ k ∧ w' = w) k ⟨0, rfl, rfl, by omega, rfl⟩ ?_
  rintro m t w1 ⟨j, rfl, rfl, hj, rfl⟩
  unfold normal_Write_p10
  have e1 : (i : Int) + 1 + (j : Int) = ((i + 1 + j : Nat) : Int) := by omega
  by_cases hlt : j < k
  · have g0 := hz j hlt
    have hl0 := lt g0
    have g1 := hcell (i + 1 + j) hl0
    rw [List.getElem?_eq_getElem hl0] at g0
    rw [Option.some.inj g0] at g1
    have n1 : ((0 : Int) == 0) = true := rfl
    simp (disch := omega) only [Stp, fa_normal_Counts_Part, Nat.zero_add, r_add, w_i64, stepR_value, e1, ld_sl_int, c1, ldC_some, ia_sl_int, Int.toNat_natCast, ld_int, g1, r_eql, n1, and_true, Cnd_true]
    exact ⟨k - (j + 1), by omega, j + 1, rfl, rfl, by omega⟩
  · obtain rfl : j = k := by omega
    have g1 := hcell (i + 1 + j) hyl
    rw [List.getElem?_eq_getElem hyl] at hy
    rw [Option.some.inj hy] at g1
    have n1 : (y == 0) = false := by simpa using hyn
    simp (disch := omega) only [Stp, fa_normal_Counts_Part, Nat.zero_add, r_add, w_i64, stepR_value, e1, ld_sl_int, c1, ldC_some, ia_sl_int, Int.toNat_natCast, ld_int, g1, r_eql, n1, and_true, Cnd_false]
    exact hK

/-- the bits of noughts -/
theorem write_no {w w0 : World} {pc lo pw log left i k : Nat} {sv : Value} {ps : List Int} {B : List Bool} (h : WrS w w0 pc lo pw log sv ps B) (hB : B.length ≤ 1000000) (hk : k ≤ 1000000)
    {kn : Value → Value → Value → Value → World → Prop}
    (hK : ∀ w', WrS w' w0 pc lo pw log sv ps (B ++ noW k) → kn (.pointer (some ⟨pc, 0, none⟩)) (.pointer (some ⟨pw, 0, none⟩)) (.int .i64 left) (.int .i64 i) w') :
    normal_Write_p7 kn (.pointer (some ⟨pc, 0, none⟩)) (.pointer (some ⟨pw, 0, none⟩)) (.int .i64 left) (.int .i64 i) (.int .i64 k) w := by
  unfold normal_Write_p7 normal_Write_p6 normal_Write_p5
  refine LoopD.rule (fun m (t : Value) w' => ∃ C : List Bool, t = .int .i64 m ∧ m ≤ k ∧ C ++ noW m = B ++ noW k ∧ C.length ≤ 1000000 + 2 * (k - m) ∧ WrS w' w0 pc lo pw log sv ps C) k ⟨B, rfl, Nat.le_refl _, rfl, by omega, h⟩ ?_
  rintro m t w1 ⟨C, rfl, hm, hC, hCl, h1⟩
  unfold normal_Write_p4
  rw [noW] at hC
  by_cases h3 : m < 3
  · have d1 : decide ((3 : Int) ≤ (m : Int)) = false := by simp; omega
    rw [dif_pos h3] at hC
    unfold normal_Write_p3
    simp (disch := omega) only [Stp, r_geq, d1, r_sub, w_i64, stepR_value, cv_int_uint64, w_u64, Cnd_false]
    refine (write_c (n := 2) (x := m) h1.hw (by omega) (by omega) (by omega)).mono ?_
    rintro r w2 ⟨rfl, hw2, x2⟩
    rw [hC] at hw2
    exact hK w2 (h1.put hw2 x2)
  · have d1 : decide ((3 : Int) ≤ (m : Int)) = true := by simp; omega
    rw [dif_neg h3] at hC
    simp (disch := omega) only [Stp, r_geq, d1, r_sub, w_i64, stepR_value, Cnd_true]
    refine (write_c (n := 2) (x := 3) h1.hw (by omega) (by omega) (by omega)).mono ?_
    rintro r w2 ⟨rfl, hw2, x2⟩
    have e1 : (m : Int) - 3 = ((m - 3 : Nat) : Int) := by omega
    simp (disch := omega) only [e1]
    refine ⟨m - 3, by omega, C ++ bitsN 3 2, rfl, by omega, by rw [List.append_assoc]; exact hC, ?_, h1.put hw2 x2⟩
    rw [List.length_append, bitsN_length]; omega
end Go.Proofs.Ytcbkdccobhkbpaa
/- Contract: the program writes counts, whole. -/
namespace Go.Proofs.Ytcbkdccobhkbpaa
open Go Go.En Go.Pu
set_option maxRecDepth 4000
set_option linter.unusedSimpArgs false
set_option linter.unusedVariables false

theorem write_loop {w w0 : World} {pc lo pw log : Nat} {sv : Value} {ps : List Int} (hm : May log ps) (h : WrS w w0 pc lo pw log sv ps (bitsN (log - 5) 4)) {RR : Value → World → Prop}
    (hR : ∀ w' pw, WrS w' w0 pc lo pw log sv ps (descW log ps) → normal_Write_p1 RR (.pointer (some ⟨pw, 0, none⟩)) w') :
    normal_Write_p26 RR (.pointer (some ⟨pc, 0, none⟩)) (.pointer (some ⟨pw, 0, none⟩)) (.int .i64 (2 ^ log : Nat)) w := by
  have hlen := hm.len256
  have h15 := hm.log15
  have hp15 : 2 ^ log ≤ 2 ^ 15 := Nat.pow_le_pow_right (by omega) h15
  have hD := descW_len hm
  have hpow : ((2 ^ log : Nat) : Int) = (2 : Int) ^ log := by simp
  generalize hDe : descW log ps = D at *
  unfold normal_Write_p26 normal_Write_p25 normal_Write_p24 normal_Write_p23 normal_Write_p22
  refine LoopD.rule (fun m (t : Value × Value) w' => ∃ (i left g : Nat) (B : List Bool), m = ps.length - i ∧ t = (.int .i64 left, .int .i64 i) ∧ i ≤ ps.length ∧ ps.length - i ≤ g ∧ sumP (ps.drop i) = left ∧ left ≤ 32768 ∧ B ++ wrC g left (ps.drop i) = D ∧ WrS w' w0 pc lo pw log sv ps B) ps.length
    ⟨0, 2 ^ log, ps.length, _, rfl, rfl, by omega, by omega, by rw [List.drop_zero, hm.sum, hpow], by omega, by rw [List.drop_zero]; exact hDe, h⟩ ?_
  rintro m t w1 ⟨i, left, g, B, rfl, rfl, hi, hg, hs, hleft, hB, h1⟩
  have hBl : B.length ≤ 6000 := by rw [← hB, List.length_append] at hD; omega
  have hoc := h1.oc
  obtain ⟨sa, sc, hsv, _⟩ := h1.sl.lenI
  have hsv' := hsv
  subst hsv'
  have c1 := hoc.cell (off := 1)
  simp only [List.getElem?_cons_zero, List.getElem?_cons_succ] at c1
  unfold normal_Write_p21 normal_Write_p20
  by_cases hlt : i < ps.length
  · have d1 : decide ((i : Int) < (ps.length : Int)) = true := by simp; omega
    have hdrop : ps.drop i = ps[i] :: ps.drop (i + 1) := List.drop_eq_getElem_cons hlt
    have hlo' : ∀ p ∈ ps.drop i, -1 ≤ p := fun p hp => hm.low p (List.mem_of_mem_drop hp)
    have hlast : ∀ j, j < ps.length → (ps.drop j).getLast? ≠ some 0 := fun j hj => by
      rw [List.getLast?_drop, if_neg (by omega)]; exact hm.last
    have hpos : 0 < sumP (ps.drop i) := sum_pos hlo' (fun h => by have := List.drop_eq_nil_iff.1 h; omega) (hlast i hlt)
    have hp0 := hm.low _ (List.getElem_mem hlt)
    have hpi := List.getElem?_eq_getElem hlt
    generalize ps[i] = p at *
    rw [hdrop, sumP_cons] at hs hpos
    have hlo2 : ∀ p ∈ ps.drop (i + 1), -1 ≤ p := fun p hp => hm.low p (List.mem_of_mem_drop hp)
    have hn := sumP_nonneg hlo2
    have hpn := partsI_nonneg hp0
    have hple : p ≤ partsI p := by unfold partsI; split <;> omega
    obtain ⟨g, rfl⟩ : ∃ g', g = g' + 1 := ⟨g - 1, by omega⟩
    unfold normal_Write_p19 normal_Write_p18 normal_Write_p17
    simp (disch := omega) only [Stp, fa_normal_Counts_Part, Nat.zero_add, stepR_value, ld_sl_int, c1, ldC_some, ln_sl_int, r_lss, d1, Cnd_true]
    refine write_val (left := left) (i := i) h1 (by omega) (by omega) hleft hpi hp0 (by omega) fun w2 h2 => ?_
    unfold normal_Write_p15 normal_Write_p14
    refine (parts_c _ _).mono ?_
    rintro r w3 ⟨rfl, rfl⟩
    obtain ⟨pq, hpq⟩ : ∃ pq : Nat, partsI p = pq := ⟨(partsI p).toNat, by omega⟩
    rw [hpq] at hs hpn hple ⊢
    have e1 : (left : Int) - (pq : Int) = ((left - pq : Nat) : Int) := by omega
    have e2 : (i : Int) + 1 = ((i + 1 : Nat) : Int) := by omega
    by_cases h0 : p = 0
    · subst h0
      have n1 : ((0 : Int) != 0) = false := rfl
      obtain rfl : pq = 0 := by
        have : partsI 0 = 0 := rfl
        omega
      have hne : ps.drop (i + 1) ≠ [] := by
        intro he
        rw [he] at hpos
        exact absurd hpos (by decide)
      have hlt2 : i + 1 < ps.length := by
        rcases Nat.lt_or_ge (i + 1) ps.length with h | h
        · exact h
        · exact absurd (List.drop_eq_nil_of_le h) hne
      have hz1 := fun j => zeros_lt (ps := ps.drop (i + 1)) (j := j)
      have hz2 := fun y => zeros_end (ps := ps.drop (i + 1)) (y := y)
      have hz3 := zeros_in (hlast (i + 1) hlt2) hne
      have hrep := takeWhile_rep (ps.drop (i + 1))
      have hW : wrC (g + 1) left (0 :: ps.drop (i + 1)) = valW left 1 ++ (noW ((ps.drop (i + 1)).takeWhile (· == 0)).length ++ wrC g left ((ps.drop (i + 1)).drop ((ps.drop (i + 1)).takeWhile (· == 0)).length)) := by rw [wrC, if_pos rfl]
      rw [hdrop, hW] at hB
      generalize ((ps.drop (i + 1)).takeWhile (· == 0)).length = k at *
      rw [List.length_drop] at hz3
      simp only [List.getElem?_drop] at hz1 hz2
      have hsum : sumP (ps.drop (i + 1 + k)) = left := by
        have : sumP (ps.drop (i + 1)) = sumP (List.replicate k 0) + sumP ((ps.drop (i + 1)).drop k) := by
          conv => lhs; rw [hrep]
          rw [sumP_append]
        rw [sumP_zeros, List.drop_drop] at this
        have e0 : partsI 0 = 0 := rfl
        omega
      have h2' : WrS w3 w0 pc lo pw log (.slice sa ps.length sc) ps (B ++ valW left 1) := h2
      rw [List.drop_drop] at hB
      have hl1 : (B ++ valW left 1).length ≤ 6000 := by
        have := congrArg List.length hB
        simp only [List.length_append] at this ⊢
        omega
      have e3 : (left : Int) - ((0 : Nat) : Int) = (left : Int) := by omega
      unfold normal_Write_p13 normal_Write_p12
      simp (disch := omega) only [Stp, r_sub, e3, w_i64, r_neq, n1, stepR_value, Cnd_false]
      refine write_run (left := left) (k := k) h2' (by omega) hz1 ⟨_, List.getElem?_eq_getElem (show i + 1 + k < ps.length by omega), hz2 _ (List.getElem?_eq_getElem (by omega))⟩ ?_
      unfold normal_Write_p9 normal_Write_p8
      have e4 : (i : Int) + (k : Int) = ((i + k : Nat) : Int) := by omega
      simp (disch := omega) only [Stp, r_add, e4, w_i64, stepR_value]
      refine write_no (left := left) (i := i + k) h2' (by omega) (by omega) fun w4 h4 => ?_
      unfold normal_Write_p2
      have e5 : ((i + k : Nat) : Int) + 1 = ((i + 1 + k : Nat) : Int) := by omega
      simp (disch := omega) only [Stp, r_add, e5, w_i64, stepR_value]
      exact ⟨ps.length - (i + 1 + k), by omega, i + 1 + k, left, g, _, rfl, rfl, by omega, by omega, hsum, hleft, by rw [← hB]; simp [List.append_assoc], h4⟩
    · have n1 : (p != 0) = true := by simpa using h0
      have hW : wrC (g + 1) left (p :: ps.drop (i + 1)) = valW left (p + 1).toNat ++ wrC g (left - pq) (ps.drop (i + 1)) := by rw [wrC, if_neg h0, hpq, Int.toNat_natCast]
      rw [hdrop, hW, ← List.append_assoc] at hB
      unfold normal_Write_p2
      simp (disch := omega) only [Stp, r_sub, e1, w_i64, r_neq, n1, r_add, e2, stepR_value, Cnd_true]
      exact ⟨ps.length - (i + 1), by omega, i + 1, left - pq, g, _, rfl, rfl, by omega, by omega, by omega, by omega, hB, h2⟩
  · have d1 : decide ((i : Int) < (ps.length : Int)) = false := by simp; omega
    have hnil : ps.drop i = [] := List.drop_eq_nil_of_le (by omega)
    have hB : B = D := by
      rw [hnil] at hB
      cases g with
      | zero => simpa [wrC] using hB
      | succ g => simpa [wrC] using hB
    rw [hB] at h1
    simp (disch := omega) only [Stp, fa_normal_Counts_Part, Nat.zero_add, stepR_value, ld_sl_int, c1, ldC_some, ln_sl_int, r_lss, d1, Cnd_false]
    exact hR w1 pw h1

theorem normWrite_c {log : Nat} {sv : Value} {ps : List Int} {w : World} (hm : May log ps) (hs : Sl w sv (ps.map (Value.int .i64))) :
    Does pg F_normal_Write #[.agg #[.int .i64 log, sv]] w (fun r w' => ∃ bytes v, r = .tuple #[v, .int .i64 0] ∧ Held (descW log ps) bytes ∧ OSl w' w.heap.size 1 v bytes.length (bytes.map b2v) ∧ Ext w w' nob) := by
  refine normal_Write_does ?_
  have hlen := hm.len256
  have h15 := hm.log15
  have h5 := hm.log5
  unfold normal_Write normal_Write_p28 normal_Write_p27
  refine stp_box fun w1 o1 x1 s1 => ?_
  simp only [Value.cells] at o1
  have l1 := lda_normal_Counts o1 (off := 0) (by simp)
  simp only [List.drop_zero, List.take_succ_cons, List.take_zero] at l1
  simp (disch := omega) only [Stp, l1, fa_normal_Counts_Log, stepR_value, ld_int]
  refine (may_c (hs.ext x1 (inB_nob _)) (by omega)).mono ?_
  rintro r w2 ⟨rfl, x2⟩
  rw [hm.b]
  have z1 := x1.size
  have z2 := x2.size
  simp (disch := omega) only [r_not, Bool.not_true, stepR_value, Cnd_false]
  refine (newWriter_c w2).mono ?_
  rintro r w3 ⟨rfl, hlt, hw3, x3⟩
  have z3 := x3.size
  have o13 := (o1.ext x2 (fun h => h)).ext x3 (fun h => h)
  have c0 := o13.cell (off := 0)
  simp only [List.getElem?_cons_zero, List.getElem?_cons_succ] at c0
  have e1 : (log : Int) - 5 = ((log - 5 : Nat) : Int) := by omega
  simp (disch := omega) only [c0, ldC_some, stepR_value, r_sub, e1, w_i64, cv_int_uint64, w_u64]
  refine (write_c (n := 4) (x := log - 5) hw3 (by omega) (by omega) (by simp)).mono ?_
  rintro r w4 ⟨rfl, hw4, x4⟩
  have o14 := o13.ext x4 (by omega)
  have c04 := o14.cell (off := 0)
  simp only [List.getElem?_cons_zero, List.getElem?_cons_succ] at c04
  have hsh := shl1 (n := log) (by omega)
  simp (disch := omega) only [c04, ldC_some, stepR_value, r_shl, Int.toNat_natCast, hsh]
  have x04 : Ext w w4 nob := ((x1.seq x2).seq x3).trans x4 fun b hb h => by omega
  refine write_loop (lo := w2.heap.size) (pw := w2.heap.size) hm ⟨o14, hs, hw4, by omega, x04, by omega⟩ ?_
  intro w5 pw h5
  have hD := descW_len hm
  unfold normal_Write_p1
  refine (out_c h5.hw (by omega)).mono ?_
  rintro r w6 ⟨bytes, hh, ho, x6⟩
  refine ⟨bytes, r, rfl, hh, ⟨ho.1, ?_⟩, h5.hx.seq x6⟩
  have := h5.hx.size
  rcases ho.2 with h | ⟨b, c, rest, q1, q2, q3⟩
  · exact .inl h
  · exact .inr ⟨b, c, rest, q1, by omega, q3⟩

theorem normWrite_bad {log : Int} {sv : Value} {ps : List Int} {w : World} (hm : mayB log ps = false) (hs : Sl w sv (ps.map (Value.int .i64))) (hl : ps.length ≤ 9223372036854775807) :
    Does pg F_normal_Write #[.agg #[.int .i64 log, sv]] w (fun r w' => r = .tuple #[.slice none 0 0, .int .i64 1] ∧ Ext w w' nob) := by
  refine normal_Write_does ?_
  unfold normal_Write normal_Write_p28 normal_Write_p27
  refine stp_box fun w1 o1 x1 s1 => ?_
  simp only [Value.cells] at o1
  have l1 := lda_normal_Counts o1 (off := 0) (by simp)
  simp only [List.drop_zero, List.take_succ_cons, List.take_zero] at l1
  simp (disch := omega) only [Stp, l1, true_and, fa_normal_Counts_Log, stepR_value, ld_int]
  refine (may_c (hs.ext x1 (inB_nob _)) (by omega)).mono ?_
  rintro r w2 ⟨rfl, x2⟩
  rw [hm]
  simp (disch := omega) only [r_not, Bool.not_false, stepR_value, Cnd_true]
  exact x1.seq x2
end Go.Proofs.Ytcbkdccobhkbpaa
/- Contract: counts made of how often symbols are. -/
namespace Go.Proofs.Ytcbkdccobhkbpaa
open Go Go.En Go.Pu
set_option maxRecDepth 4000
set_option linter.unusedSimpArgs false
set_option linter.unusedVariables false

theorem sum_le {B : Nat} : ∀ {l : List Nat}, (∀ n ∈ l, n ≤ B) → l.sum ≤ l.length * B
  | [], _ => by simp
  | n :: l, h => by
    have h1 := h n (List.mem_cons_self ..)
    have h2 := sum_le (l := l) fun m hm => h m (List.mem_cons_of_mem _ hm)
    rw [List.sum_cons, List.length_cons, Nat.succ_mul]; omega

theorem le_sum {n : Nat} : ∀ {l : List Nat}, n ∈ l → n ≤ l.sum
  | [], h => by cases h
  | m :: l, h => by
    rw [List.sum_cons]
    rcases List.mem_cons.1 h with rfl | h
    · omega
    · have := le_sum h; omega
/-- how often symbols are may be described -/
def ofOk (log : Int) (ns : List Nat) : Bool := decide (5 ≤ log ∧ log ≤ 15 ∧ ns.length ≤ 256 ∧ 2 ≤ ns.countP isOn ∧ ns.countP isOn ≤ 2 ^ log.toNat ∧ ns.sum ≤ 2147483647)

theorem slA {w : World} {a : Option Addr} {n c : Nat} {l : List Value} (h : Sl w (.slice a n c) l) (h0 : 0 < n) : ∃ b off, a = some ⟨b, off, none⟩ ∧ ∀ i, i < n → w.cell? ⟨b, off + i, none⟩ = l[i]? := by
  obtain ⟨a', n', c', e, hn, hc, hh⟩ := h
  cases e
  exact hh h0

theorem of_loop1 {ov t4 : Value} {log : Int} {ns : List Nat} {w : World} (hs : Sl w ov (ns.map fun (n : Nat) => Value.int .u32 n)) (hn : ∀ n ∈ ns, n ≤ 4294967295) (hl : ns.length ≤ 300) {RR : Value → World → Prop}
    (hK : ∀ last, LastI ns ns.length last → normal_Of_p11 RR ov (.int .i64 log) t4 (.int .u64 ns.sum) (.int .i64 (ns.countP isOn : Nat)) (.int .i64 last) w) :
    normal_Of_p19 RR ov (.int .i64 log) t4 (.int .u64 0) (.int .i64 0) (.int .i64 0) w := by
  unfold normal_Of_p19 normal_Of_p18 normal_Of_p17
  obtain ⟨a, c, hv, hc⟩ := hs.len
  rw [List.length_map] at hv
  subst hv
  simp (disch := omega) only [Stp, ln_sl_uint32, stepR_value]
  unfold normal_Of_p16 normal_Of_p15
  refine LoopD.rule (fun m (t : Value × Value × Value × Value) w' => ∃ i last : Nat, m = ns.length - i ∧ t = (.int .u64 (ns.take i).sum, .int .i64 ((ns.take i).countP isOn : Nat), .int .i64 last, .int .i64 i) ∧ i ≤ ns.length ∧ LastI ns i last ∧ last ≤ i ∧ w' = w) ns.length
    ⟨0, 0, rfl, by simp, by omega, .inl ⟨rfl, fun j h => by omega⟩, by omega, rfl⟩ ?_
  rintro m t w1 ⟨i, last, rfl, rfl, hi, hla, hli, rfl⟩
  unfold normal_Of_p14 normal_Of_p13
  by_cases hlt : i < ns.length
  · have d1 : decide ((i : Int) < (ns.length : Int)) = true := by simp; omega
    obtain ⟨b, off, rfl, hcell⟩ := slA hs (by omega)
    have g1 := hcell i hlt
    rw [List.getElem?_map, List.getElem?_eq_getElem hlt, ← getD_at hlt] at g1
    simp only [Option.map_some] at g1
    have hni : ns.getD i 0 ≤ 4294967295 := by rw [getD_at hlt]; exact hn _ (List.getElem_mem hlt)
    have hsl := sum_le (B := 4294967295) (l := ns.take i) fun n hn' => hn n (List.mem_of_mem_take hn')
    rw [List.length_take, Nat.min_eq_left (by omega)] at hsl
    have hsl2 : i * 4294967295 ≤ 300 * 4294967295 := Nat.mul_le_mul_right _ (by omega)
    have hct : (ns.take i).countP isOn ≤ i := by
      have := List.countP_le_length (l := ns.take i) (p := isOn)
      rw [List.length_take] at this; omega
    have hsum : (ns.take (i + 1)).sum = (ns.take i).sum + ns.getD i 0 := by rw [take_snocD hlt, List.sum_append]; simp
    have hcnt : (ns.take (i + 1)).countP isOn = (ns.take i).countP isOn + (if 0 < ns.getD i 0 then 1 else 0) := by
      rw [take_snocD hlt, List.countP_append, List.countP_singleton]
      unfold isOn; simp only [decide_eq_true_eq]
    have hstep := hla.step
    generalize ns.getD i 0 = n at *
    have e1 : (((ns.take i).sum : Nat) : Int) + (n : Int) = (((ns.take i).sum + n : Nat) : Int) := by omega
    by_cases h0 : 0 < n
    · have d2 : decide ((0 : Int) < (n : Int)) = true := by simp; omega
      rw [if_pos h0] at hcnt hstep
      unfold normal_Of_p12
      simp (disch := omega) only [Stp, r_lss, d1, ia_sl_uint32, Int.toNat_natCast, r_add, w_i64, stepR_value, ld_uint32, g1, ldC_some, cv_uint32_uint64, w_u64, r_gtr, d2, Cnd_true, e1, and_true]
      exact ⟨ns.length - (i + 1), by omega, i + 1, i, rfl, by rw [hsum, hcnt]; rfl, by omega, hstep, by omega⟩
    · have d2 : decide ((0 : Int) < (n : Int)) = false := by simp; omega
      rw [if_neg h0] at hcnt hstep
      unfold normal_Of_p12
      simp (disch := omega) only [Stp, r_lss, d1, ia_sl_uint32, Int.toNat_natCast, r_add, w_i64, stepR_value, ld_uint32, g1, ldC_some, cv_uint32_uint64, w_u64, r_gtr, d2, Cnd_false, e1, and_true, Cnd_true]
      exact ⟨ns.length - (i + 1), by omega, i + 1, last, rfl, by rw [hsum, hcnt]; rfl, by omega, hstep, by omega⟩
  · have d1 : decide ((i : Int) < (ns.length : Int)) = false := by simp; omega
    obtain rfl : i = ns.length := by omega
    rw [List.take_of_length_le (Nat.le_refl _)]
    simp (disch := omega) only [Stp, r_lss, d1, r_add, stepR_value, Cnd_false]
    exact hK last hla

/-- parts that are told so far -/
def pnAt (R S last i : Nat) (ns : List Nat) : List Nat := (ns.take i).map (partN R S) ++ List.replicate (last + 1 - i) 0
theorem pnAt_length {R S last i : Nat} {ns : List Nat} (h : i ≤ last + 1) (hl : last < ns.length) : (pnAt R S last i ns).length = last + 1 := by
  unfold pnAt; rw [List.length_append, List.length_map, List.length_take, List.length_replicate]; omega
theorem pnAt_get {R S last i j : Nat} {ns : List Nat} (h : i ≤ last + 1) (hl : last < ns.length) (hj : j ≤ last) : (pnAt R S last i ns)[j]? = some (if j < i then partN R S (ns.getD j 0) else 0) := by
  unfold pnAt
  by_cases hji : j < i
  · rw [List.getElem?_append_left (by rw [List.length_map, List.length_take]; omega), List.getElem?_map, List.getElem?_take_of_lt hji, List.getElem?_eq_getElem (by omega), if_pos hji, getD_at (by omega)]; rfl
  · rw [List.getElem?_append_right (by rw [List.length_map, List.length_take]; omega), List.getElem?_replicate, if_pos (by rw [List.length_map, List.length_take]; omega), if_neg hji]
theorem pnAt_set {R S last i : Nat} {ns : List Nat} (h : i ≤ last) (hl : last < ns.length) : (pnAt R S last i ns).set i (partN R S (ns.getD i 0)) = pnAt R S last (i + 1) ns := by
  unfold pnAt
  have hm : ((ns.take i).map (partN R S)).length = i := by rw [List.length_map, List.length_take]; omega
  rw [List.set_append_right _ _ (by omega), hm, Nat.sub_self, show last + 1 - i = (last + 1 - (i + 1)) + 1 from by omega, List.replicate_succ, List.set_cons_zero, take_snocD (by omega), List.map_append, List.append_assoc]; rfl
theorem pnAt_zero {R S last i : Nat} {ns : List Nat} (h : i ≤ last) (hl : last < ns.length) (h0 : ns.getD i 0 = 0) : pnAt R S last (i + 1) ns = pnAt R S last i ns := by
  rw [← pnAt_set h hl, h0]
  have hp : partN R S 0 = 0 := by simp [partN]
  rw [hp]
  apply List.ext_getElem?
  intro j
  rw [List.getElem?_set]
  split
  · rename_i hj
    subst hj
    rw [if_pos (by rw [pnAt_length (by omega) hl]; omega), pnAt_get (by omega) hl h, if_neg (by omega)]
  · rfl
abbrev pnC (R S last i : Nat) (ns : List Nat) : List Value := (pnAt R S last i ns).map fun (n : Nat) => Value.int .i64 n

theorem of_loop2 {pc pb log there last : Nat} {ov t4 : Value} {ns : List Nat} {w : World} (hs : Sl w ov (ns.map fun (n : Nat) => Value.int .u32 n)) (hn : ∀ n ∈ ns, n ≤ 4294967295) (hl : last < ns.length) (hl2 : ns.length ≤ 256) (hlog : log ≤ 15) (hth : there ≤ 2 ^ log) (hS0 : 0 < ns.sum) (hS : ns.sum ≤ 2147483647)
    (hlast : 0 < ns.getD last 0) (oc : Own w pc [.int .i64 log, .slice (some ⟨pb, 0, none⟩) (last + 1) (last + 1)]) (ob : Own w pb (pnC (2 ^ log - there) ns.sum last 0 ns)) (hne : pc ≠ pb) (hat : ¬ inB ov (fun y => y = pb)) {RR : Value → World → Prop}
    (hK : ∀ (left gr : Nat) w', left + ((ns.take (last + 1)).map (moreN (2 ^ log - there) ns.sum)).sum = 2 ^ log - there → gr ≤ last → 0 < ns.getD gr 0 → Own w' pb (pnC (2 ^ log - there) ns.sum last (last + 1) ns) → Ext w w' (fun y => y = pb) → normal_Of_p1 RR t4 (.pointer (some ⟨pc, 0, none⟩)) (.int .i64 left) (.int .i64 gr) w') :
    normal_Of_p9 RR ov (.int .i64 log) t4 (.int .u64 ns.sum) (.int .i64 there) (.int .i64 last) (.pointer (some ⟨pc, 0, none⟩)) (.int .i64 (2 ^ log - there : Nat)) (.int .i64 last) w := by
  have hp15 : 2 ^ log ≤ 2 ^ 15 := Nat.pow_le_pow_right (by omega) hlog
  obtain ⟨a, c, hv, hc⟩ := hs.len
  rw [List.length_map] at hv hc
  subst hv
  obtain ⟨b0, off0, rfl, hcell⟩ := slA hs (by omega)
  have hsub : Sl w (.slice (some ⟨b0, off0, none⟩) (last + 1) c) ((ns.map fun (n : Nat) => Value.int .u32 n).take (last + 1)) := slHead hs (by omega)
  have hshl := shl1 (n := log) (by omega)
  generalize hR : 2 ^ log - there = R at *
  have hRl : R ≤ 32768 := by omega
  generalize hSe : ns.sum = S at *
  unfold normal_Of_p9 normal_Of_p8 normal_Of_p7
  have e1 : (last : Int) + 1 = ((last + 1 : Nat) : Int) := by omega
  have e2 : shift? (some ⟨b0, off0, none⟩) c 0 1 = some ⟨b0, off0, none⟩ := by have := shift_some (b := b0) (o := off0) (m := c) (l := 0) (by omega); simpa using this
  simp (disch := omega) only [Stp, r_add, e1, w_i64, stepR_value, sl_sl_uint32_hi, e2, Int.toNat_natCast, Nat.sub_zero, ln_sl_uint32]
  unfold normal_Of_p6 normal_Of_p5
  have hmsum : ∀ i, i ≤ ns.length → ((ns.take i).map (moreN R S)).sum ≤ R := fun i hi => by
    refine sum_more_le ?_ hS0
    have : ns.sum = (ns.take i).sum + (ns.drop i).sum := by rw [← List.sum_append, List.take_append_drop]
    omega
  refine LoopD.rule (fun m (t : Value × Value × Value) w' => ∃ left gr i : Nat, m = last + 1 - i ∧ t = (.int .i64 left, .int .i64 gr, .int .i64 i) ∧ i ≤ last + 1 ∧ left + ((ns.take i).map (moreN R S)).sum = R ∧ gr ≤ last ∧ 0 < ns.getD gr 0 ∧ Own w' pb (pnC R S last i ns) ∧ Ext w w' (fun y => y = pb)) (last + 1)
    ⟨R, last, 0, rfl, rfl, by omega, by simp, by omega, hlast, ob, Ext.refl _ _⟩ ?_
  rintro m t w1 ⟨left, gr, i, rfl, rfl, hi, hleft, hgr, hgr0, ob1, x1⟩
  unfold normal_Of_p4 normal_Of_p3
  by_cases hlt : i < last + 1
  · have d1 : decide ((i : Int) < ((last + 1 : Nat) : Int)) = true := by simp only [decide_eq_true_eq]; omega
    have hs1 := hs.ext x1 hat
    obtain ⟨b1, off1, he, hcell1⟩ := slA hs1 (by omega)
    cases he
    have g1 := hcell1 i (by omega)
    rw [List.getElem?_map, List.getElem?_eq_getElem (by omega), ← getD_at (by omega)] at g1
    simp only [Option.map_some] at g1
    have hni : ns.getD i 0 ≤ 4294967295 := by rw [getD_at (by omega)]; exact hn _ (List.getElem_mem (by omega))
    have hmore : ((ns.take (i + 1)).map (moreN R S)).sum = ((ns.take i).map (moreN R S)).sum + moreN R S (ns.getD i 0) := by rw [take_snocD (by omega), List.map_append, List.sum_append]; simp
    have hml := hmsum (i + 1) (by omega)
    have hset := pnAt_set (R := R) (S := S) (i := i) (by omega) hl
    have hzero := pnAt_zero (R := R) (S := S) (i := i) (by omega) hl
    have hgi := pnAt_get (R := R) (S := S) (i := i + 1) (j := i) (by omega) hl (by omega)
    have hgg := pnAt_get (R := R) (S := S) (i := i + 1) (j := gr) (by omega) hl hgr
    have hpl := pnAt_length (R := R) (S := S) (i := i) (by omega) hl
    rw [if_pos (by omega)] at hgi
    unfold normal_Of_p2
    generalize hgrv : (if gr < i + 1 then partN R S (ns.getD gr 0) else 0) = pv at *
    generalize hnv : ns.getD i 0 = n at *
    by_cases h0 : n = 0
    · subst h0
      have n1 : (((0 : Nat) : Int) == 0) = true := rfl
      have hm0 : moreN R S 0 = 0 := by simp [moreN]
      rw [hm0] at hmore
      simp (disch := omega) only [Stp, r_lss, d1, ia_sl_uint32, Int.toNat_natCast, r_add, w_i64, stepR_value, r_shl, fa_normal_Counts_Part, Nat.zero_add, true_and, ld_sl_int, r_sub, cv_int_uint64, w_u64, ld_uint32, g1, ldC_some, r_eql, n1, cv_uint32_uint64, r_mul, r_quo, cv_uint64_int, Cnd_true]
      exact ⟨last + 1 - (i + 1), by omega, left, gr, i + 1, rfl, rfl, by omega, by omega, hgr, hgr0, by unfold pnC; rw [hzero rfl]; exact ob1, x1⟩
    · have n1 : ((n : Int) == 0) = false := beq_eq_false_iff_ne.2 (by omega)
      have e3 : ((2 ^ log : Nat) : Int) - (there : Int) = (R : Int) := by omega
      have hnR : n * R ≤ 4294967295 * 32768 := Nat.mul_le_mul hni hRl
      have e4 : (n : Int) * (R : Int) = ((n * R : Nat) : Int) := by simp
      have e5 : ((n * R : Nat) : Int).tdiv (S : Int) = ((moreN R S n : Nat) : Int) := by
        rw [Int.tdiv_eq_ediv_of_nonneg (by omega)]; unfold moreN; simp
      have n2 : ((S : Int) == 0) = false := beq_eq_false_iff_ne.2 (by omega)
      have hp : partN R S n = 1 + moreN R S n := by unfold partN moreN; rw [if_neg h0]
      have hml2 : moreN R S n ≤ R := by omega
      rw [hp] at hset hgi
      have c1 := (oc.ext x1 hne).cell (off := 1)
      simp only [List.getElem?_cons_zero, List.getElem?_cons_succ] at c1
      generalize moreN R S n = q at *
      have e6 : (1 : Int) + (q : Int) = ((1 + q : Nat) : Int) := by omega
      have e7 : (left : Int) - (q : Int) = ((left - q : Nat) : Int) := by omega
      simp (disch := omega) only [Stp, r_lss, d1, ia_sl_uint32, Int.toNat_natCast, r_add, w_i64, stepR_value, r_shl, hshl, fa_normal_Counts_Part, Nat.zero_add, true_and, ld_sl_int, r_sub, e3, cv_int_uint64, w_u64, ld_uint32, g1, ldC_some, r_eql, n1, cv_uint32_uint64, r_mul, e4, r_quo, e5, cv_uint64_int, e6, c1, ia_sl_int, Cnd_false, Cnd_true]
      refine st_int ob1 rfl (by rw [List.length_map, hpl]; omega) fun w2 ob2 x2 s2 => ?_
      have hset2 : (pnC R S last i ns).set i (.int .i64 (1 + q : Nat)) = pnC R S last (i + 1) ns := by unfold pnC; rw [← hset, List.map_set]
      rw [hset2] at ob2
      have x12 := x1.seq x2
      have c2 := (oc.ext x12 hne).cell (off := 1)
      have c2d := (own_dr (oc.ext x12 hne)).cell (off := 1)
      simp only [List.getElem?_cons_zero, List.getElem?_cons_succ] at c2 c2d
      have f1 := (own_dr ob2).cell (off := i)
      have f2 := (own_dr ob2).cell (off := gr)
      unfold pnC at f1 f2
      rw [List.getElem?_map, hgi] at f1
      rw [List.getElem?_map, hgg] at f2
      simp only [Option.map_some] at f1 f2
      have hpv : pv ≤ 1 + R := by
        rw [← hgrv]
        split
        · unfold partN
          split
          · omega
          · have h1 : moreN R S (ns.getD gr 0) ≤ R := by
              refine Nat.le_trans ?_ (hmsum ns.length (Nat.le_refl _))
              rw [List.take_of_length_le (Nat.le_refl _)]
              have : moreN R S (ns.getD gr 0) ∈ ns.map (moreN R S) := List.mem_map.2 ⟨_, by rw [getD_at (by omega)]; exact List.getElem_mem _, rfl⟩
              exact le_sum this
            unfold moreN at h1
            omega
        · omega
      have x13 : Ext w (dr w2) (fun y => y = pb) := x12.seq (Ext.dr _ _)
      by_cases hbig : pv < 1 + q
      · have d2 : decide ((pv : Int) < ((1 + q : Nat) : Int)) = true := by simp only [decide_eq_true_eq]; omega
        simp (disch := omega) only [c2d, ldC_some, e7, stepR_value, ia_sl_int, Int.toNat_natCast, Nat.zero_add, ld_int, f2, true_and, f1, r_gtr, d2, Cnd_true]
        exact ⟨last + 1 - (i + 1), by omega, left - q, i, i + 1, rfl, rfl, by omega, by omega, by omega, by omega, own_dr ob2, x13⟩
      · have d2 : decide ((pv : Int) < ((1 + q : Nat) : Int)) = false := by simp only [decide_eq_false_iff_not]; omega
        simp (disch := omega) only [c2d, ldC_some, e7, stepR_value, ia_sl_int, Int.toNat_natCast, Nat.zero_add, ld_int, f2, true_and, f1, r_gtr, d2, Cnd_false]
        exact ⟨last + 1 - (i + 1), by omega, left - q, gr, i + 1, rfl, rfl, by omega, by omega, hgr, hgr0, own_dr ob2, x13⟩
  · have d1 : decide ((i : Int) < ((last + 1 : Nat) : Int)) = false := by simp only [decide_eq_false_iff_not]; omega
    obtain rfl : i = last + 1 := by omega
    simp (disch := omega) only [Stp, r_lss, d1, r_shl, Int.toNat_natCast, fa_normal_Counts_Part, Nat.zero_add, true_and, stepR_value, ld_sl_int, r_sub, w_i64, cv_int_uint64, w_u64, Cnd_false]
    exact hK left gr w1 hleft hgr hgr0 ob1 x1
end Go.Proofs.Ytcbkdccobhkbpaa
/- Contract: counts made of how often symbols are, whole. -/
namespace Go.Proofs.Ytcbkdccobhkbpaa
open Go Go.En Go.Pu
set_option maxRecDepth 4000
set_option linter.unusedSimpArgs false
set_option linter.unusedVariables false

theorem ofEnd {p4 : Nat} {w0 w : World} (o4 : Own w p4 [.int .i64 0, .slice none 0 0]) (hx : Ext w0 w nob) (hp : w0.heap.size ≤ p4) {RR : Value → World → Prop}
    (hR : ∀ w', Ext w0 w' nob → RR (.tuple #[.agg #[.int .i64 0, .slice none 0 0], .int .i64 1]) w') :
    Stp pg (sStore 24 (.pointer (some ⟨p4, 0, none⟩)) (.agg #[.int .i64 0, .slice none 0 0])) w fun _u w => LdR pg 24 (.pointer (some ⟨p4, 0, none⟩)) w fun r0 => RR (.tuple #[r0, .int .i64 1]) w := by
  refine sta_normal_Counts o4 rfl (by simp [one]) (by simp) fun w6 o6 x6 s6 => ?_
  refine ldr_normal_Counts o6 (by simp [setAll]) ?_
  simp only [setAll, List.set_cons_zero, List.set_cons_succ, List.drop_zero, List.take_succ_cons, List.take_zero]
  exact hR _ (hx.new x6 hp)

/-- what Of tells -/
def OfRes (w : World) (base : Nat) (log : Int) (ns : List Nat) (r : Value) : Prop :=
  (ofOk log ns = false ∧ r = .tuple #[.agg #[.int .i64 0, .slice none 0 0], .int .i64 1]) ∨
  (ofOk log ns = true ∧ ∃ (l last pb : Nat) (ps : List Nat), log = l ∧ LastI ns ns.length last ∧ May l (ps.map fun (n : Nat) => (n : Int)) ∧ ps.length = last + 1 ∧ last < ns.length ∧ (∀ i, i < last + 1 → (0 < ps.getD i 0 ↔ 0 < ns.getD i 0)) ∧
    r = .tuple #[.agg #[.int .i64 l, .slice (some ⟨pb, 0, none⟩) (last + 1) (last + 1)], .int .i64 0] ∧ base ≤ pb ∧ Own w pb (ps.map fun (n : Nat) => Value.int .i64 n))

theorem normOf_c {ov : Value} {log : Int} {ns : List Nat} {w : World} (hs : Sl w ov (ns.map fun (n : Nat) => Value.int .u32 n)) (hn : ∀ n ∈ ns, n ≤ 4294967295) (hl : ns.length ≤ 300) :
    Does pg F_normal_Of #[ov, .int .i64 log] w (fun r w' => OfRes w' w.heap.size log ns r ∧ Ext w w' nob) := by
  refine normal_Of_does ?_
  obtain ⟨RR, hRR⟩ : ∃ RR : Value → World → Prop, RR = fun r w' => OfRes w' w.heap.size log ns r ∧ Ext w w' nob := ⟨_, rfl⟩
  rw [← hRR]
  have bad : ofOk log ns = false → ∀ w', Ext w w' nob → RR (.tuple #[.agg #[.int .i64 0, .slice none 0 0], .int .i64 1]) w' := fun h w' hx => by
    rw [hRR]; exact ⟨.inl ⟨h, rfl⟩, hx⟩
  unfold normal_Of normal_Of_p21 normal_Of_p20
  refine al_normal_Counts fun w1 o1 x1 s1 => ?_
  have z1 := x1.size
  have hs1 := hs.ext x1 (inB_nob _)
  refine of_loop1 hs1 hn hl fun last hlast => ?_
  unfold normal_Of_p11 normal_Of_p10
  obtain ⟨a, c, hv, hc⟩ := hs.len
  rw [List.length_map] at hv hc
  subst hv
  have no : ¬ (5 ≤ log ∧ log ≤ 15 ∧ ns.length ≤ 256 ∧ 2 ≤ ns.countP isOn ∧ ns.countP isOn ≤ 2 ^ log.toNat ∧ ns.sum ≤ 2147483647) → ofOk log ns = false := fun h => by unfold ofOk; exact decide_eq_false h
  have hcl : ns.countP isOn ≤ ns.length := List.countP_le_length
  have hsl := sum_le (B := 4294967295) hn
  have hsl2 : ns.length * 4294967295 ≤ 300 * 4294967295 := Nat.mul_le_mul_right _ (by omega)
  by_cases h1 : log < 5
  · have d1 : decide (log < 5) = true := by simpa using h1
    simp (disch := omega) only [Stp, r_lss, d1, bd_normal_Counts_, stepR_value, r_add, isB_tf, r_pick, if_true, Cnd_true, Gd_false]
    exact ofEnd (RR := RR) o1 x1 (Nat.le_refl _) (bad (no (by omega)))
  have d1 : decide (log < 5) = false := by simpa using h1
  by_cases h2 : 15 < log
  · have d2 : decide (15 < log) = true := by simpa using h2
    simp (disch := omega) only [Stp, r_lss, d1, bd_normal_Counts_, stepR_value, r_add, r_shl, r_sub, isB_ff, r_pick, Bool.false_eq_true, if_false, Gd_true, r_gtr, d2, isB_tf, if_true, Cnd_true, Gd_false]
    exact ofEnd (RR := RR) o1 x1 (Nat.le_refl _) (bad (no (by omega)))
  have d2 : decide (15 < log) = false := by simpa using h2
  by_cases h3 : ns.length < 1
  · have d3 : decide ((ns.length : Int) < 1) = true := by simp; omega
    simp (disch := omega) only [Stp, r_lss, d1, bd_normal_Counts_, stepR_value, r_add, r_shl, r_sub, isB_ff, r_pick, Bool.false_eq_true, if_false, Gd_true, r_gtr, d2, ln_sl_uint32, d3, isB_tf, if_true, Cnd_true, Gd_false]
    exact ofEnd (RR := RR) o1 x1 (Nat.le_refl _) (bad (no (by omega)))
  have d3 : decide ((ns.length : Int) < 1) = false := by simp; omega
  by_cases h4 : 256 < ns.length
  · have d4 : decide ((256 : Int) < (ns.length : Int)) = true := by simp; omega
    simp (disch := omega) only [Stp, r_lss, d1, bd_normal_Counts_, stepR_value, r_add, r_shl, r_sub, isB_ff, r_pick, Bool.false_eq_true, if_false, Gd_true, r_gtr, d2, ln_sl_uint32, d3, d4, isB_tf, if_true, Cnd_true, Gd_false]
    exact ofEnd (RR := RR) o1 x1 (Nat.le_refl _) (bad (no (by omega)))
  have d4 : decide ((256 : Int) < (ns.length : Int)) = false := by simp; omega
  by_cases h5 : ns.countP isOn < 2
  · have d5 : decide (((ns.countP isOn : Nat) : Int) < 2) = true := by simp only [decide_eq_true_eq]; omega
    simp (disch := omega) only [Stp, r_lss, d1, bd_normal_Counts_, stepR_value, r_add, r_shl, r_sub, isB_ff, r_pick, Bool.false_eq_true, if_false, Gd_true, r_gtr, d2, ln_sl_uint32, d3, d4, d5, isB_tf, if_true, Cnd_true, Gd_false]
    exact ofEnd (RR := RR) o1 x1 (Nat.le_refl _) (bad (no (by omega)))
  have d5 : decide (((ns.countP isOn : Nat) : Int) < 2) = false := by simp only [decide_eq_false_iff_not]; omega
  obtain ⟨l, rfl⟩ : ∃ l : Nat, log = l := ⟨log.toNat, by omega⟩
  have hshl := shl1 (n := l) (by omega)
  have hp15 : 2 ^ l ≤ 2 ^ 15 := Nat.pow_le_pow_right (by omega) (by omega)
  rw [Int.toNat_natCast] at no
  by_cases h6 : 2 ^ l < ns.countP isOn
  · have d6 : decide (((2 ^ l : Nat) : Int) < ((ns.countP isOn : Nat) : Int)) = true := by simp only [decide_eq_true_eq]; omega
    simp (disch := omega) only [Stp, r_lss, d1, bd_normal_Counts_, stepR_value, r_add, r_shl, Int.toNat_natCast, hshl, r_sub, isB_ff, r_pick, Bool.false_eq_true, if_false, Gd_true, r_gtr, d2, ln_sl_uint32, d3, d4, d5, d6, isB_tf, if_true, Cnd_true, Gd_false]
    exact ofEnd (RR := RR) o1 x1 (Nat.le_refl _) (bad (no (by omega)))
  have d6 : decide (((2 ^ l : Nat) : Int) < ((ns.countP isOn : Nat) : Int)) = false := by simp only [decide_eq_false_iff_not]; omega
  by_cases h7 : 2147483647 < ns.sum
  · have d7 : decide ((2147483647 : Int) < ((ns.sum : Nat) : Int)) = true := by simp only [decide_eq_true_eq]; omega
    simp (disch := omega) only [Stp, r_lss, d1, bd_normal_Counts_, stepR_value, r_add, r_shl, Int.toNat_natCast, hshl, r_sub, w_i64, isB_ff, r_pick, Bool.false_eq_true, if_false, Gd_true, r_gtr, d2, ln_sl_uint32, d3, d4, d5, d6, d7, Cnd_true]
    exact ofEnd (RR := RR) o1 x1 (Nat.le_refl _) (bad (no (by omega)))
  have d7 : decide ((2147483647 : Int) < ((ns.sum : Nat) : Int)) = false := by simp only [decide_eq_false_iff_not]; omega
  have hok : ofOk (l : Int) ns = true := by unfold ofOk; rw [Int.toNat_natCast]; exact decide_eq_true (by omega)
  have hl2 : last < ns.length ∧ 0 < ns.getD last 0 := by
    rcases hlast with ⟨rfl, h⟩ | ⟨q1, q2, _⟩
    · exfalso
      have : ns.countP isOn = 0 := zeros_cnt fun n hn => by
        obtain ⟨i, hi, rfl⟩ := List.getElem_of_mem hn
        rw [← getD_at hi]; exact h i hi
      omega
    · exact ⟨q1, q2⟩
  have hS0 : 0 < ns.sum := by
    have := le_sum (l := ns) (n := ns.getD last 0) (by rw [getD_at hl2.1]; exact List.getElem_mem _)
    omega
  have e1 : (last : Int) + 1 = ((last + 1 : Nat) : Int) := by omega
  simp (disch := omega) only [Stp, r_lss, d1, bd_normal_Counts_, stepR_value, r_add, e1, w_i64, r_shl, Int.toNat_natCast, hshl, r_sub, isB_ff, r_pick, Bool.false_eq_true, if_false, Gd_true, r_gtr, d2, ln_sl_uint32, d3, d4, d5, d6, d7, Cnd_false]
  refine mk_sl_int (by omega) (by omega) fun w2 o2 x2 s2 => ?_
  rw [Int.toNat_natCast] at o2 ⊢
  simp (disch := omega) only [bd_normal_Counts_0_1, stepR_value]
  refine al_normal_Counts fun w3 o3 x3 s3 => ?_
  refine sta_normal_Counts o3 rfl (by simp [one]) (by simp) fun w4 o4 x4 s4 => ?_
  simp only [setAll, List.set_cons_zero, List.set_cons_succ] at o4
  have z2 := x2.size
  have z3 := x3.size
  have x14 : Ext w1 w4 nob := (x2.seq x3).new x4 (by omega)
  have e2 : ((2 ^ l : Nat) : Int) - ((ns.countP isOn : Nat) : Int) = ((2 ^ l - ns.countP isOn : Nat) : Int) := by omega
  have l2 := o2.lt
  have hpb : pnC (2 ^ l - ns.countP isOn) ns.sum last 0 ns = List.replicate (last + 1) (Value.int .i64 0) := by
    unfold pnC pnAt
    simp [List.map_replicate]
  have ob4 : Own w4 w1.heap.size (pnC (2 ^ l - ns.countP isOn) ns.sum last 0 ns) := by
    rw [hpb]; exact (o2.ext x3 (fun h => h)).ext x4 (by omega)
  simp (disch := omega) only [e2]
  refine of_loop2 (pc := w2.heap.size) (pb := w1.heap.size) (hs1.ext x14 (inB_nob _)) hn hl2.1 (by omega) (by omega) (by omega) hS0 (by omega) hl2.2 o4 ob4 (by omega) (fun h => hs.old (inB_mono h fun b hb => by omega)) fun left gr w5 hleft hgr hgr0 ob5 x5 => ?_
  unfold normal_Of_p1
  have o45 := o4.ext x5 (by omega)
  have c5 := o45.cell (off := 1)
  simp only [List.getElem?_cons_zero, List.getElem?_cons_succ] at c5
  have hgg := pnAt_get (R := 2 ^ l - ns.countP isOn) (S := ns.sum) (i := last + 1) (j := gr) (by omega) hl2.1 hgr
  rw [if_pos (by omega)] at hgg
  have f1 := ob5.cell (off := gr)
  unfold pnC at f1
  rw [List.getElem?_map, hgg] at f1
  simp only [Option.map_some] at f1
  obtain ⟨hmay, hofl, _, hiff⟩ := of_may (log := l) (there := ns.countP isOn) (left := left) (gr := gr) (by omega) (by omega) (by omega) rfl (by omega) (by omega) hlast hgr hgr0 hleft
  have hpq : pnAt (2 ^ l - ns.countP isOn) ns.sum last (last + 1) ns = (ns.take (last + 1)).map (partN (2 ^ l - ns.countP isOn) ns.sum) := by
    unfold pnAt; rw [Nat.sub_self]; simp
  have hgd : ((ns.take (last + 1)).map (partN (2 ^ l - ns.countP isOn) ns.sum)).getD gr 0 = partN (2 ^ l - ns.countP isOn) ns.sum (ns.getD gr 0) := by
    rw [hpq] at hgg
    rw [List.getD_eq_getElem?_getD, hgg]; rfl
  have hset : (pnC (2 ^ l - ns.countP isOn) ns.sum last (last + 1) ns).set gr (.int .i64 (partN (2 ^ l - ns.countP isOn) ns.sum (ns.getD gr 0) + left : Nat)) = (ofParts l (ns.countP isOn) ns.sum last gr left ns).map fun (n : Nat) => Value.int .i64 n := by
    unfold pnC ofParts
    rw [hpq, hgd, List.map_set]
  have hpl := pnAt_length (R := 2 ^ l - ns.countP isOn) (S := ns.sum) (i := last + 1) (by omega) hl2.1
  have hpb : partN (2 ^ l - ns.countP isOn) ns.sum (ns.getD gr 0) + left ≤ 70000 := by
    have hq := sum_more_le (R := 2 ^ l - ns.countP isOn) (S := ns.sum) (l := ns) (Nat.le_refl _) hS0
    have hq2 := le_sum (n := moreN (2 ^ l - ns.countP isOn) ns.sum (ns.getD gr 0)) (l := ns.map (moreN (2 ^ l - ns.countP isOn) ns.sum)) (List.mem_map.2 ⟨_, by rw [getD_at (by omega)]; exact List.getElem_mem _, rfl⟩)
    have hq3 : partN (2 ^ l - ns.countP isOn) ns.sum (ns.getD gr 0) ≤ 1 + moreN (2 ^ l - ns.countP isOn) ns.sum (ns.getD gr 0) := by
      unfold partN moreN
      split
      · exact Nat.zero_le _
      · exact Nat.le_refl _
    omega
  generalize partN (2 ^ l - ns.countP isOn) ns.sum (ns.getD gr 0) = pv at *
  have e3 : (pv : Int) + (left : Int) = ((pv + left : Nat) : Int) := by omega
  simp (disch := omega) only [Stp, fa_normal_Counts_Part, Nat.zero_add, stepR_value, ld_sl_int, c5, ldC_some, ia_sl_int, Int.toNat_natCast, ld_int, f1, r_add, e3, w_i64]
  refine st_int ob5 rfl (by rw [List.length_map, hpl]; omega) fun w6 ob6 x6 s6 => ?_
  rw [hset] at ob6
  have o46 := o45.ext x6 (by omega)
  have lc := lda_normal_Counts (off := 0) o46 (by simp)
  simp only [List.drop_zero, List.take_succ_cons, List.take_zero] at lc
  have o16 := ((o1.ext x14 (fun h => h)).ext x5 (by omega)).ext x6 (by omega)
  simp (disch := omega) only [lc, stepR_value]
  refine sta_normal_Counts o16 rfl (by simp [one]) (by simp) fun w7 o7 x7 s7 => ?_
  refine ldr_normal_Counts o7 (by simp [setAll]) ?_
  simp only [setAll, List.set_cons_zero, List.set_cons_succ, List.drop_zero, List.take_succ_cons, List.take_zero]
  rw [hRR]
  refine ⟨.inr ⟨hok, l, last, w1.heap.size, _, rfl, hlast, hmay, hofl, hl2.1, hiff, rfl, z1, ob6.ext x7 (by omega)⟩, ?_⟩
  have x06 : Ext w w6 nob := ((x1.seq x14).trans x5 fun b hb h => by omega).trans x6 fun b hb h => by omega
  exact x06.new x7 (Nat.le_refl _)
end Go.Proofs.Ytcbkdccobhkbpaa
/- Contracts: the laws' own helpers. -/
namespace Go.Proofs.Ytcbkdccobhkbpaa
open Go Go.En Go.Pu
set_option maxRecDepth 4000
set_option linter.unusedSimpArgs false
set_option linter.unusedVariables false

theorem model6_c {log : Int} {sv : Value} {w : World} {l : List Value} (hs : Sl w sv l) : Does pg F_law06_modelOf #[.agg #[.int .i64 log, sv]] w (fun r w' => r = .agg #[.int .i64 log, sv] ∧ Ext w w' nob) := by
  refine law06_modelOf_does ?_
  obtain ⟨a, c, rfl, _⟩ := hs.len
  unfold law06_modelOf law06_modelOf_p1
  refine stp_box fun w1 o1 x1 s1 => ?_
  refine al_lightermanref06_C fun w2 o2 x2 s2 => ?_
  simp only [Value.cells] at o1
  have o1 := o1.ext x2 (fun h => h)
  have c0 := o1.cell (off := 0)
  have c1 := o1.cell (off := 1)
  simp only [List.getElem?_cons_zero, List.getElem?_cons_succ] at c0 c1
  simp (disch := omega) only [Stp, fa_normal_Counts_Log, fa_normal_Counts_Part, Nat.zero_add, stepR_value, ld_sl_int, ld_int, c0, ldC_some, c1, bd_lightermanref06_C_0_1]
  refine sta_lightermanref06_C o2 rfl (by simp [one]) (by simp) fun w3 o3 x3 s3 => ?_
  refine ldr_lightermanref06_C o3 (by simp [setAll]) ?_
  simp only [setAll, List.set_cons_zero, List.set_cons_succ, List.drop_zero, List.take_succ_cons, List.take_zero]
  exact ⟨by trivial, (x1.seq x2).new x3 (by omega)⟩

theorem same6_c {log : Int} {sa sb : Value} {ps : List Int} {w : World} (ha : Sl w sa (ps.map (Value.int .i64))) (hb : Sl w sb (ps.map (Value.int .i64))) (hl : ps.length ≤ 9000000000000000000) :
    Does pg F_ref06_Same #[.agg #[.int .i64 log, sa], .agg #[.int .i64 log, sb]] w (fun r w' => r = .bool true ∧ Ext w w' nob) := by
  refine ref06_Same_does ?_
  obtain ⟨a, ca, rfl, _⟩ := ha.lenI
  obtain ⟨b, cb, rfl, _⟩ := hb.lenI
  unfold ref06_Same ref06_Same_p9 ref06_Same_p8
  refine stp_box fun w1 o1 x1 s1 => ?_
  refine stp_box fun w2 o2 x2 s2 => ?_
  simp only [Value.cells] at o1 o2
  have o1 := o1.ext x2 (fun h => h)
  have x02 := x1.seq x2
  have ha2 := ha.ext x02 (inB_nob _)
  have hb2 := hb.ext x02 (inB_nob _)
  have c10 := o1.cell (off := 0)
  have c11 := o1.cell (off := 1)
  have c20 := o2.cell (off := 0)
  have c21 := o2.cell (off := 1)
  simp only [List.getElem?_cons_zero, List.getElem?_cons_succ] at c10 c11 c20 c21
  have n1 : (log != log) = false := by simp
  have n2 : ((ps.length : Int) != (ps.length : Int)) = false := by simp
  simp (disch := omega) only [Stp, fa_lightermanref06_C_Log, fa_lightermanref06_C_Part, Nat.zero_add, stepR_value, ld_int, c10, ldC_some, c20, r_neq, n1, isB_ff, r_pick, Bool.false_eq_true, if_false, Gd_true, ld_sl_int, c11, ln_sl_int, c21, n2, Cnd_false]
  unfold ref06_Same_p7 ref06_Same_p6 ref06_Same_p5 ref06_Same_p4 ref06_Same_p3
  refine LoopD.rule (fun m (t : Value) w' => ∃ i : Nat, m = ps.length - i ∧ t = .int .i64 i ∧ i ≤ ps.length ∧ Ext w2 w' nob) ps.length ⟨0, rfl, rfl, by omega, Ext.refl _ _⟩ ?_
  rintro m t w3 ⟨i, rfl, rfl, hi, x3⟩
  have c11d := (own_dr (o1.ext x3 (fun h => h))).cell (off := 1)
  have c21d := (own_dr (o2.ext x3 (fun h => h))).cell (off := 1)
  have c11' := (o1.ext x3 (fun h => h)).cell (off := 1)
  simp only [List.getElem?_cons_zero, List.getElem?_cons_succ] at c11d c21d c11'
  unfold ref06_Same_p2
  by_cases hlt : i < ps.length
  · have d1 : decide ((i : Int) < (ps.length : Int)) = true := by simp; omega
    have x3d : Ext w2 (dr w3) nob := x3.seq (Ext.dr _ _)
    obtain ⟨b1, off1, rfl, hca⟩ := slA (ha2.ext x3d (inB_nob _)) (by omega)
    obtain ⟨b2, off2, rfl, hcb⟩ := slA (hb2.ext x3d (inB_nob _)) (by omega)
    have g1 := hca i hlt
    have g2 := hcb i hlt
    rw [List.getElem?_map, List.getElem?_eq_getElem hlt] at g1 g2
    simp only [Option.map_some] at g1 g2
    generalize ps[i] = p at *
    have n3 : (p != p) = false := by simp
    simp (disch := omega) only [Stp, fa_lightermanref06_C_Part, Nat.zero_add, r_add, w_i64, stepR_value, true_and, ld_sl_int, c11', ldC_some, ln_sl_int, r_lss, d1, c11d, c21d, ia_sl_int, Int.toNat_natCast, ld_int, g2, g1, r_neq, n3, Cnd_false, Cnd_true]
    exact ⟨ps.length - (i + 1), by omega, i + 1, rfl, rfl, by omega, x3d⟩
  · have d1 : decide ((i : Int) < (ps.length : Int)) = false := by simp; omega
    unfold ref06_Same_p1
    simp (disch := omega) only [Stp, fa_lightermanref06_C_Part, Nat.zero_add, r_add, w_i64, stepR_value, true_and, ld_sl_int, c11', ldC_some, ln_sl_int, r_lss, d1, Cnd_false]
    exact x02.seq x3

/-- what was read, in words -/
def cLog (o : Except Int (Nat × List Int × Nat)) : Int := match o with | .ok (l, _, _) => l | .error _ => 0
def cPs (o : Except Int (Nat × List Int × Nat)) : List Int := match o with | .ok (_, p, _) => p | .error _ => []
def cUsed (o : Except Int (Nat × List Int × Nat)) : Int := match o with | .ok (_, _, u) => u | .error _ => 0
def cErr (o : Except Int (Nat × List Int × Nat)) : Int := match o with | .ok _ => 0 | .error e => e
theorem CountsOf.words {w : World} {base : Nat} {o : Except Int (Nat × List Int × Nat)} {r : Value} (h : CountsOf w base o r) : ∃ a c, r = .tuple #[.agg #[.int .i64 (cLog o), .slice a (cPs o).length c], .int .i64 (cUsed o), .int .i64 (cErr o)] ∧ OSl w base 1 (.slice a (cPs o).length c) (cPs o).length ((cPs o).map (Value.int .i64)) := by
  cases o with
  | error e => exact ⟨_, _, h, OSl.nil _ _ _⟩
  | ok x =>
    obtain ⟨l, p, u⟩ := x
    obtain ⟨v, rfl, ho⟩ := h
    obtain ⟨a, c, rfl⟩ := ho.len
    exact ⟨a, c, rfl, ho⟩

theorem held_readL {log : Nat} {ps : List Int} {bytes : List UInt8} (hm : May log ps) (hh : Held (descW log ps) bytes) {most : Int} (hmo : (log : Int) ≤ most) {sym : Nat} (hs : ps.length ≤ sym) : readL (bitsB bytes) most sym = .ok (log, ps, bytes.length) := by
  rw [hh.bits, descW_R hm hmo hs, hh.len]

theorem awake6_c (w : World) : Does pg F_law06_awake #[] w (fun r w' => r = .bool true ∧ Ext w w' nob) := by
  refine law06_awake_does ?_
  unfold law06_awake law06_awake_p1
  refine bs_sl_int (cells := #[.int .i64 16, .int .i64 16]) (by decide) (by decide) (by kernel_rfl) fun w1 o1 x1 s1 => ?_
  have hs1 : Sl w1 (.slice (some ⟨w.heap.size, 0, none⟩) 2 2) (([16, 16] : List Int).map (Value.int .i64)) := ⟨_, _, _, rfl, rfl, Nat.le_refl _, fun _ => ⟨_, _, rfl, fun i hi => by rw [o1.cell, Nat.zero_add]; rfl⟩⟩
  simp (disch := omega) only [Stp, bd_normal_Counts_0_1, stepR_value]
  refine (check_c (most := 9) (log := 5) hs1 (by decide)).mono ?_
  rintro r w2 ⟨rfl, x2⟩
  have hce : chkE 5 [16, 16] 9 = 0 := by decide
  rw [hce]
  refine bs_sl_int (cells := #[.int .i64 20, .int .i64 0, .int .i64 0, .int .i64 (-1), .int .i64 11]) (by decide) (by decide) (by kernel_rfl) fun w3 o3 x3 s3 => ?_
  have hs3 : Sl w3 (.slice (some ⟨w2.heap.size, 0, none⟩) 5 5) (([20, 0, 0, -1, 11] : List Int).map (Value.int .i64)) := ⟨_, _, _, rfl, rfl, Nat.le_refl _, fun _ => ⟨_, _, rfl, fun i hi => by rw [o3.cell, Nat.zero_add]; rfl⟩⟩
  have hm : May 5 [20, 0, 0, -1, 11] := by
    obtain ⟨l, hl, h⟩ := may_of (log := 5) (ps := [20, 0, 0, -1, 11]) (by decide)
    have : l = 5 := by omega
    subst this; exact h
  simp (disch := omega) only [bd_normal_Counts_0_1, r_eql, stepR_value, r_pick]
  refine (normWrite_c (log := 5) hm hs3).mono ?_
  rintro r w4 ⟨bytes, v, rfl, hh, ho4, x4⟩
  have hDl := descW_len hm
  have hlen := hh.len
  have hD4 : 4 ≤ (descW 5 [20, 0, 0, -1, 11]).length := by unfold descW; rw [List.length_append, bitsN_length]; omega
  obtain ⟨av, cv, rfl⟩ := ho4.len
  simp (disch := omega) only [x20, x21, stepR_value]
  refine (normRead_c (most := 9) (sym := 9) ho4.sl (by omega) (by omega)).mono ?_
  rintro r w5 ⟨hr, x5⟩
  rw [held_readL hm hh (by decide) (by decide)] at hr
  obtain ⟨v5, rfl, ho5⟩ := hr
  have ho5 : OSl w5 w4.heap.size 1 v5 5 (([20, 0, 0, -1, 11] : List Int).map (Value.int .i64)) := ho5
  obtain ⟨av5, cv5, rfl⟩ := ho5.len
  simp (disch := omega) only [x30, x31, x32, stepR_value]
  refine al_normal_Counts fun w6 o6 x6 s6 => ?_
  refine sta_normal_Counts o6 rfl (by simp [one]) (by simp) fun w7 o7 x7 s7 => ?_
  simp only [setAll, List.set_cons_zero, List.set_cons_succ] at o7
  refine bs_sl_uint32 (cells := #[.int .u32 3, .int .u32 0, .int .u32 1]) (by decide) (by decide) (by kernel_rfl) fun w8 o8 x8 s8 => ?_
  have hs8 : Sl w8 (.slice (some ⟨w7.heap.size, 0, none⟩) 3 3) (([3, 0, 1] : List Nat).map fun (n : Nat) => Value.int .u32 n) := ⟨_, _, _, rfl, rfl, Nat.le_refl _, fun _ => ⟨_, _, rfl, fun i hi => by rw [o8.cell, Nat.zero_add]; rfl⟩⟩
  refine (normOf_c (log := 5) (ns := [3, 0, 1]) hs8 (by decide) (by decide)).mono ?_
  rintro r w9 ⟨hof, x9⟩
  rcases hof with ⟨h, _⟩ | ⟨_, l, last, pb, ps, hll, hla, _, _, _, _, rfl, hpb, ob9⟩
  · exact absurd h (by decide)
  have hl5 : l = 5 := by omega
  subst hl5
  have hlast2 : last = 2 := hla.one (.inr ⟨by decide, by decide, fun j h1 h2 => by simp at h2; omega⟩)
  subst hlast2
  simp (disch := omega) only [x20, x21, fa_normal_Counts_Log, stepR_value, fa_normal_Counts_Part, Nat.zero_add]
  refine al_normal_Counts fun w10 o10 x10 s10 => ?_
  refine sta_normal_Counts o10 rfl (by simp [one]) (by simp) fun w11 o11 x11 s11 => ?_
  simp only [setAll, List.set_cons_zero, List.set_cons_succ] at o11
  have z1 := x1.size
  have z2 := x2.size
  have z3 := x3.size
  have z4 := x4.size
  have z5 := x5.size
  have z6 := x6.size
  have z7 := x7.size
  have z8 := x8.size
  have z9 := x9.size
  have z10 := x10.size
  have x57 : Ext w5 w7 nob := x6.new x7 (by omega)
  have x911 : Ext w9 w11 nob := x10.new x11 (by omega)
  have x711 : Ext w7 w11 nob := (x8.seq x9).seq x911
  have o7e := o7.ext x711 (fun h => h)
  have ho5e := (ho5.ext x57 (fun _ _ h => h)).ext x711 (fun _ _ h => h)
  obtain ⟨b5, off5, rfl, hcell⟩ := slA ho5e.sl (by decide)
  have g0 := hcell 0 (by decide)
  have g3 := hcell 3 (by decide)
  have c0 := o7e.cell (off := 0)
  have c1 := o7e.cell (off := 1)
  have k1 := o11.cell (off := 1)
  simp only [List.getElem?_cons_zero, List.getElem?_cons_succ, List.map_cons] at c0 c1 k1 g0 g3
  have n1 : ((0 : Int) == 0) = true := rfl
  have n2 : decide ((0 : Int) < ((bytes.length : Nat) : Int)) = true := by simp; omega
  have n3 : (((bytes.length : Nat) : Int) == ((bytes.length : Nat) : Int)) = true := by simp
  have n4 : (((5 : Nat) : Int) == 5) = true := rfl
  have n5 : ((20 : Int) == 20) = true := rfl
  have n6 : ((-1 : Int) == -1) = true := rfl
  have n7 : ((([20, 0, 0, -1, 11] : List Int).length : Int) == 5) = true := rfl
  have n8 : (((2 + 1 : Nat) : Int) == 3) = true := rfl
  have t0 : (0 : Int).toNat = 0 := rfl
  have t3 : (3 : Int).toNat = 3 := rfl
  simp (disch := omega) only [n1, isB_tt, if_true, fa_normal_Counts_Part, Nat.zero_add, stepR_value, Gd_true, r_eql, r_pick, ln_sl_uint8, r_gtr, n2, n3, ld_int, c0, ldC_some, n4, ld_sl_int, c1, ln_sl_int, ia_sl_int, t0, g0, n5, t3, g3, n6, k1, n8, true_and]
  exact ((((x1.seq x2).seq x3).seq x4).seq x5).seq (x57.seq x711)
end Go.Proofs.Ytcbkdccobhkbpaa
