/- Contract: a description of weights. -/
import Derived.Test.YtoepfjgekpdddaaBW2
import Derived.Test.YtoepfjgekpdddaaPuW
import Derived.Test.YtoepfjgekpdddaaBW1
import Derived.Laws.Strings
namespace Go.Proofs.Ytoepfjgekpdddaa
open Go Go.En Go.Pu
set_option maxRecDepth 4000
set_option linter.unusedSimpArgs false
set_option linter.unusedVariables false

/-- the bytes of a description -/
def wrB (l : List Nat) : List Nat := (126 + l.length) :: packN (l.take (l.length - 1))
theorem wrB_length (l : List Nat) : (wrB l).length = 1 + (l.length - 1 + 1) / 2 := by
  unfold wrB
  rw [List.length_cons, packN_length, List.length_take, Nat.min_eq_left (by omega)]; omega
theorem wrB_lt {l : List Nat} (h : ∀ x ∈ l, x ≤ 11) (hl : l.length ≤ 129) : ∀ x ∈ wrB l, x < 256 := by
  intro x hx
  rcases List.mem_cons.1 hx with rfl | hx
  · omega
  · obtain ⟨i, hi, rfl⟩ := List.getElem_of_mem hx
    have h16 : ∀ y ∈ l.take (l.length - 1), y < 16 := fun y hy => by have := h y (List.mem_of_mem_take hy); omega
    rw [packN_length] at hi
    rw [← getD_at (by rw [packN_length]; exact hi), packN_get hi]
    have := getD_lt h16 (2 * i)
    have := getD_lt h16 (2 * i + 1)
    omega
/-- it is read as it was -/
theorem wrB_read {l : List Nat} {d : Nat} (h : depthN l = d) (hd : d ≠ 0) (hl : l.length ≤ 129) : ∃ (m : List Nat) (k : Nat), l = m ++ [k] ∧ m.length = l.length - 1 ∧ wholeN (halvesN (packN m) m.length) = some k ∧ halvesN (packN m) m.length = m ∧ l.take (l.length - 1) = m := by
  obtain ⟨h1, h2, h3, h4, h5, h6⟩ := depthN_ok h hd
  obtain ⟨m, k, rfl⟩ : ∃ m k, l = m ++ [k] := ⟨l.dropLast, l.getLast (by intro e; rw [e] at h3; simp at h3), (List.dropLast_concat_getLast _).symm⟩
  have hm16 : ∀ x ∈ m, x < 16 := fun x hx => by have := h1 x (List.mem_append_left _ hx); omega
  have hp := halves_pack hm16
  refine ⟨m, k, rfl, by simp, by rw [hp]; exact whole_of_depth h hd, hp, by simp⟩

theorem write_push {base i x : Nat} {l0 n4 v' i6 : Value} {cells : List Value} {w : World} (o : OSl w base 1 v' i cells) (hb : base ≤ w.heap.size) (hi : i ≤ 100000) (hx : x < 256) {kn : Value → Value → Value → Value → World → Prop}
    (hK : ∀ v2 w2, OSl w2 base 1 v2 (i + 1) (cells ++ [.int .u8 x]) → Ext w w2 (fun y => base ≤ y) → kn l0 n4 v2 i6 w2) : weights_Write_p3 kn l0 n4 v' i6 (.int .u8 x) w := by
  unfold weights_Write_p3
  obtain ⟨av, cv, rfl⟩ := o.len
  refine bs_sl_uint8 (cells := #[.int .u8 x]) (by decide) (by decide) (by kernel_rfl) fun w5 o5 x5 s5 => ?_
  have z5 := x5.size
  refine ap_sl_uint8_sl_uint8 (m := 1) (news := [.int .u8 x]) (o.ext x5 (fun _ _ h => h)) (o5.cl (off := 0) (l := [.int .u8 x]) (n := 1) rfl (fun i hi => by rw [Nat.zero_add])) (by simp [one]) (by omega) (by omega) fun v6 w6 o6 x6 => ?_
  exact hK v6 w6 o6 ((x5.mono fun _ _ h => h.elim).seq x6)

theorem wwrite_bad {v : Value} {l : List UInt8} {w : World} (h : Bs w v l) (hl : l.length ≤ 100000) (hd : depthN (nats l) = 0 ∨ 129 < l.length) :
    Does pg F_weights_Write #[v] w (fun r w' => r = .tuple #[.slice none 0 0, .int .i64 (if depthN (nats l) = 0 then 1 else 12)] ∧ w' = w) := by
  refine weights_Write_does ?_
  obtain ⟨a, n, c, rfl, hn, hc, hh⟩ := id h
  rw [List.length_map] at hn
  subst hn
  unfold weights_Write weights_Write_p16 weights_Write_p15
  refine (depth_c h hl).mono ?_
  rintro r w1 ⟨rfl, rfl⟩
  by_cases h0 : depthN (nats l) = 0
  · have n1 : (((depthN (nats l) : Nat) : Int) == 0) = true := by rw [h0]; rfl
    simp (disch := omega) only [Stp, Same, stepR_value, stepR_skip, r_add, r_sub, r_mul, r_quo, r_rem, r_and, r_or, r_xor, r_andNot, r_shl, r_shr, r_eql, r_neq, r_lss, r_leq, r_gtr, r_geq, r_neg, r_cpl, r_not, r_pick, r_min, r_max, r_nil, x20, x21, x30, x31, x32, x40, x41, x42, x43, ldC_some, Result.ok.injEq, Next.value.injEq, true_and, and_true, w_i64, w_u64, w_i32, w_u32, w_u16, w_u8, Int.toNat_natCast, isB_tt, isB_tf, isB_ft, isB_ff, Gd_true, Gd_false, Gs_true, Gs_false, Cnd_true, Cnd_false, if_true, if_false, Bool.false_eq_true, Nat.zero_add, Option.isNone_some, Option.isNone_none, Bool.not_true, Bool.not_false, List.getElem?_cons_succ, List.getElem?_cons_zero, ln_sl_uint8, cv_int_uint, cv_int_uint8, ln_string, ia_sl_uint8, ld_uint8, cv_uint8_int, bd_weights_Code_0_1, ia_sl_weights_Code, bd_lightermanref08_C_, ix_string, bd_lightermanref08_C_0_1, ia_sl_lightermanref08_C, sl_sl_uint8_lo, sl_sl_uint8_hi, ln_sl_uint32, ia_sl_uint32, ld_uint32, cv_uint32_uint64, sl_sl_uint32_hi, ln_sl_int, ia_sl_int, ld_int, cv_uint_uint32, seql_sl_uint8, cv_uint32_uint8, cv_uint64_uint8, n1]
    rw [if_pos h0]
  · have n1 : (((depthN (nats l) : Nat) : Int) == 0) = false := beq_eq_false_iff_ne.2 (by omega)
    have d1 : decide ((129 : Int) < (l.length : Int)) = true := by simp; omega
    simp (disch := omega) only [Stp, Same, stepR_value, stepR_skip, r_add, r_sub, r_mul, r_quo, r_rem, r_and, r_or, r_xor, r_andNot, r_shl, r_shr, r_eql, r_neq, r_lss, r_leq, r_gtr, r_geq, r_neg, r_cpl, r_not, r_pick, r_min, r_max, r_nil, x20, x21, x30, x31, x32, x40, x41, x42, x43, ldC_some, Result.ok.injEq, Next.value.injEq, true_and, and_true, w_i64, w_u64, w_i32, w_u32, w_u16, w_u8, Int.toNat_natCast, isB_tt, isB_tf, isB_ft, isB_ff, Gd_true, Gd_false, Gs_true, Gs_false, Cnd_true, Cnd_false, if_true, if_false, Bool.false_eq_true, Nat.zero_add, Option.isNone_some, Option.isNone_none, Bool.not_true, Bool.not_false, List.getElem?_cons_succ, List.getElem?_cons_zero, ln_sl_uint8, cv_int_uint, cv_int_uint8, ln_string, ia_sl_uint8, ld_uint8, cv_uint8_int, bd_weights_Code_0_1, ia_sl_weights_Code, bd_lightermanref08_C_, ix_string, bd_lightermanref08_C_0_1, ia_sl_lightermanref08_C, sl_sl_uint8_lo, sl_sl_uint8_hi, ln_sl_uint32, ia_sl_uint32, ld_uint32, cv_uint32_uint64, sl_sl_uint32_hi, ln_sl_int, ia_sl_int, ld_int, cv_uint_uint32, seql_sl_uint8, cv_uint32_uint8, cv_uint64_uint8, n1, d1]
    rw [if_neg h0]

theorem wwrite_c {v : Value} {l : List UInt8} {d : Nat} {w : World} (h : Bs w v l) (hd : depthN (nats l) = d) (hd0 : d ≠ 0) (hl : l.length ≤ 129) :
    Does pg F_weights_Write #[v] w (fun r w' => ∃ v', r = .tuple #[v', .int .i64 0] ∧ OSl w' w.heap.size 1 v' (wrB (nats l)).length ((byts (wrB (nats l))).map b2v) ∧ Ext w w' nob) := by
  refine weights_Write_does ?_
  obtain ⟨hall, hd11, hl2, hl256, hlast, hsum⟩ := depthN_ok hd hd0
  have hnl := nats_length l
  obtain ⟨b, off, c, rfl, hc, hcell⟩ := bsOpen h (by omega)
  unfold weights_Write weights_Write_p16 weights_Write_p15
  refine (depth_c h (by omega)).mono ?_
  rintro r w1 ⟨rfl, rfl⟩
  rw [hd]
  have n1 : ((d : Int) == 0) = false := beq_eq_false_iff_ne.2 (by omega)
  have d1 : decide ((129 : Int) < (l.length : Int)) = false := by simp; omega
  have e1 : (l.length : Int) - 1 = ((l.length - 1 : Nat) : Int) := by omega
  have e2 : (127 : Int) + ((l.length - 1 : Nat) : Int) = ((126 + l.length : Nat) : Int) := by omega
  have e8 : IntKind.u8.wrap ((126 + l.length : Nat) : Int) = ((126 + l.length : Nat) : Int) := w_u8 (by omega) (by omega)
  simp (disch := omega) only [Stp, Same, stepR_value, stepR_skip, r_add, r_sub, r_mul, r_quo, r_rem, r_and, r_or, r_xor, r_andNot, r_shl, r_shr, r_eql, r_neq, r_lss, r_leq, r_gtr, r_geq, r_neg, r_cpl, r_not, r_pick, r_min, r_max, r_nil, x20, x21, x30, x31, x32, x40, x41, x42, x43, ldC_some, Result.ok.injEq, Next.value.injEq, true_and, and_true, w_i64, w_u64, w_i32, w_u32, w_u16, w_u8, Int.toNat_natCast, isB_tt, isB_tf, isB_ft, isB_ff, Gd_true, Gd_false, Gs_true, Gs_false, Cnd_true, Cnd_false, if_true, if_false, Bool.false_eq_true, Nat.zero_add, Option.isNone_some, Option.isNone_none, Bool.not_true, Bool.not_false, List.getElem?_cons_succ, List.getElem?_cons_zero, ln_sl_uint8, cv_int_uint, cv_int_uint8, ln_string, ia_sl_uint8, ld_uint8, cv_uint8_int, bd_weights_Code_0_1, ia_sl_weights_Code, bd_lightermanref08_C_, ix_string, bd_lightermanref08_C_0_1, ia_sl_lightermanref08_C, sl_sl_uint8_lo, sl_sl_uint8_hi, ln_sl_uint32, ia_sl_uint32, ld_uint32, cv_uint32_uint64, sl_sl_uint32_hi, ln_sl_int, ia_sl_int, ld_int, cv_uint_uint32, seql_sl_uint8, cv_uint32_uint8, cv_uint64_uint8, n1, d1, e1, e2, e8]
  refine bs_sl_uint8 (cells := #[.int .u8 (126 + l.length : Nat)]) (by decide) (by decide) (by kernel_rfl) fun w2 o2 x2 s2 => ?_
  obtain ⟨m, hm⟩ : ∃ m, m = (nats l).take (l.length - 1) := ⟨_, rfl⟩
  have hml : m.length = l.length - 1 := by rw [hm, List.length_take, hnl]; omega
  have hmg : ∀ i, i < l.length - 1 → m.getD i 0 = (nats l).getD i 0 := fun i hi => by
    rw [hm, List.getD_eq_getElem?_getD, List.getD_eq_getElem?_getD, List.getElem?_take_of_lt hi]
  have hm11 : ∀ x ∈ m, x ≤ 11 := fun x hx => by rw [hm] at hx; have := hall x (List.mem_of_mem_take hx); omega
  have hm16 : ∀ x ∈ m, x < 16 := fun x hx => by have := hm11 x hx; omega
  have hwr : wrB (nats l) = (126 + l.length) :: packN m := by unfold wrB; rw [hnl, hm]
  have hpl := packN_length m
  have ho2 : OSl w2 w1.heap.size 1 (.slice (some ⟨w1.heap.size, 0, none⟩) 1 1) (0 + 1) ((byts ((126 + l.length) :: (packN m).take 0)).map b2v) := by
    refine ⟨by simp, .inr ⟨_, 1, [], rfl, Nat.le_refl _, ?_, rfl, Nat.le_refl _⟩⟩
    simp only [byts, List.take_zero, List.map_cons, List.map_nil, b2v_of (show 126 + l.length < 256 by omega), List.append_nil]
    exact o2
  unfold weights_Write_p14 weights_Write_p13 weights_Write_p12 weights_Write_p11 weights_Write_p10
  refine LoopD.rule (fun q (t : Value × Value) w' => ∃ (j : Nat) (v' : Value), q = l.length - 1 + 1 - j ∧ t = (v', .int .i64 (2 * j : Nat)) ∧ j ≤ (m.length + 1) / 2 ∧ OSl w' w1.heap.size 1 v' (j + 1) ((byts ((126 + l.length) :: (packN m).take j)).map b2v) ∧ Ext w1 w' nob) (l.length - 1 + 1)
    ⟨0, _, rfl, rfl, by omega, ho2, x2⟩ ?_
  rintro q t w3 ⟨j, v', rfl, rfl, hj, o3, x3⟩
  have z3 := x3.size
  unfold weights_Write_p9 weights_Write_p8
  by_cases hlt : 2 * j < l.length - 1
  · have d2 : decide (((2 * j : Nat) : Int) < ((l.length - 1 : Nat) : Int)) = true := by simp only [decide_eq_true_eq]; omega
    obtain ⟨_, _, _, he, _, hcell3⟩ := bsOpen (h.ext x3 (inB_nob _)) (by omega)
    cases he
    have g1 := hcell3 (2 * j) (by omega)
    have hg1 := natsD (l := l) (i := 2 * j) (by omega)
    rw [← hg1, ← hmg (2 * j) hlt] at g1
    have hs1 := take_snocD (ns := packN m) (i := j) (by omega)
    rw [packN_get (by omega)] at hs1
    have hx11 : m.getD (2 * j) 0 ≤ 11 := hm11 _ (getD_mem (by omega))
    have hy11 := getD_lt hm16 (2 * j + 1)
    have e3 : ((2 * j : Nat) : Int) + 1 = ((2 * j + 1 : Nat) : Int) := by omega
    have hcells : ∀ z : Nat, z = m.getD (2 * j) 0 * 16 + m.getD (2 * j + 1) 0 → z < 256 → ((byts ((126 + l.length) :: (packN m).take j)).map b2v ++ [.int .u8 z]) = (byts ((126 + l.length) :: (packN m).take (j + 1))).map b2v := fun z hz hz2 => by
      rw [hs1, ← hz]
      simp only [byts, List.map_append, List.map_cons, List.map_nil, b2v_of hz2, List.cons_append]
    have hodd : ¬ 2 * j + 1 < l.length - 1 → m.getD (2 * j + 1) 0 = 0 := fun h => by
      rw [List.getD_eq_getElem?_getD, List.getElem?_eq_none (by omega)]; rfl
    have g2 : 2 * j + 1 < l.length - 1 → w3.cell? ⟨b, off + (2 * j + 1), none⟩ = some (.int .u8 (m.getD (2 * j + 1) 0 : Nat)) := fun h => by
      have := hcell3 (2 * j + 1) (by omega)
      rw [← natsD (l := l) (i := 2 * j + 1) (by omega), ← hmg (2 * j + 1) h] at this
      exact this
    generalize m.getD (2 * j) 0 = x at *
    generalize m.getD (2 * j + 1) 0 = y at *
    have t4 : (4 : Int).toNat = 4 := rfl
    have e4 : IntKind.u8.wrap ((x : Int) * 2 ^ (min 4 IntKind.u8.bits)) = ((x * 16 : Nat) : Int) := by
      rw [show min 4 IntKind.u8.bits = 4 from rfl]
      have : (x : Int) * 2 ^ 4 = ((x * 16 : Nat) : Int) := by omega
      rw [this]
      exact w_u8 (by omega) (by omega)
    unfold weights_Write_p7 weights_Write_p6 weights_Write_p5 weights_Write_p4
    by_cases h2 : 2 * j + 1 < l.length - 1
    · have d3 : decide (((2 * j + 1 : Nat) : Int) < ((l.length - 1 : Nat) : Int)) = true := by simp only [decide_eq_true_eq]; omega
      have g2 := g2 h2
      have e5 := orI_nat8 (a := x * 16) (b := y) (by omega) (by omega)
      have e6 : x * 16 ||| y = x * 16 + y := by
        rw [Nat.or_comm]
        have := or_low (x := y) (i := 4) (by omega) x
        rw [show x * 2 ^ 4 = x * 16 from rfl] at this
        rw [this]; omega
      rw [e6] at e5
      simp (disch := omega) only [Stp, Same, stepR_value, stepR_skip, r_add, r_sub, r_mul, r_quo, r_rem, r_and, r_or, r_xor, r_andNot, r_shl, r_shr, r_eql, r_neq, r_lss, r_leq, r_gtr, r_geq, r_neg, r_cpl, r_not, r_pick, r_min, r_max, r_nil, x20, x21, x30, x31, x32, x40, x41, x42, x43, ldC_some, Result.ok.injEq, Next.value.injEq, true_and, and_true, w_i64, w_u64, w_i32, w_u32, w_u16, w_u8, Int.toNat_natCast, isB_tt, isB_tf, isB_ft, isB_ff, Gd_true, Gd_false, Gs_true, Gs_false, Cnd_true, Cnd_false, if_true, if_false, Bool.false_eq_true, Nat.zero_add, Option.isNone_some, Option.isNone_none, Bool.not_true, Bool.not_false, List.getElem?_cons_succ, List.getElem?_cons_zero, ln_sl_uint8, cv_int_uint, cv_int_uint8, ln_string, ia_sl_uint8, ld_uint8, cv_uint8_int, bd_weights_Code_0_1, ia_sl_weights_Code, bd_lightermanref08_C_, ix_string, bd_lightermanref08_C_0_1, ia_sl_lightermanref08_C, sl_sl_uint8_lo, sl_sl_uint8_hi, ln_sl_uint32, ia_sl_uint32, ld_uint32, cv_uint32_uint64, sl_sl_uint32_hi, ln_sl_int, ia_sl_int, ld_int, cv_uint_uint32, seql_sl_uint8, cv_uint32_uint8, cv_uint64_uint8, d2, g1, t4, e4, e3, d3, g2, e5]
      refine write_push (x := x * 16 + y) o3 (by omega) (by omega) (by omega) fun v4 w4 o4 x4 => ?_
      rw [hcells _ rfl (by omega)] at o4
      unfold weights_Write_p2
      have e7 : ((2 * j : Nat) : Int) + 2 = ((2 * (j + 1) : Nat) : Int) := by omega
      simp (disch := omega) only [Stp, Same, stepR_value, stepR_skip, r_add, r_sub, r_mul, r_quo, r_rem, r_and, r_or, r_xor, r_andNot, r_shl, r_shr, r_eql, r_neq, r_lss, r_leq, r_gtr, r_geq, r_neg, r_cpl, r_not, r_pick, r_min, r_max, r_nil, x20, x21, x30, x31, x32, x40, x41, x42, x43, ldC_some, Result.ok.injEq, Next.value.injEq, true_and, and_true, w_i64, w_u64, w_i32, w_u32, w_u16, w_u8, Int.toNat_natCast, isB_tt, isB_tf, isB_ft, isB_ff, Gd_true, Gd_false, Gs_true, Gs_false, Cnd_true, Cnd_false, if_true, if_false, Bool.false_eq_true, Nat.zero_add, Option.isNone_some, Option.isNone_none, Bool.not_true, Bool.not_false, List.getElem?_cons_succ, List.getElem?_cons_zero, ln_sl_uint8, cv_int_uint, cv_int_uint8, ln_string, ia_sl_uint8, ld_uint8, cv_uint8_int, bd_weights_Code_0_1, ia_sl_weights_Code, bd_lightermanref08_C_, ix_string, bd_lightermanref08_C_0_1, ia_sl_lightermanref08_C, sl_sl_uint8_lo, sl_sl_uint8_hi, ln_sl_uint32, ia_sl_uint32, ld_uint32, cv_uint32_uint64, sl_sl_uint32_hi, ln_sl_int, ia_sl_int, ld_int, cv_uint_uint32, seql_sl_uint8, cv_uint32_uint8, cv_uint64_uint8, e7]
      exact ⟨l.length - 1 + 1 - (j + 1), by omega, j + 1, _, rfl, rfl, by omega, o4, x3.trans x4 fun b hb h => by omega⟩
    · have d3 : decide (((2 * j + 1 : Nat) : Int) < ((l.length - 1 : Nat) : Int)) = false := by simp only [decide_eq_false_iff_not]; omega
      have hy0 := hodd h2
      simp (disch := omega) only [Stp, Same, stepR_value, stepR_skip, r_add, r_sub, r_mul, r_quo, r_rem, r_and, r_or, r_xor, r_andNot, r_shl, r_shr, r_eql, r_neq, r_lss, r_leq, r_gtr, r_geq, r_neg, r_cpl, r_not, r_pick, r_min, r_max, r_nil, x20, x21, x30, x31, x32, x40, x41, x42, x43, ldC_some, Result.ok.injEq, Next.value.injEq, true_and, and_true, w_i64, w_u64, w_i32, w_u32, w_u16, w_u8, Int.toNat_natCast, isB_tt, isB_tf, isB_ft, isB_ff, Gd_true, Gd_false, Gs_true, Gs_false, Cnd_true, Cnd_false, if_true, if_false, Bool.false_eq_true, Nat.zero_add, Option.isNone_some, Option.isNone_none, Bool.not_true, Bool.not_false, List.getElem?_cons_succ, List.getElem?_cons_zero, ln_sl_uint8, cv_int_uint, cv_int_uint8, ln_string, ia_sl_uint8, ld_uint8, cv_uint8_int, bd_weights_Code_0_1, ia_sl_weights_Code, bd_lightermanref08_C_, ix_string, bd_lightermanref08_C_0_1, ia_sl_lightermanref08_C, sl_sl_uint8_lo, sl_sl_uint8_hi, ln_sl_uint32, ia_sl_uint32, ld_uint32, cv_uint32_uint64, sl_sl_uint32_hi, ln_sl_int, ia_sl_int, ld_int, cv_uint_uint32, seql_sl_uint8, cv_uint32_uint8, cv_uint64_uint8, d2, g1, t4, e4, e3, d3]
      refine write_push (x := x * 16) o3 (by omega) (by omega) (by omega) fun v4 w4 o4 x4 => ?_
      rw [hcells _ (by omega) (by omega)] at o4
      unfold weights_Write_p2
      have e7 : ((2 * j : Nat) : Int) + 2 = ((2 * (j + 1) : Nat) : Int) := by omega
      simp (disch := omega) only [Stp, Same, stepR_value, stepR_skip, r_add, r_sub, r_mul, r_quo, r_rem, r_and, r_or, r_xor, r_andNot, r_shl, r_shr, r_eql, r_neq, r_lss, r_leq, r_gtr, r_geq, r_neg, r_cpl, r_not, r_pick, r_min, r_max, r_nil, x20, x21, x30, x31, x32, x40, x41, x42, x43, ldC_some, Result.ok.injEq, Next.value.injEq, true_and, and_true, w_i64, w_u64, w_i32, w_u32, w_u16, w_u8, Int.toNat_natCast, isB_tt, isB_tf, isB_ft, isB_ff, Gd_true, Gd_false, Gs_true, Gs_false, Cnd_true, Cnd_false, if_true, if_false, Bool.false_eq_true, Nat.zero_add, Option.isNone_some, Option.isNone_none, Bool.not_true, Bool.not_false, List.getElem?_cons_succ, List.getElem?_cons_zero, ln_sl_uint8, cv_int_uint, cv_int_uint8, ln_string, ia_sl_uint8, ld_uint8, cv_uint8_int, bd_weights_Code_0_1, ia_sl_weights_Code, bd_lightermanref08_C_, ix_string, bd_lightermanref08_C_0_1, ia_sl_lightermanref08_C, sl_sl_uint8_lo, sl_sl_uint8_hi, ln_sl_uint32, ia_sl_uint32, ld_uint32, cv_uint32_uint64, sl_sl_uint32_hi, ln_sl_int, ia_sl_int, ld_int, cv_uint_uint32, seql_sl_uint8, cv_uint32_uint8, cv_uint64_uint8, e7]
      exact ⟨l.length - 1 + 1 - (j + 1), by omega, j + 1, _, rfl, rfl, by omega, o4, x3.trans x4 fun b hb h => by omega⟩
  · have d2 : decide (((2 * j : Nat) : Int) < ((l.length - 1 : Nat) : Int)) = false := by simp only [decide_eq_false_iff_not]; omega
    have hjE : j = (packN m).length := by omega
    rw [List.take_of_length_le (by omega), ← hwr] at o3
    have hwl : (wrB (nats l)).length = j + 1 := by rw [hwr, List.length_cons]; omega
    unfold weights_Write_p1
    simp (disch := omega) only [Stp, Same, stepR_value, stepR_skip, r_add, r_sub, r_mul, r_quo, r_rem, r_and, r_or, r_xor, r_andNot, r_shl, r_shr, r_eql, r_neq, r_lss, r_leq, r_gtr, r_geq, r_neg, r_cpl, r_not, r_pick, r_min, r_max, r_nil, x20, x21, x30, x31, x32, x40, x41, x42, x43, ldC_some, Result.ok.injEq, Next.value.injEq, true_and, and_true, w_i64, w_u64, w_i32, w_u32, w_u16, w_u8, Int.toNat_natCast, isB_tt, isB_tf, isB_ft, isB_ff, Gd_true, Gd_false, Gs_true, Gs_false, Cnd_true, Cnd_false, if_true, if_false, Bool.false_eq_true, Nat.zero_add, Option.isNone_some, Option.isNone_none, Bool.not_true, Bool.not_false, List.getElem?_cons_succ, List.getElem?_cons_zero, ln_sl_uint8, cv_int_uint, cv_int_uint8, ln_string, ia_sl_uint8, ld_uint8, cv_uint8_int, bd_weights_Code_0_1, ia_sl_weights_Code, bd_lightermanref08_C_, ix_string, bd_lightermanref08_C_0_1, ia_sl_lightermanref08_C, sl_sl_uint8_lo, sl_sl_uint8_hi, ln_sl_uint32, ia_sl_uint32, ld_uint32, cv_uint32_uint64, sl_sl_uint32_hi, ln_sl_int, ia_sl_int, ld_int, cv_uint_uint32, seql_sl_uint8, cv_uint32_uint8, cv_uint64_uint8, d2]
    exact ⟨v', rfl, by rw [hwl]; exact o3, x3⟩
end Go.Proofs.Ytoepfjgekpdddaa
/- Texts that are compared. -/
namespace Go.Proofs.Ytoepfjgekpdddaa
open Go Go.En Go.Pu
set_option linter.unusedSimpArgs false
set_option linter.unusedVariables false

theorem emp_yes : ((⟨#[]⟩ : ByteArray).toList == (⟨#[]⟩ : ByteArray).toList) = true := by simp
theorem emp_no {x : ByteArray} (h : 0 < x.size) : (x.toList == (⟨#[]⟩ : ByteArray).toList) = false := by
  rw [ByteArray.toList_eq, ByteArray.toList_eq]
  have hl := lst_length x
  unfold lst at hl
  cases hx : x.data.toList with
  | nil => rw [hx] at hl; simp at hl; omega
  | cons a l => rfl

theorem str_same (x : ByteArray) : (x.toList == x.toList) = true := by simp
end Go.Proofs.Ytoepfjgekpdddaa
/- Contracts: the reference: what weights are worth, how deep their codes are, the last weight. -/
namespace Go.Proofs.Ytoepfjgekpdddaa
open Go Go.En Go.Pu
set_option maxRecDepth 4000
set_option linter.unusedSimpArgs false
set_option linter.unusedVariables false

theorem lst_size (x : ByteArray) : (nats (lst x)).length = x.size := by rw [nats_length, lst_length]
theorem lst_nat {x : ByteArray} {i : Nat} (h : i < x.size) : (x[i]'h).toNat = (nats (lst x)).getD i 0 := by
  rw [natsD (by rw [lst_length]; exact h), ← lst_get]

theorem refWorth_c {x : ByteArray} {w : World} (hl : x.size ≤ 100000) :
    Does pg F_ref08_Worth #[.string x] w (fun r w' => r = .int .i64 (if allLe 11 (nats (lst x)) = true then (worthN (nats (lst x)) : Nat) else -1) ∧ w' = w) := by
  refine ref08_Worth_does ?_
  have hsz := lst_size x
  obtain ⟨l, hlx⟩ : ∃ l, nats (lst x) = l := ⟨_, rfl⟩
  rw [hlx] at hsz ⊢
  unfold ref08_Worth ref08_Worth_p11 ref08_Worth_p10 ref08_Worth_p9 ref08_Worth_p8 ref08_Worth_p7 ref08_Worth_p6 ref08_Worth_p5
  refine LoopD.rule (fun m (t : Value × Value) w' => ∃ i : Nat, m = x.size - i ∧ t = (.int .i64 (worthN (l.take i) : Nat), .int .i64 i) ∧ i ≤ x.size ∧ allLe 11 (l.take i) = true ∧ w' = w) x.size
    ⟨0, rfl, by simp [worthN], by omega, by simp [allLe], rfl⟩ ?_
  rintro m t w1 ⟨i, rfl, rfl, hi, hle, rfl⟩
  unfold ref08_Worth_p4 ref08_Worth_p3
  by_cases hlt : i < x.size
  · have d1 : decide ((i : Int) < (x.size : Int)) = true := by simp; omega
    have hg := lst_nat hlt
    rw [hlx] at hg
    have ht := take_snocD (ns := l) (i := i) (by omega)
    have hwl := worthN_le (allLe_iff.1 hle)
    rw [List.length_take] at hwl
    have hsn : allLe 11 (l.take (i + 1)) = (allLe 11 (l.take i) && decide (l.getD i 0 ≤ 11)) := by rw [ht, allLe_snoc]
    have hwn : worthN (l.take (i + 1)) = worthN (l.take i) + wPow (l.getD i 0) := by rw [ht, worthN_append, worthN_cons]; rfl
    have hbad : allLe 11 (l.take (i + 1)) = false → allLe 11 l = false := allLe_take
    have hy : l.getD i 0 < 256 := by rw [← hlx]; exact nats_lt _ _ (getD_mem (by rw [lst_size]; exact hlt))
    generalize l.getD i 0 = y at *
    unfold ref08_Worth_p2
    by_cases h11 : 11 < y
    · have d2 : decide ((11 : Int) < (y : Int)) = true := by simp; omega
      have hf := hbad (by rw [hsn, hle, decide_eq_false (by omega)]; rfl)
      simp (disch := omega) only [Stp, Same, stepR_value, stepR_skip, r_add, r_sub, r_mul, r_quo, r_rem, r_and, r_or, r_xor, r_andNot, r_shl, r_shr, r_eql, r_neq, r_lss, r_leq, r_gtr, r_geq, r_neg, r_cpl, r_not, r_pick, r_min, r_max, r_nil, x20, x21, x30, x31, x32, x40, x41, x42, x43, ldC_some, Result.ok.injEq, Next.value.injEq, true_and, and_true, w_i64, w_u64, w_i32, w_u32, w_u16, w_u8, Int.toNat_natCast, isB_tt, isB_tf, isB_ft, isB_ff, Gd_true, Gd_false, Gs_true, Gs_false, Cnd_true, Cnd_false, if_true, if_false, Bool.false_eq_true, Nat.zero_add, Option.isNone_some, Option.isNone_none, Bool.not_true, Bool.not_false, List.getElem?_cons_succ, List.getElem?_cons_zero, ln_sl_uint8, cv_int_uint, cv_int_uint8, ln_string, ia_sl_uint8, ld_uint8, cv_uint8_int, bd_weights_Code_0_1, ia_sl_weights_Code, bd_lightermanref08_C_, ix_string, bd_lightermanref08_C_0_1, ia_sl_lightermanref08_C, sl_sl_uint8_lo, sl_sl_uint8_hi, ln_sl_uint32, ia_sl_uint32, ld_uint32, cv_uint32_uint64, sl_sl_uint32_hi, ln_sl_int, ia_sl_int, ld_int, cv_uint_uint32, seql_sl_uint8, cv_uint32_uint8, cv_uint64_uint8, d1, hg, d2]
      rw [hf]; simp
    · have d2 : decide ((11 : Int) < (y : Int)) = false := by simp; omega
      have hle1 : allLe 11 (l.take (i + 1)) = true := by rw [hsn, hle, decide_eq_true (by omega)]; rfl
      have hwp := wPow_le (w := y) (by omega)
      by_cases h0 : 0 < y
      · have d3 : decide ((0 : Int) < (y : Int)) = true := by simp; omega
        have e1 : (y : Int) - 1 = ((y - 1 : Nat) : Int) := by omega
        have hpw : wPow y = 2 ^ (y - 1) := by unfold wPow; rw [if_neg (by omega)]
        have hpow : ((2 ^ (y - 1) : Nat) : Int) = (2 : Int) ^ (y - 1) := by simp
        have e2 : ((worthN (l.take i) : Nat) : Int) + ((2 ^ (y - 1) : Nat) : Int) = ((worthN (l.take i) + 2 ^ (y - 1) : Nat) : Int) := by omega
        rw [hpw] at hwp hwn
        simp (disch := omega) only [Stp, Same, stepR_value, stepR_skip, r_add, r_sub, r_mul, r_quo, r_rem, r_and, r_or, r_xor, r_andNot, r_shl, r_shr, r_eql, r_neq, r_lss, r_leq, r_gtr, r_geq, r_neg, r_cpl, r_not, r_pick, r_min, r_max, r_nil, x20, x21, x30, x31, x32, x40, x41, x42, x43, ldC_some, Result.ok.injEq, Next.value.injEq, true_and, and_true, w_i64, w_u64, w_i32, w_u32, w_u16, w_u8, Int.toNat_natCast, isB_tt, isB_tf, isB_ft, isB_ff, Gd_true, Gd_false, Gs_true, Gs_false, Cnd_true, Cnd_false, if_true, if_false, Bool.false_eq_true, Nat.zero_add, Option.isNone_some, Option.isNone_none, Bool.not_true, Bool.not_false, List.getElem?_cons_succ, List.getElem?_cons_zero, ln_sl_uint8, cv_int_uint, cv_int_uint8, ln_string, ia_sl_uint8, ld_uint8, cv_uint8_int, bd_weights_Code_0_1, ia_sl_weights_Code, bd_lightermanref08_C_, ix_string, bd_lightermanref08_C_0_1, ia_sl_lightermanref08_C, sl_sl_uint8_lo, sl_sl_uint8_hi, ln_sl_uint32, ia_sl_uint32, ld_uint32, cv_uint32_uint64, sl_sl_uint32_hi, ln_sl_int, ia_sl_int, ld_int, cv_uint_uint32, seql_sl_uint8, cv_uint32_uint8, cv_uint64_uint8, d1, hg, d2, d3, e1]
        refine (power_c (y - 1) (by omega) w1).mono ?_
        rintro r w2 ⟨rfl, rfl⟩
        rw [← hpow]
        simp (disch := omega) only [Stp, Same, stepR_value, stepR_skip, r_add, r_sub, r_mul, r_quo, r_rem, r_and, r_or, r_xor, r_andNot, r_shl, r_shr, r_eql, r_neq, r_lss, r_leq, r_gtr, r_geq, r_neg, r_cpl, r_not, r_pick, r_min, r_max, r_nil, x20, x21, x30, x31, x32, x40, x41, x42, x43, ldC_some, Result.ok.injEq, Next.value.injEq, true_and, and_true, w_i64, w_u64, w_i32, w_u32, w_u16, w_u8, Int.toNat_natCast, isB_tt, isB_tf, isB_ft, isB_ff, Gd_true, Gd_false, Gs_true, Gs_false, Cnd_true, Cnd_false, if_true, if_false, Bool.false_eq_true, Nat.zero_add, Option.isNone_some, Option.isNone_none, Bool.not_true, Bool.not_false, List.getElem?_cons_succ, List.getElem?_cons_zero, ln_sl_uint8, cv_int_uint, cv_int_uint8, ln_string, ia_sl_uint8, ld_uint8, cv_uint8_int, bd_weights_Code_0_1, ia_sl_weights_Code, bd_lightermanref08_C_, ix_string, bd_lightermanref08_C_0_1, ia_sl_lightermanref08_C, sl_sl_uint8_lo, sl_sl_uint8_hi, ln_sl_uint32, ia_sl_uint32, ld_uint32, cv_uint32_uint64, sl_sl_uint32_hi, ln_sl_int, ia_sl_int, ld_int, cv_uint_uint32, seql_sl_uint8, cv_uint32_uint8, cv_uint64_uint8, e2]
        exact ⟨x.size - (i + 1), by omega, i + 1, rfl, by rw [hwn]; rfl, by omega, hle1⟩
      · have d3 : decide ((0 : Int) < (y : Int)) = false := by simp; omega
        have hpw : wPow y = 0 := by unfold wPow; rw [if_pos (by omega)]
        simp (disch := omega) only [Stp, Same, stepR_value, stepR_skip, r_add, r_sub, r_mul, r_quo, r_rem, r_and, r_or, r_xor, r_andNot, r_shl, r_shr, r_eql, r_neq, r_lss, r_leq, r_gtr, r_geq, r_neg, r_cpl, r_not, r_pick, r_min, r_max, r_nil, x20, x21, x30, x31, x32, x40, x41, x42, x43, ldC_some, Result.ok.injEq, Next.value.injEq, true_and, and_true, w_i64, w_u64, w_i32, w_u32, w_u16, w_u8, Int.toNat_natCast, isB_tt, isB_tf, isB_ft, isB_ff, Gd_true, Gd_false, Gs_true, Gs_false, Cnd_true, Cnd_false, if_true, if_false, Bool.false_eq_true, Nat.zero_add, Option.isNone_some, Option.isNone_none, Bool.not_true, Bool.not_false, List.getElem?_cons_succ, List.getElem?_cons_zero, ln_sl_uint8, cv_int_uint, cv_int_uint8, ln_string, ia_sl_uint8, ld_uint8, cv_uint8_int, bd_weights_Code_0_1, ia_sl_weights_Code, bd_lightermanref08_C_, ix_string, bd_lightermanref08_C_0_1, ia_sl_lightermanref08_C, sl_sl_uint8_lo, sl_sl_uint8_hi, ln_sl_uint32, ia_sl_uint32, ld_uint32, cv_uint32_uint64, sl_sl_uint32_hi, ln_sl_int, ia_sl_int, ld_int, cv_uint_uint32, seql_sl_uint8, cv_uint32_uint8, cv_uint64_uint8, d1, hg, d2, d3]
        exact ⟨x.size - (i + 1), by omega, i + 1, rfl, by rw [hwn, hpw]; rfl, by omega, hle1⟩
  · have d1 : decide ((i : Int) < (x.size : Int)) = false := by simp; omega
    obtain rfl : i = x.size := by omega
    rw [List.take_of_length_le (by omega)] at *
    unfold ref08_Worth_p1
    simp (disch := omega) only [Stp, Same, stepR_value, stepR_skip, r_add, r_sub, r_mul, r_quo, r_rem, r_and, r_or, r_xor, r_andNot, r_shl, r_shr, r_eql, r_neq, r_lss, r_leq, r_gtr, r_geq, r_neg, r_cpl, r_not, r_pick, r_min, r_max, r_nil, x20, x21, x30, x31, x32, x40, x41, x42, x43, ldC_some, Result.ok.injEq, Next.value.injEq, true_and, and_true, w_i64, w_u64, w_i32, w_u32, w_u16, w_u8, Int.toNat_natCast, isB_tt, isB_tf, isB_ft, isB_ff, Gd_true, Gd_false, Gs_true, Gs_false, Cnd_true, Cnd_false, if_true, if_false, Bool.false_eq_true, Nat.zero_add, Option.isNone_some, Option.isNone_none, Bool.not_true, Bool.not_false, List.getElem?_cons_succ, List.getElem?_cons_zero, ln_sl_uint8, cv_int_uint, cv_int_uint8, ln_string, ia_sl_uint8, ld_uint8, cv_uint8_int, bd_weights_Code_0_1, ia_sl_weights_Code, bd_lightermanref08_C_, ix_string, bd_lightermanref08_C_0_1, ia_sl_lightermanref08_C, sl_sl_uint8_lo, sl_sl_uint8_hi, ln_sl_uint32, ia_sl_uint32, ld_uint32, cv_uint32_uint64, sl_sl_uint32_hi, ln_sl_int, ia_sl_int, ld_int, cv_uint_uint32, seql_sl_uint8, cv_uint32_uint8, cv_uint64_uint8, d1]
    rw [hle]; simp

theorem refLog_c (x : Int) (w : World) : Does pg F_ref08_log #[.int .i64 x] w (fun r w' => ((∃ d : Nat, d < 20 ∧ x = (2 : Int) ^ d ∧ r = .int .i64 d) ∨ ((∀ d : Nat, d < 20 → x ≠ (2 : Int) ^ d) ∧ r = .int .i64 (-1))) ∧ w' = w) := by
  refine ref08_log_does ?_
  unfold ref08_log ref08_log_p9 ref08_log_p8 ref08_log_p7 ref08_log_p6 ref08_log_p5 ref08_log_p4 ref08_log_p3
  refine LoopD.rule (fun m (t : Value) w' => ∃ d : Nat, m = 20 - d ∧ t = .int .i64 d ∧ d ≤ 20 ∧ (∀ e : Nat, e < d → x ≠ (2 : Int) ^ e) ∧ w' = w) 20 ⟨0, rfl, rfl, by omega, fun e h => by omega, rfl⟩ ?_
  rintro m t w1 ⟨d, rfl, rfl, hd, hno, rfl⟩
  unfold ref08_log_p2
  by_cases hlt : d < 20
  · have d1 : decide ((d : Int) < 20) = true := by simp; omega
    simp (disch := omega) only [Stp, Same, stepR_value, stepR_skip, r_add, r_sub, r_mul, r_quo, r_rem, r_and, r_or, r_xor, r_andNot, r_shl, r_shr, r_eql, r_neq, r_lss, r_leq, r_gtr, r_geq, r_neg, r_cpl, r_not, r_pick, r_min, r_max, r_nil, x20, x21, x30, x31, x32, x40, x41, x42, x43, ldC_some, Result.ok.injEq, Next.value.injEq, true_and, and_true, w_i64, w_u64, w_i32, w_u32, w_u16, w_u8, Int.toNat_natCast, isB_tt, isB_tf, isB_ft, isB_ff, Gd_true, Gd_false, Gs_true, Gs_false, Cnd_true, Cnd_false, if_true, if_false, Bool.false_eq_true, Nat.zero_add, Option.isNone_some, Option.isNone_none, Bool.not_true, Bool.not_false, List.getElem?_cons_succ, List.getElem?_cons_zero, ln_sl_uint8, cv_int_uint, cv_int_uint8, ln_string, ia_sl_uint8, ld_uint8, cv_uint8_int, bd_weights_Code_0_1, ia_sl_weights_Code, bd_lightermanref08_C_, ix_string, bd_lightermanref08_C_0_1, ia_sl_lightermanref08_C, sl_sl_uint8_lo, sl_sl_uint8_hi, ln_sl_uint32, ia_sl_uint32, ld_uint32, cv_uint32_uint64, sl_sl_uint32_hi, ln_sl_int, ia_sl_int, ld_int, cv_uint_uint32, seql_sl_uint8, cv_uint32_uint8, cv_uint64_uint8, d1]
    refine (power_c d (by omega) w1).mono ?_
    rintro r w2 ⟨rfl, rfl⟩
    by_cases he : (2 : Int) ^ d = x
    · have d2 : ((2 : Int) ^ d == x) = true := by simpa using he
      simp (disch := omega) only [Stp, Same, stepR_value, stepR_skip, r_add, r_sub, r_mul, r_quo, r_rem, r_and, r_or, r_xor, r_andNot, r_shl, r_shr, r_eql, r_neq, r_lss, r_leq, r_gtr, r_geq, r_neg, r_cpl, r_not, r_pick, r_min, r_max, r_nil, x20, x21, x30, x31, x32, x40, x41, x42, x43, ldC_some, Result.ok.injEq, Next.value.injEq, true_and, and_true, w_i64, w_u64, w_i32, w_u32, w_u16, w_u8, Int.toNat_natCast, isB_tt, isB_tf, isB_ft, isB_ff, Gd_true, Gd_false, Gs_true, Gs_false, Cnd_true, Cnd_false, if_true, if_false, Bool.false_eq_true, Nat.zero_add, Option.isNone_some, Option.isNone_none, Bool.not_true, Bool.not_false, List.getElem?_cons_succ, List.getElem?_cons_zero, ln_sl_uint8, cv_int_uint, cv_int_uint8, ln_string, ia_sl_uint8, ld_uint8, cv_uint8_int, bd_weights_Code_0_1, ia_sl_weights_Code, bd_lightermanref08_C_, ix_string, bd_lightermanref08_C_0_1, ia_sl_lightermanref08_C, sl_sl_uint8_lo, sl_sl_uint8_hi, ln_sl_uint32, ia_sl_uint32, ld_uint32, cv_uint32_uint64, sl_sl_uint32_hi, ln_sl_int, ia_sl_int, ld_int, cv_uint_uint32, seql_sl_uint8, cv_uint32_uint8, cv_uint64_uint8, d2]
      exact .inl ⟨d, hlt, he.symm, rfl⟩
    · have d2 : ((2 : Int) ^ d == x) = false := by simpa using he
      simp (disch := omega) only [Stp, Same, stepR_value, stepR_skip, r_add, r_sub, r_mul, r_quo, r_rem, r_and, r_or, r_xor, r_andNot, r_shl, r_shr, r_eql, r_neq, r_lss, r_leq, r_gtr, r_geq, r_neg, r_cpl, r_not, r_pick, r_min, r_max, r_nil, x20, x21, x30, x31, x32, x40, x41, x42, x43, ldC_some, Result.ok.injEq, Next.value.injEq, true_and, and_true, w_i64, w_u64, w_i32, w_u32, w_u16, w_u8, Int.toNat_natCast, isB_tt, isB_tf, isB_ft, isB_ff, Gd_true, Gd_false, Gs_true, Gs_false, Cnd_true, Cnd_false, if_true, if_false, Bool.false_eq_true, Nat.zero_add, Option.isNone_some, Option.isNone_none, Bool.not_true, Bool.not_false, List.getElem?_cons_succ, List.getElem?_cons_zero, ln_sl_uint8, cv_int_uint, cv_int_uint8, ln_string, ia_sl_uint8, ld_uint8, cv_uint8_int, bd_weights_Code_0_1, ia_sl_weights_Code, bd_lightermanref08_C_, ix_string, bd_lightermanref08_C_0_1, ia_sl_lightermanref08_C, sl_sl_uint8_lo, sl_sl_uint8_hi, ln_sl_uint32, ia_sl_uint32, ld_uint32, cv_uint32_uint64, sl_sl_uint32_hi, ln_sl_int, ia_sl_int, ld_int, cv_uint_uint32, seql_sl_uint8, cv_uint32_uint8, cv_uint64_uint8, d2]
      refine ⟨20 - (d + 1), by omega, d + 1, rfl, rfl, by omega, fun e h => ?_⟩
      rcases Nat.lt_or_ge e d with h' | h'
      · exact hno e h'
      · have : e = d := by omega
        subst this; exact fun h => he h.symm
  · have d1 : decide ((d : Int) < 20) = false := by simp; omega
    unfold ref08_log_p1
    simp (disch := omega) only [Stp, Same, stepR_value, stepR_skip, r_add, r_sub, r_mul, r_quo, r_rem, r_and, r_or, r_xor, r_andNot, r_shl, r_shr, r_eql, r_neq, r_lss, r_leq, r_gtr, r_geq, r_neg, r_cpl, r_not, r_pick, r_min, r_max, r_nil, x20, x21, x30, x31, x32, x40, x41, x42, x43, ldC_some, Result.ok.injEq, Next.value.injEq, true_and, and_true, w_i64, w_u64, w_i32, w_u32, w_u16, w_u8, Int.toNat_natCast, isB_tt, isB_tf, isB_ft, isB_ff, Gd_true, Gd_false, Gs_true, Gs_false, Cnd_true, Cnd_false, if_true, if_false, Bool.false_eq_true, Nat.zero_add, Option.isNone_some, Option.isNone_none, Bool.not_true, Bool.not_false, List.getElem?_cons_succ, List.getElem?_cons_zero, ln_sl_uint8, cv_int_uint, cv_int_uint8, ln_string, ia_sl_uint8, ld_uint8, cv_uint8_int, bd_weights_Code_0_1, ia_sl_weights_Code, bd_lightermanref08_C_, ix_string, bd_lightermanref08_C_0_1, ia_sl_lightermanref08_C, sl_sl_uint8_lo, sl_sl_uint8_hi, ln_sl_uint32, ia_sl_uint32, ld_uint32, cv_uint32_uint64, sl_sl_uint32_hi, ln_sl_int, ia_sl_int, ld_int, cv_uint_uint32, seql_sl_uint8, cv_uint32_uint8, cv_uint64_uint8, d1]
    exact .inr (fun e h => hno e (by omega))

/-- which power of 2 a number is -/
theorem log_nat {s : Nat} (h0 : 0 < s) (hs : s < 2 ^ 20) {r : Value} (h : (∃ d : Nat, d < 20 ∧ (s : Int) = (2 : Int) ^ d ∧ r = .int .i64 d) ∨ ((∀ d : Nat, d < 20 → (s : Int) ≠ (2 : Int) ^ d) ∧ r = .int .i64 (-1))) :
    (2 ^ s.log2 = s ∧ r = .int .i64 (s.log2 : Nat)) ∨ (2 ^ s.log2 ≠ s ∧ r = .int .i64 (-1)) := by
  rcases h with ⟨d, h1, h2, h3⟩ | ⟨h1, h2⟩
  · have : s = 2 ^ d := by
      have e : ((2 ^ d : Nat) : Int) = (2 : Int) ^ d := by simp
      omega
    subst this
    rw [Nat.log2_two_pow]
    exact .inl ⟨rfl, h3⟩
  · refine .inr ⟨fun he => ?_, h2⟩
    have hl : s.log2 < 20 := (Nat.log2_lt (by omega)).2 hs
    apply h1 _ hl
    have e : ((2 ^ s.log2 : Nat) : Int) = (2 : Int) ^ s.log2 := by simp
    rw [← e, he]

theorem refDepth_c {x : ByteArray} {w : World} (hl : x.size ≤ 100000) :
    Does pg F_ref08_Depth #[.string x] w (fun r w' => r = .int .i64 (depthN (nats (lst x)) : Nat) ∧ w' = w) := by
  refine ref08_Depth_does ?_
  have hsz := lst_size x
  obtain ⟨l, hlx⟩ : ∃ l, nats (lst x) = l := ⟨_, rfl⟩
  have hnl := hlx
  rw [hlx] at hsz ⊢
  have no : ¬ (allLe 11 l = true ∧ 2 ≤ l.length ∧ l.length ≤ 256 ∧ l.getLast? ≠ some 0 ∧ 2 ^ (worthN l).log2 = worthN l ∧ (worthN l).log2 ≤ 11 ∧ allLe (worthN l).log2 l = true) → depthN l = 0 := fun h => by
    unfold depthN; rw [if_neg h]
  unfold ref08_Depth ref08_Depth_p9 ref08_Depth_p8
  by_cases h2 : x.size < 2
  · have d2 : decide ((x.size : Int) < 2) = true := by simp; omega
    have := no (by omega)
    simp (disch := omega) only [Stp, Same, stepR_value, stepR_skip, r_add, r_sub, r_mul, r_quo, r_rem, r_and, r_or, r_xor, r_andNot, r_shl, r_shr, r_eql, r_neq, r_lss, r_leq, r_gtr, r_geq, r_neg, r_cpl, r_not, r_pick, r_min, r_max, r_nil, x20, x21, x30, x31, x32, x40, x41, x42, x43, ldC_some, Result.ok.injEq, Next.value.injEq, true_and, and_true, w_i64, w_u64, w_i32, w_u32, w_u16, w_u8, Int.toNat_natCast, isB_tt, isB_tf, isB_ft, isB_ff, Gd_true, Gd_false, Gs_true, Gs_false, Cnd_true, Cnd_false, if_true, if_false, Bool.false_eq_true, Nat.zero_add, Option.isNone_some, Option.isNone_none, Bool.not_true, Bool.not_false, List.getElem?_cons_succ, List.getElem?_cons_zero, ln_sl_uint8, cv_int_uint, cv_int_uint8, ln_string, ia_sl_uint8, ld_uint8, cv_uint8_int, bd_weights_Code_0_1, ia_sl_weights_Code, bd_lightermanref08_C_, ix_string, bd_lightermanref08_C_0_1, ia_sl_lightermanref08_C, sl_sl_uint8_lo, sl_sl_uint8_hi, ln_sl_uint32, ia_sl_uint32, ld_uint32, cv_uint32_uint64, sl_sl_uint32_hi, ln_sl_int, ia_sl_int, ld_int, cv_uint_uint32, seql_sl_uint8, cv_uint32_uint8, cv_uint64_uint8, d2]
    rw [this]; rfl
  have d2 : decide ((x.size : Int) < 2) = false := by simp; omega
  by_cases h3 : 256 < x.size
  · have d3 : decide ((256 : Int) < (x.size : Int)) = true := by simp; omega
    have := no (by omega)
    simp (disch := omega) only [Stp, Same, stepR_value, stepR_skip, r_add, r_sub, r_mul, r_quo, r_rem, r_and, r_or, r_xor, r_andNot, r_shl, r_shr, r_eql, r_neq, r_lss, r_leq, r_gtr, r_geq, r_neg, r_cpl, r_not, r_pick, r_min, r_max, r_nil, x20, x21, x30, x31, x32, x40, x41, x42, x43, ldC_some, Result.ok.injEq, Next.value.injEq, true_and, and_true, w_i64, w_u64, w_i32, w_u32, w_u16, w_u8, Int.toNat_natCast, isB_tt, isB_tf, isB_ft, isB_ff, Gd_true, Gd_false, Gs_true, Gs_false, Cnd_true, Cnd_false, if_true, if_false, Bool.false_eq_true, Nat.zero_add, Option.isNone_some, Option.isNone_none, Bool.not_true, Bool.not_false, List.getElem?_cons_succ, List.getElem?_cons_zero, ln_sl_uint8, cv_int_uint, cv_int_uint8, ln_string, ia_sl_uint8, ld_uint8, cv_uint8_int, bd_weights_Code_0_1, ia_sl_weights_Code, bd_lightermanref08_C_, ix_string, bd_lightermanref08_C_0_1, ia_sl_lightermanref08_C, sl_sl_uint8_lo, sl_sl_uint8_hi, ln_sl_uint32, ia_sl_uint32, ld_uint32, cv_uint32_uint64, sl_sl_uint32_hi, ln_sl_int, ia_sl_int, ld_int, cv_uint_uint32, seql_sl_uint8, cv_uint32_uint8, cv_uint64_uint8, d2, d3]
    rw [this]; rfl
  have d3 : decide ((256 : Int) < (x.size : Int)) = false := by simp; omega
  have e1 : (x.size : Int) - 1 = ((x.size - 1 : Nat) : Int) := by omega
  have hg := lst_nat (x := x) (i := x.size - 1) (by omega)
  rw [hlx] at hg
  have hlast : l.getLast? = some (l.getD (x.size - 1) 0) := by
    rw [List.getLast?_eq_getElem?, hsz, List.getD_eq_getElem?_getD, List.getElem?_eq_getElem (by omega)]; rfl
  have hmem : l.getD (x.size - 1) 0 ∈ l := getD_mem (by omega)
  generalize l.getD (x.size - 1) 0 = y at *
  by_cases h4 : y = 0
  · have d4 : ((y : Int) == 0) = true := by rw [h4]; rfl
    have := no (fun h => h.2.2.2.1 (by rw [hlast, h4]))
    simp (disch := omega) only [Stp, Same, stepR_value, stepR_skip, r_add, r_sub, r_mul, r_quo, r_rem, r_and, r_or, r_xor, r_andNot, r_shl, r_shr, r_eql, r_neq, r_lss, r_leq, r_gtr, r_geq, r_neg, r_cpl, r_not, r_pick, r_min, r_max, r_nil, x20, x21, x30, x31, x32, x40, x41, x42, x43, ldC_some, Result.ok.injEq, Next.value.injEq, true_and, and_true, w_i64, w_u64, w_i32, w_u32, w_u16, w_u8, Int.toNat_natCast, isB_tt, isB_tf, isB_ft, isB_ff, Gd_true, Gd_false, Gs_true, Gs_false, Cnd_true, Cnd_false, if_true, if_false, Bool.false_eq_true, Nat.zero_add, Option.isNone_some, Option.isNone_none, Bool.not_true, Bool.not_false, List.getElem?_cons_succ, List.getElem?_cons_zero, ln_sl_uint8, cv_int_uint, cv_int_uint8, ln_string, ia_sl_uint8, ld_uint8, cv_uint8_int, bd_weights_Code_0_1, ia_sl_weights_Code, bd_lightermanref08_C_, ix_string, bd_lightermanref08_C_0_1, ia_sl_lightermanref08_C, sl_sl_uint8_lo, sl_sl_uint8_hi, ln_sl_uint32, ia_sl_uint32, ld_uint32, cv_uint32_uint64, sl_sl_uint32_hi, ln_sl_int, ia_sl_int, ld_int, cv_uint_uint32, seql_sl_uint8, cv_uint32_uint8, cv_uint64_uint8, d2, d3, e1, hg, d4]
    rw [this]; rfl
  have d4 : ((y : Int) == 0) = false := beq_eq_false_iff_ne.2 (by omega)
  have hwp := wPow_mem hmem
  have hwx : 1 ≤ wPow y := by unfold wPow; rw [if_neg h4]; exact Nat.one_le_two_pow
  have hlast' : l.getLast? ≠ some 0 := fun h => by rw [hlast] at h; exact h4 (Option.some.inj h)
  simp (disch := omega) only [Stp, Same, stepR_value, stepR_skip, r_add, r_sub, r_mul, r_quo, r_rem, r_and, r_or, r_xor, r_andNot, r_shl, r_shr, r_eql, r_neq, r_lss, r_leq, r_gtr, r_geq, r_neg, r_cpl, r_not, r_pick, r_min, r_max, r_nil, x20, x21, x30, x31, x32, x40, x41, x42, x43, ldC_some, Result.ok.injEq, Next.value.injEq, true_and, and_true, w_i64, w_u64, w_i32, w_u32, w_u16, w_u8, Int.toNat_natCast, isB_tt, isB_tf, isB_ft, isB_ff, Gd_true, Gd_false, Gs_true, Gs_false, Cnd_true, Cnd_false, if_true, if_false, Bool.false_eq_true, Nat.zero_add, Option.isNone_some, Option.isNone_none, Bool.not_true, Bool.not_false, List.getElem?_cons_succ, List.getElem?_cons_zero, ln_sl_uint8, cv_int_uint, cv_int_uint8, ln_string, ia_sl_uint8, ld_uint8, cv_uint8_int, bd_weights_Code_0_1, ia_sl_weights_Code, bd_lightermanref08_C_, ix_string, bd_lightermanref08_C_0_1, ia_sl_lightermanref08_C, sl_sl_uint8_lo, sl_sl_uint8_hi, ln_sl_uint32, ia_sl_uint32, ld_uint32, cv_uint32_uint64, sl_sl_uint32_hi, ln_sl_int, ia_sl_int, ld_int, cv_uint_uint32, seql_sl_uint8, cv_uint32_uint8, cv_uint64_uint8, d2, d3, e1, hg, d4]
  refine (refWorth_c hl).mono ?_
  rintro r w1 ⟨rfl, rfl⟩
  rw [hnl]
  cases hok : allLe 11 l with
  | false =>
    have := no (by rw [hok]; simp)
    simp only [Bool.false_eq_true, if_false]
    refine (refLog_c (-1) w1).mono ?_
    rintro r w2 ⟨hlog, rfl⟩
    have hr : r = .int .i64 (-1) := by
      rcases hlog with ⟨d, _, h, _⟩ | ⟨_, h⟩
      · have : (0 : Int) < (2 : Int) ^ d := Int.pow_pos (by omega)
        omega
      · exact h
    subst hr
    have d5 : decide ((-1 : Int) < 1) = true := rfl
    simp (disch := omega) only [Stp, Same, stepR_value, stepR_skip, r_add, r_sub, r_mul, r_quo, r_rem, r_and, r_or, r_xor, r_andNot, r_shl, r_shr, r_eql, r_neq, r_lss, r_leq, r_gtr, r_geq, r_neg, r_cpl, r_not, r_pick, r_min, r_max, r_nil, x20, x21, x30, x31, x32, x40, x41, x42, x43, ldC_some, Result.ok.injEq, Next.value.injEq, true_and, and_true, w_i64, w_u64, w_i32, w_u32, w_u16, w_u8, Int.toNat_natCast, isB_tt, isB_tf, isB_ft, isB_ff, Gd_true, Gd_false, Gs_true, Gs_false, Cnd_true, Cnd_false, if_true, if_false, Bool.false_eq_true, Nat.zero_add, Option.isNone_some, Option.isNone_none, Bool.not_true, Bool.not_false, List.getElem?_cons_succ, List.getElem?_cons_zero, ln_sl_uint8, cv_int_uint, cv_int_uint8, ln_string, ia_sl_uint8, ld_uint8, cv_uint8_int, bd_weights_Code_0_1, ia_sl_weights_Code, bd_lightermanref08_C_, ix_string, bd_lightermanref08_C_0_1, ia_sl_lightermanref08_C, sl_sl_uint8_lo, sl_sl_uint8_hi, ln_sl_uint32, ia_sl_uint32, ld_uint32, cv_uint32_uint64, sl_sl_uint32_hi, ln_sl_int, ia_sl_int, ld_int, cv_uint_uint32, seql_sl_uint8, cv_uint32_uint8, cv_uint64_uint8, d5]
    rw [this]; rfl
  | true =>
    have hw := worthN_le (allLe_iff.1 hok)
    simp only [if_true]
    refine (refLog_c _ w1).mono ?_
    rintro r w2 ⟨hlog, rfl⟩
    obtain ⟨s, hs⟩ : ∃ s, worthN l = s := ⟨_, rfl⟩
    rw [hs] at no hw hwp hlog
    rcases log_nat (by omega) (by omega) hlog with ⟨hp, rfl⟩ | ⟨hp, rfl⟩
    · have hlg : s.log2 < 20 := (Nat.log2_lt (by omega)).2 (by omega)
      by_cases h5 : s.log2 < 1
      · have d5 : decide (((s.log2 : Nat) : Int) < 1) = true := by simp; omega
        have hz : depthN l = 0 := by
          unfold depthN; rw [hs]
          split
          · omega
          · rfl
        simp (disch := omega) only [Stp, Same, stepR_value, stepR_skip, r_add, r_sub, r_mul, r_quo, r_rem, r_and, r_or, r_xor, r_andNot, r_shl, r_shr, r_eql, r_neq, r_lss, r_leq, r_gtr, r_geq, r_neg, r_cpl, r_not, r_pick, r_min, r_max, r_nil, x20, x21, x30, x31, x32, x40, x41, x42, x43, ldC_some, Result.ok.injEq, Next.value.injEq, true_and, and_true, w_i64, w_u64, w_i32, w_u32, w_u16, w_u8, Int.toNat_natCast, isB_tt, isB_tf, isB_ft, isB_ff, Gd_true, Gd_false, Gs_true, Gs_false, Cnd_true, Cnd_false, if_true, if_false, Bool.false_eq_true, Nat.zero_add, Option.isNone_some, Option.isNone_none, Bool.not_true, Bool.not_false, List.getElem?_cons_succ, List.getElem?_cons_zero, ln_sl_uint8, cv_int_uint, cv_int_uint8, ln_string, ia_sl_uint8, ld_uint8, cv_uint8_int, bd_weights_Code_0_1, ia_sl_weights_Code, bd_lightermanref08_C_, ix_string, bd_lightermanref08_C_0_1, ia_sl_lightermanref08_C, sl_sl_uint8_lo, sl_sl_uint8_hi, ln_sl_uint32, ia_sl_uint32, ld_uint32, cv_uint32_uint64, sl_sl_uint32_hi, ln_sl_int, ia_sl_int, ld_int, cv_uint_uint32, seql_sl_uint8, cv_uint32_uint8, cv_uint64_uint8, d5]
        rw [hz]; rfl
      have d5 : decide (((s.log2 : Nat) : Int) < 1) = false := by simp; omega
      by_cases h6 : 11 < s.log2
      · have d6 : decide ((11 : Int) < ((s.log2 : Nat) : Int)) = true := by simp; omega
        have := no (by omega)
        simp (disch := omega) only [Stp, Same, stepR_value, stepR_skip, r_add, r_sub, r_mul, r_quo, r_rem, r_and, r_or, r_xor, r_andNot, r_shl, r_shr, r_eql, r_neq, r_lss, r_leq, r_gtr, r_geq, r_neg, r_cpl, r_not, r_pick, r_min, r_max, r_nil, x20, x21, x30, x31, x32, x40, x41, x42, x43, ldC_some, Result.ok.injEq, Next.value.injEq, true_and, and_true, w_i64, w_u64, w_i32, w_u32, w_u16, w_u8, Int.toNat_natCast, isB_tt, isB_tf, isB_ft, isB_ff, Gd_true, Gd_false, Gs_true, Gs_false, Cnd_true, Cnd_false, if_true, if_false, Bool.false_eq_true, Nat.zero_add, Option.isNone_some, Option.isNone_none, Bool.not_true, Bool.not_false, List.getElem?_cons_succ, List.getElem?_cons_zero, ln_sl_uint8, cv_int_uint, cv_int_uint8, ln_string, ia_sl_uint8, ld_uint8, cv_uint8_int, bd_weights_Code_0_1, ia_sl_weights_Code, bd_lightermanref08_C_, ix_string, bd_lightermanref08_C_0_1, ia_sl_lightermanref08_C, sl_sl_uint8_lo, sl_sl_uint8_hi, ln_sl_uint32, ia_sl_uint32, ld_uint32, cv_uint32_uint64, sl_sl_uint32_hi, ln_sl_int, ia_sl_int, ld_int, cv_uint_uint32, seql_sl_uint8, cv_uint32_uint8, cv_uint64_uint8, d5, d6]
        rw [this]; rfl
      have d6 : decide ((11 : Int) < ((s.log2 : Nat) : Int)) = false := by simp; omega
      simp (disch := omega) only [Stp, Same, stepR_value, stepR_skip, r_add, r_sub, r_mul, r_quo, r_rem, r_and, r_or, r_xor, r_andNot, r_shl, r_shr, r_eql, r_neq, r_lss, r_leq, r_gtr, r_geq, r_neg, r_cpl, r_not, r_pick, r_min, r_max, r_nil, x20, x21, x30, x31, x32, x40, x41, x42, x43, ldC_some, Result.ok.injEq, Next.value.injEq, true_and, and_true, w_i64, w_u64, w_i32, w_u32, w_u16, w_u8, Int.toNat_natCast, isB_tt, isB_tf, isB_ft, isB_ff, Gd_true, Gd_false, Gs_true, Gs_false, Cnd_true, Cnd_false, if_true, if_false, Bool.false_eq_true, Nat.zero_add, Option.isNone_some, Option.isNone_none, Bool.not_true, Bool.not_false, List.getElem?_cons_succ, List.getElem?_cons_zero, ln_sl_uint8, cv_int_uint, cv_int_uint8, ln_string, ia_sl_uint8, ld_uint8, cv_uint8_int, bd_weights_Code_0_1, ia_sl_weights_Code, bd_lightermanref08_C_, ix_string, bd_lightermanref08_C_0_1, ia_sl_lightermanref08_C, sl_sl_uint8_lo, sl_sl_uint8_hi, ln_sl_uint32, ia_sl_uint32, ld_uint32, cv_uint32_uint64, sl_sl_uint32_hi, ln_sl_int, ia_sl_int, ld_int, cv_uint_uint32, seql_sl_uint8, cv_uint32_uint8, cv_uint64_uint8, d5, d6]
      unfold ref08_Depth_p7 ref08_Depth_p6 ref08_Depth_p5 ref08_Depth_p4 ref08_Depth_p3
      refine LoopD.rule (fun m (t : Value) w' => ∃ i : Nat, m = x.size - i ∧ t = .int .i64 i ∧ i ≤ x.size ∧ (∀ j, j < i → l.getD j 0 ≤ s.log2) ∧ w' = w2) x.size ⟨0, rfl, rfl, by omega, fun j h => by omega, rfl⟩ ?_
      rintro m t w3 ⟨i, rfl, rfl, hi, hle, rfl⟩
      unfold ref08_Depth_p2
      by_cases hlt : i < x.size
      · have d7 : decide ((i : Int) < (x.size : Int)) = true := by simp; omega
        have hgi := lst_nat hlt
        rw [hnl] at hgi
        have hz256 : l.getD i 0 < 256 := by rw [← hnl]; exact nats_lt _ _ (getD_mem (by rw [lst_size]; exact hlt))
        have hzm : l.getD i 0 ∈ l := getD_mem (by omega)
        generalize hzz : l.getD i 0 = z at *
        by_cases h8 : s.log2 < z
        · have d8 : decide (((s.log2 : Nat) : Int) < (z : Int)) = true := by simp; omega
          have := no (fun h => by have := allLe_iff.1 h.2.2.2.2.2.2 z hzm; omega)
          simp (disch := omega) only [Stp, Same, stepR_value, stepR_skip, r_add, r_sub, r_mul, r_quo, r_rem, r_and, r_or, r_xor, r_andNot, r_shl, r_shr, r_eql, r_neq, r_lss, r_leq, r_gtr, r_geq, r_neg, r_cpl, r_not, r_pick, r_min, r_max, r_nil, x20, x21, x30, x31, x32, x40, x41, x42, x43, ldC_some, Result.ok.injEq, Next.value.injEq, true_and, and_true, w_i64, w_u64, w_i32, w_u32, w_u16, w_u8, Int.toNat_natCast, isB_tt, isB_tf, isB_ft, isB_ff, Gd_true, Gd_false, Gs_true, Gs_false, Cnd_true, Cnd_false, if_true, if_false, Bool.false_eq_true, Nat.zero_add, Option.isNone_some, Option.isNone_none, Bool.not_true, Bool.not_false, List.getElem?_cons_succ, List.getElem?_cons_zero, ln_sl_uint8, cv_int_uint, cv_int_uint8, ln_string, ia_sl_uint8, ld_uint8, cv_uint8_int, bd_weights_Code_0_1, ia_sl_weights_Code, bd_lightermanref08_C_, ix_string, bd_lightermanref08_C_0_1, ia_sl_lightermanref08_C, sl_sl_uint8_lo, sl_sl_uint8_hi, ln_sl_uint32, ia_sl_uint32, ld_uint32, cv_uint32_uint64, sl_sl_uint32_hi, ln_sl_int, ia_sl_int, ld_int, cv_uint_uint32, seql_sl_uint8, cv_uint32_uint8, cv_uint64_uint8, d7, hgi, d8]
          rw [this]; rfl
        · have d8 : decide (((s.log2 : Nat) : Int) < (z : Int)) = false := by simp; omega
          simp (disch := omega) only [Stp, Same, stepR_value, stepR_skip, r_add, r_sub, r_mul, r_quo, r_rem, r_and, r_or, r_xor, r_andNot, r_shl, r_shr, r_eql, r_neq, r_lss, r_leq, r_gtr, r_geq, r_neg, r_cpl, r_not, r_pick, r_min, r_max, r_nil, x20, x21, x30, x31, x32, x40, x41, x42, x43, ldC_some, Result.ok.injEq, Next.value.injEq, true_and, and_true, w_i64, w_u64, w_i32, w_u32, w_u16, w_u8, Int.toNat_natCast, isB_tt, isB_tf, isB_ft, isB_ff, Gd_true, Gd_false, Gs_true, Gs_false, Cnd_true, Cnd_false, if_true, if_false, Bool.false_eq_true, Nat.zero_add, Option.isNone_some, Option.isNone_none, Bool.not_true, Bool.not_false, List.getElem?_cons_succ, List.getElem?_cons_zero, ln_sl_uint8, cv_int_uint, cv_int_uint8, ln_string, ia_sl_uint8, ld_uint8, cv_uint8_int, bd_weights_Code_0_1, ia_sl_weights_Code, bd_lightermanref08_C_, ix_string, bd_lightermanref08_C_0_1, ia_sl_lightermanref08_C, sl_sl_uint8_lo, sl_sl_uint8_hi, ln_sl_uint32, ia_sl_uint32, ld_uint32, cv_uint32_uint64, sl_sl_uint32_hi, ln_sl_int, ia_sl_int, ld_int, cv_uint_uint32, seql_sl_uint8, cv_uint32_uint8, cv_uint64_uint8, d7, hgi, d8]
          refine ⟨x.size - (i + 1), by omega, i + 1, rfl, rfl, by omega, fun j hj => ?_⟩
          rcases Nat.lt_or_ge j i with h' | h'
          · exact hle j h'
          · have : j = i := by omega
            subst this; omega
      · have d7 : decide ((i : Int) < (x.size : Int)) = false := by simp; omega
        have hyes : depthN l = s.log2 := by
          unfold depthN
          rw [hs, if_pos ⟨hok, by omega, by omega, hlast', hp, by omega, allLe_iff.2 fun y hy => by
            obtain ⟨j, hj, rfl⟩ := List.getElem_of_mem hy
            rw [← getD_at hj]; exact hle j (by omega)⟩]
        unfold ref08_Depth_p1
        simp (disch := omega) only [Stp, Same, stepR_value, stepR_skip, r_add, r_sub, r_mul, r_quo, r_rem, r_and, r_or, r_xor, r_andNot, r_shl, r_shr, r_eql, r_neq, r_lss, r_leq, r_gtr, r_geq, r_neg, r_cpl, r_not, r_pick, r_min, r_max, r_nil, x20, x21, x30, x31, x32, x40, x41, x42, x43, ldC_some, Result.ok.injEq, Next.value.injEq, true_and, and_true, w_i64, w_u64, w_i32, w_u32, w_u16, w_u8, Int.toNat_natCast, isB_tt, isB_tf, isB_ft, isB_ff, Gd_true, Gd_false, Gs_true, Gs_false, Cnd_true, Cnd_false, if_true, if_false, Bool.false_eq_true, Nat.zero_add, Option.isNone_some, Option.isNone_none, Bool.not_true, Bool.not_false, List.getElem?_cons_succ, List.getElem?_cons_zero, ln_sl_uint8, cv_int_uint, cv_int_uint8, ln_string, ia_sl_uint8, ld_uint8, cv_uint8_int, bd_weights_Code_0_1, ia_sl_weights_Code, bd_lightermanref08_C_, ix_string, bd_lightermanref08_C_0_1, ia_sl_lightermanref08_C, sl_sl_uint8_lo, sl_sl_uint8_hi, ln_sl_uint32, ia_sl_uint32, ld_uint32, cv_uint32_uint64, sl_sl_uint32_hi, ln_sl_int, ia_sl_int, ld_int, cv_uint_uint32, seql_sl_uint8, cv_uint32_uint8, cv_uint64_uint8, d7]
        rw [hyes]
    · have := no (fun h => hp h.2.2.2.2.1)
      have d5 : decide ((-1 : Int) < 1) = true := rfl
      simp (disch := omega) only [Stp, Same, stepR_value, stepR_skip, r_add, r_sub, r_mul, r_quo, r_rem, r_and, r_or, r_xor, r_andNot, r_shl, r_shr, r_eql, r_neq, r_lss, r_leq, r_gtr, r_geq, r_neg, r_cpl, r_not, r_pick, r_min, r_max, r_nil, x20, x21, x30, x31, x32, x40, x41, x42, x43, ldC_some, Result.ok.injEq, Next.value.injEq, true_and, and_true, w_i64, w_u64, w_i32, w_u32, w_u16, w_u8, Int.toNat_natCast, isB_tt, isB_tf, isB_ft, isB_ff, Gd_true, Gd_false, Gs_true, Gs_false, Cnd_true, Cnd_false, if_true, if_false, Bool.false_eq_true, Nat.zero_add, Option.isNone_some, Option.isNone_none, Bool.not_true, Bool.not_false, List.getElem?_cons_succ, List.getElem?_cons_zero, ln_sl_uint8, cv_int_uint, cv_int_uint8, ln_string, ia_sl_uint8, ld_uint8, cv_uint8_int, bd_weights_Code_0_1, ia_sl_weights_Code, bd_lightermanref08_C_, ix_string, bd_lightermanref08_C_0_1, ia_sl_lightermanref08_C, sl_sl_uint8_lo, sl_sl_uint8_hi, ln_sl_uint32, ia_sl_uint32, ld_uint32, cv_uint32_uint64, sl_sl_uint32_hi, ln_sl_int, ia_sl_int, ld_int, cv_uint_uint32, seql_sl_uint8, cv_uint32_uint8, cv_uint64_uint8, d5]
      rw [this]; rfl
end Go.Proofs.Ytoepfjgekpdddaa
/- Contracts: the reference: the last weight; the codes of weights. -/
namespace Go.Proofs.Ytoepfjgekpdddaa
open Go Go.En Go.Pu
set_option maxRecDepth 4000
set_option linter.unusedSimpArgs false
set_option linter.unusedVariables false

/-- what the reference's Whole tells -/
def RefWholeOf (x : ByteArray) (o : Option Nat) (r : Value) : Prop := match o with
  | none => r = .tuple #[.string ⟨#[]⟩, .int .i64 11]
  | some k => ∃ y : ByteArray, lst y = lst x ++ [UInt8.ofNat k] ∧ r = .tuple #[.string y, .int .i64 0]

theorem refWhole_c {x : ByteArray} {w : World} (hl : x.size ≤ 100000) :
    Does pg F_ref08_Whole #[.string x] w (fun r w' => RefWholeOf x (wholeN (nats (lst x))) r ∧ Ext w w' nob) := by
  refine ref08_Whole_does ?_
  have hsz := lst_size x
  obtain ⟨l, hnl⟩ : ∃ l, nats (lst x) = l := ⟨_, rfl⟩
  rw [hnl] at hsz ⊢
  have no : ¬ (allLe 11 l = true ∧ 1 ≤ l.length ∧ l.length ≤ 255 ∧ 0 < worthN l ∧ bl (worthN l) ≤ 11 ∧ 2 ^ (2 ^ bl (worthN l) - worthN l).log2 = 2 ^ bl (worthN l) - worthN l) → wholeN l = none := fun h => by
    unfold wholeN; rw [if_neg h]
  unfold ref08_Whole ref08_Whole_p7 ref08_Whole_p6
  refine (refWorth_c hl).mono ?_
  rintro r w1 ⟨rfl, rfl⟩
  rw [hnl]
  rcases Nat.eq_zero_or_pos x.size with h0 | h0
  · have hx : x = ⟨#[]⟩ := lst_inj (List.length_eq_zero_iff.1 (by rw [lst_length, h0]))
    have := no (by omega)
    subst hx
    simp (disch := omega) only [Stp, Same, stepR_value, stepR_skip, r_add, r_sub, r_mul, r_quo, r_rem, r_and, r_or, r_xor, r_andNot, r_shl, r_shr, r_eql, r_neq, r_lss, r_leq, r_gtr, r_geq, r_neg, r_cpl, r_not, r_pick, r_min, r_max, r_nil, x20, x21, x30, x31, x32, x40, x41, x42, x43, ldC_some, Result.ok.injEq, Next.value.injEq, true_and, and_true, w_i64, w_u64, w_i32, w_u32, w_u16, w_u8, Int.toNat_natCast, isB_tt, isB_tf, isB_ft, isB_ff, Gd_true, Gd_false, Gs_true, Gs_false, Cnd_true, Cnd_false, if_true, if_false, Bool.false_eq_true, Nat.zero_add, Option.isNone_some, Option.isNone_none, Bool.not_true, Bool.not_false, List.getElem?_cons_succ, List.getElem?_cons_zero, ln_sl_uint8, cv_int_uint, cv_int_uint8, ln_string, ia_sl_uint8, ld_uint8, cv_uint8_int, bd_weights_Code_0_1, ia_sl_weights_Code, bd_lightermanref08_C_, ix_string, bd_lightermanref08_C_0_1, ia_sl_lightermanref08_C, sl_sl_uint8_lo, sl_sl_uint8_hi, ln_sl_uint32, ia_sl_uint32, ld_uint32, cv_uint32_uint64, sl_sl_uint32_hi, ln_sl_int, ia_sl_int, ld_int, cv_uint_uint32, seql_sl_uint8, cv_uint32_uint8, cv_uint64_uint8, r_seql, emp_yes]
    rw [this]; exact ⟨rfl, Ext.refl _ _⟩
  have hne := emp_no h0
  by_cases h3 : 255 < x.size
  · have d3 : decide ((255 : Int) < (x.size : Int)) = true := by simp; omega
    have := no (by omega)
    simp (disch := omega) only [Stp, Same, stepR_value, stepR_skip, r_add, r_sub, r_mul, r_quo, r_rem, r_and, r_or, r_xor, r_andNot, r_shl, r_shr, r_eql, r_neq, r_lss, r_leq, r_gtr, r_geq, r_neg, r_cpl, r_not, r_pick, r_min, r_max, r_nil, x20, x21, x30, x31, x32, x40, x41, x42, x43, ldC_some, Result.ok.injEq, Next.value.injEq, true_and, and_true, w_i64, w_u64, w_i32, w_u32, w_u16, w_u8, Int.toNat_natCast, isB_tt, isB_tf, isB_ft, isB_ff, Gd_true, Gd_false, Gs_true, Gs_false, Cnd_true, Cnd_false, if_true, if_false, Bool.false_eq_true, Nat.zero_add, Option.isNone_some, Option.isNone_none, Bool.not_true, Bool.not_false, List.getElem?_cons_succ, List.getElem?_cons_zero, ln_sl_uint8, cv_int_uint, cv_int_uint8, ln_string, ia_sl_uint8, ld_uint8, cv_uint8_int, bd_weights_Code_0_1, ia_sl_weights_Code, bd_lightermanref08_C_, ix_string, bd_lightermanref08_C_0_1, ia_sl_lightermanref08_C, sl_sl_uint8_lo, sl_sl_uint8_hi, ln_sl_uint32, ia_sl_uint32, ld_uint32, cv_uint32_uint64, sl_sl_uint32_hi, ln_sl_int, ia_sl_int, ld_int, cv_uint_uint32, seql_sl_uint8, cv_uint32_uint8, cv_uint64_uint8, r_seql, hne, d3]
    rw [this]; exact ⟨rfl, Ext.refl _ _⟩
  have d3 : decide ((255 : Int) < (x.size : Int)) = false := by simp; omega
  cases hok : allLe 11 l with
  | false =>
    have := no (by rw [hok]; simp)
    have d4 : decide ((-1 : Int) < 1) = true := rfl
    simp only [Bool.false_eq_true, if_false]
    simp (disch := omega) only [Stp, Same, stepR_value, stepR_skip, r_add, r_sub, r_mul, r_quo, r_rem, r_and, r_or, r_xor, r_andNot, r_shl, r_shr, r_eql, r_neq, r_lss, r_leq, r_gtr, r_geq, r_neg, r_cpl, r_not, r_pick, r_min, r_max, r_nil, x20, x21, x30, x31, x32, x40, x41, x42, x43, ldC_some, Result.ok.injEq, Next.value.injEq, true_and, and_true, w_i64, w_u64, w_i32, w_u32, w_u16, w_u8, Int.toNat_natCast, isB_tt, isB_tf, isB_ft, isB_ff, Gd_true, Gd_false, Gs_true, Gs_false, Cnd_true, Cnd_false, if_true, if_false, Bool.false_eq_true, Nat.zero_add, Option.isNone_some, Option.isNone_none, Bool.not_true, Bool.not_false, List.getElem?_cons_succ, List.getElem?_cons_zero, ln_sl_uint8, cv_int_uint, cv_int_uint8, ln_string, ia_sl_uint8, ld_uint8, cv_uint8_int, bd_weights_Code_0_1, ia_sl_weights_Code, bd_lightermanref08_C_, ix_string, bd_lightermanref08_C_0_1, ia_sl_lightermanref08_C, sl_sl_uint8_lo, sl_sl_uint8_hi, ln_sl_uint32, ia_sl_uint32, ld_uint32, cv_uint32_uint64, sl_sl_uint32_hi, ln_sl_int, ia_sl_int, ld_int, cv_uint_uint32, seql_sl_uint8, cv_uint32_uint8, cv_uint64_uint8, r_seql, hne, d3, d4]
    rw [this]; exact ⟨rfl, Ext.refl _ _⟩
  | true =>
    have hw := worthN_le (allLe_iff.1 hok)
    simp only [if_true]
    obtain ⟨s, hs⟩ : ∃ s, worthN l = s := ⟨_, rfl⟩
    rw [hs] at no hw ⊢
    by_cases h4 : s < 1
    · have d4 : decide ((s : Int) < 1) = true := by simp; omega
      have := no (by omega)
      simp (disch := omega) only [Stp, Same, stepR_value, stepR_skip, r_add, r_sub, r_mul, r_quo, r_rem, r_and, r_or, r_xor, r_andNot, r_shl, r_shr, r_eql, r_neq, r_lss, r_leq, r_gtr, r_geq, r_neg, r_cpl, r_not, r_pick, r_min, r_max, r_nil, x20, x21, x30, x31, x32, x40, x41, x42, x43, ldC_some, Result.ok.injEq, Next.value.injEq, true_and, and_true, w_i64, w_u64, w_i32, w_u32, w_u16, w_u8, Int.toNat_natCast, isB_tt, isB_tf, isB_ft, isB_ff, Gd_true, Gd_false, Gs_true, Gs_false, Cnd_true, Cnd_false, if_true, if_false, Bool.false_eq_true, Nat.zero_add, Option.isNone_some, Option.isNone_none, Bool.not_true, Bool.not_false, List.getElem?_cons_succ, List.getElem?_cons_zero, ln_sl_uint8, cv_int_uint, cv_int_uint8, ln_string, ia_sl_uint8, ld_uint8, cv_uint8_int, bd_weights_Code_0_1, ia_sl_weights_Code, bd_lightermanref08_C_, ix_string, bd_lightermanref08_C_0_1, ia_sl_lightermanref08_C, sl_sl_uint8_lo, sl_sl_uint8_hi, ln_sl_uint32, ia_sl_uint32, ld_uint32, cv_uint32_uint64, sl_sl_uint32_hi, ln_sl_int, ia_sl_int, ld_int, cv_uint_uint32, seql_sl_uint8, cv_uint32_uint8, cv_uint64_uint8, r_seql, hne, d3, d4]
      rw [this]; exact ⟨rfl, Ext.refl _ _⟩
    have d4 : decide ((s : Int) < 1) = false := by simp; omega
    have hbl19 : bl s ≤ 19 := bl_le_of (by omega)
    have hlt := bl_lt s
    have hle := bl_le (k := s) (by omega)
    have hbl0 := bl_pos (k := s) (by omega)
    simp (disch := omega) only [Stp, Same, stepR_value, stepR_skip, r_add, r_sub, r_mul, r_quo, r_rem, r_and, r_or, r_xor, r_andNot, r_shl, r_shr, r_eql, r_neq, r_lss, r_leq, r_gtr, r_geq, r_neg, r_cpl, r_not, r_pick, r_min, r_max, r_nil, x20, x21, x30, x31, x32, x40, x41, x42, x43, ldC_some, Result.ok.injEq, Next.value.injEq, true_and, and_true, w_i64, w_u64, w_i32, w_u32, w_u16, w_u8, Int.toNat_natCast, isB_tt, isB_tf, isB_ft, isB_ff, Gd_true, Gd_false, Gs_true, Gs_false, Cnd_true, Cnd_false, if_true, if_false, Bool.false_eq_true, Nat.zero_add, Option.isNone_some, Option.isNone_none, Bool.not_true, Bool.not_false, List.getElem?_cons_succ, List.getElem?_cons_zero, ln_sl_uint8, cv_int_uint, cv_int_uint8, ln_string, ia_sl_uint8, ld_uint8, cv_uint8_int, bd_weights_Code_0_1, ia_sl_weights_Code, bd_lightermanref08_C_, ix_string, bd_lightermanref08_C_0_1, ia_sl_lightermanref08_C, sl_sl_uint8_lo, sl_sl_uint8_hi, ln_sl_uint32, ia_sl_uint32, ld_uint32, cv_uint32_uint64, sl_sl_uint32_hi, ln_sl_int, ia_sl_int, ld_int, cv_uint_uint32, seql_sl_uint8, cv_uint32_uint8, cv_uint64_uint8, r_seql, hne, d3, d4]
    unfold ref08_Whole_p5 ref08_Whole_p4 ref08_Whole_p3
    refine LoopD.rule (fun m (t : Value) w' => ∃ d : Nat, m = bl s - d ∧ t = .int .i64 d ∧ 1 ≤ d ∧ d ≤ bl s ∧ w' = w1) (bl s - 1) ⟨1, rfl, rfl, by omega, by omega, rfl⟩ ?_
    rintro m t w2 ⟨d, rfl, rfl, hd1, hd2, rfl⟩
    unfold ref08_Whole_p2
    refine (power_c d (by omega) w2).mono ?_
    rintro r w3 ⟨rfl, rfl⟩
    have hpow : ((2 ^ d : Nat) : Int) = (2 : Int) ^ d := by simp
    rw [← hpow]
    by_cases hq : d < bl s
    · have hp : 2 ^ d ≤ 2 ^ (bl s - 1) := Nat.pow_le_pow_right (by omega) (by omega)
      have d5 : decide (((2 ^ d : Nat) : Int) ≤ (s : Int)) = true := by simp only [decide_eq_true_eq]; omega
      simp (disch := omega) only [Stp, Same, stepR_value, stepR_skip, r_add, r_sub, r_mul, r_quo, r_rem, r_and, r_or, r_xor, r_andNot, r_shl, r_shr, r_eql, r_neq, r_lss, r_leq, r_gtr, r_geq, r_neg, r_cpl, r_not, r_pick, r_min, r_max, r_nil, x20, x21, x30, x31, x32, x40, x41, x42, x43, ldC_some, Result.ok.injEq, Next.value.injEq, true_and, and_true, w_i64, w_u64, w_i32, w_u32, w_u16, w_u8, Int.toNat_natCast, isB_tt, isB_tf, isB_ft, isB_ff, Gd_true, Gd_false, Gs_true, Gs_false, Cnd_true, Cnd_false, if_true, if_false, Bool.false_eq_true, Nat.zero_add, Option.isNone_some, Option.isNone_none, Bool.not_true, Bool.not_false, List.getElem?_cons_succ, List.getElem?_cons_zero, ln_sl_uint8, cv_int_uint, cv_int_uint8, ln_string, ia_sl_uint8, ld_uint8, cv_uint8_int, bd_weights_Code_0_1, ia_sl_weights_Code, bd_lightermanref08_C_, ix_string, bd_lightermanref08_C_0_1, ia_sl_lightermanref08_C, sl_sl_uint8_lo, sl_sl_uint8_hi, ln_sl_uint32, ia_sl_uint32, ld_uint32, cv_uint32_uint64, sl_sl_uint32_hi, ln_sl_int, ia_sl_int, ld_int, cv_uint_uint32, seql_sl_uint8, cv_uint32_uint8, cv_uint64_uint8, d5]
      exact ⟨bl s - (d + 1), by omega, d + 1, rfl, rfl, by omega, by omega⟩
    · have hde : d = bl s := by omega
      rw [← hde] at no hlt hle
      have d5 : decide (((2 ^ d : Nat) : Int) ≤ (s : Int)) = false := by simp only [decide_eq_false_iff_not]; omega
      unfold ref08_Whole_p1
      simp (disch := omega) only [Stp, Same, stepR_value, stepR_skip, r_add, r_sub, r_mul, r_quo, r_rem, r_and, r_or, r_xor, r_andNot, r_shl, r_shr, r_eql, r_neq, r_lss, r_leq, r_gtr, r_geq, r_neg, r_cpl, r_not, r_pick, r_min, r_max, r_nil, x20, x21, x30, x31, x32, x40, x41, x42, x43, ldC_some, Result.ok.injEq, Next.value.injEq, true_and, and_true, w_i64, w_u64, w_i32, w_u32, w_u16, w_u8, Int.toNat_natCast, isB_tt, isB_tf, isB_ft, isB_ff, Gd_true, Gd_false, Gs_true, Gs_false, Cnd_true, Cnd_false, if_true, if_false, Bool.false_eq_true, Nat.zero_add, Option.isNone_some, Option.isNone_none, Bool.not_true, Bool.not_false, List.getElem?_cons_succ, List.getElem?_cons_zero, ln_sl_uint8, cv_int_uint, cv_int_uint8, ln_string, ia_sl_uint8, ld_uint8, cv_uint8_int, bd_weights_Code_0_1, ia_sl_weights_Code, bd_lightermanref08_C_, ix_string, bd_lightermanref08_C_0_1, ia_sl_lightermanref08_C, sl_sl_uint8_lo, sl_sl_uint8_hi, ln_sl_uint32, ia_sl_uint32, ld_uint32, cv_uint32_uint64, sl_sl_uint32_hi, ln_sl_int, ia_sl_int, ld_int, cv_uint_uint32, seql_sl_uint8, cv_uint32_uint8, cv_uint64_uint8, d5]
      refine (power_c d (by omega) w3).mono ?_
      rintro r w4 ⟨rfl, rfl⟩
      rw [← hpow]
      have hp20 : 2 ^ d ≤ 2 ^ 19 := Nat.pow_le_pow_right (by omega) (by omega)
      have e1 : ((2 ^ d : Nat) : Int) - (s : Int) = ((2 ^ d - s : Nat) : Int) := by omega
      obtain ⟨q, hqq⟩ : ∃ q, 2 ^ d - s = q := ⟨_, rfl⟩
      rw [hqq] at no e1
      simp (disch := omega) only [Stp, Same, stepR_value, stepR_skip, r_add, r_sub, r_mul, r_quo, r_rem, r_and, r_or, r_xor, r_andNot, r_shl, r_shr, r_eql, r_neq, r_lss, r_leq, r_gtr, r_geq, r_neg, r_cpl, r_not, r_pick, r_min, r_max, r_nil, x20, x21, x30, x31, x32, x40, x41, x42, x43, ldC_some, Result.ok.injEq, Next.value.injEq, true_and, and_true, w_i64, w_u64, w_i32, w_u32, w_u16, w_u8, Int.toNat_natCast, isB_tt, isB_tf, isB_ft, isB_ff, Gd_true, Gd_false, Gs_true, Gs_false, Cnd_true, Cnd_false, if_true, if_false, Bool.false_eq_true, Nat.zero_add, Option.isNone_some, Option.isNone_none, Bool.not_true, Bool.not_false, List.getElem?_cons_succ, List.getElem?_cons_zero, ln_sl_uint8, cv_int_uint, cv_int_uint8, ln_string, ia_sl_uint8, ld_uint8, cv_uint8_int, bd_weights_Code_0_1, ia_sl_weights_Code, bd_lightermanref08_C_, ix_string, bd_lightermanref08_C_0_1, ia_sl_lightermanref08_C, sl_sl_uint8_lo, sl_sl_uint8_hi, ln_sl_uint32, ia_sl_uint32, ld_uint32, cv_uint32_uint64, sl_sl_uint32_hi, ln_sl_int, ia_sl_int, ld_int, cv_uint_uint32, seql_sl_uint8, cv_uint32_uint8, cv_uint64_uint8, e1]
      refine (refLog_c _ w4).mono ?_
      rintro r w5 ⟨hlog, rfl⟩
      by_cases h6 : 11 < d
      · have d6 : decide ((11 : Int) < (d : Int)) = true := by simp; omega
        have := no (by omega)
        obtain ⟨kr, hkr⟩ : ∃ kr : Int, r = .int .i64 kr := by
          rcases hlog with ⟨e, _, _, h⟩ | ⟨_, h⟩
          · exact ⟨_, h⟩
          · exact ⟨_, h⟩
        subst hkr
        simp (disch := omega) only [Stp, Same, stepR_value, stepR_skip, r_add, r_sub, r_mul, r_quo, r_rem, r_and, r_or, r_xor, r_andNot, r_shl, r_shr, r_eql, r_neq, r_lss, r_leq, r_gtr, r_geq, r_neg, r_cpl, r_not, r_pick, r_min, r_max, r_nil, x20, x21, x30, x31, x32, x40, x41, x42, x43, ldC_some, Result.ok.injEq, Next.value.injEq, true_and, and_true, w_i64, w_u64, w_i32, w_u32, w_u16, w_u8, Int.toNat_natCast, isB_tt, isB_tf, isB_ft, isB_ff, Gd_true, Gd_false, Gs_true, Gs_false, Cnd_true, Cnd_false, if_true, if_false, Bool.false_eq_true, Nat.zero_add, Option.isNone_some, Option.isNone_none, Bool.not_true, Bool.not_false, List.getElem?_cons_succ, List.getElem?_cons_zero, ln_sl_uint8, cv_int_uint, cv_int_uint8, ln_string, ia_sl_uint8, ld_uint8, cv_uint8_int, bd_weights_Code_0_1, ia_sl_weights_Code, bd_lightermanref08_C_, ix_string, bd_lightermanref08_C_0_1, ia_sl_lightermanref08_C, sl_sl_uint8_lo, sl_sl_uint8_hi, ln_sl_uint32, ia_sl_uint32, ld_uint32, cv_uint32_uint64, sl_sl_uint32_hi, ln_sl_int, ia_sl_int, ld_int, cv_uint_uint32, seql_sl_uint8, cv_uint32_uint8, cv_uint64_uint8, d6]
        rw [this]; exact ⟨rfl, Ext.refl _ _⟩
      have d6 : decide ((11 : Int) < (d : Int)) = false := by simp; omega
      rcases log_nat (by omega) (by omega) hlog with ⟨hp, rfl⟩ | ⟨hp, rfl⟩
      · have hlg : q.log2 < 20 := (Nat.log2_lt (by omega)).2 (by omega)
        have d7 : decide (((q.log2 : Nat) : Int) < 0) = false := by simp
        have hyes : wholeN l = some (q.log2 + 1) := by
          unfold wholeN
          rw [hs, ← hde, hqq, if_pos ⟨hok, by omega, by omega, by omega, by omega, hp⟩]
        have e2 : ((q.log2 : Nat) : Int) + 1 = ((q.log2 + 1 : Nat) : Int) := by omega
        have e8 : IntKind.u8.wrap ((q.log2 + 1 : Nat) : Int) = ((q.log2 + 1 : Nat) : Int) := w_u8 (by omega) (by omega)
        rw [hyes]
        simp (disch := omega) only [Stp, Same, stepR_value, stepR_skip, r_add, r_sub, r_mul, r_quo, r_rem, r_and, r_or, r_xor, r_andNot, r_shl, r_shr, r_eql, r_neq, r_lss, r_leq, r_gtr, r_geq, r_neg, r_cpl, r_not, r_pick, r_min, r_max, r_nil, x20, x21, x30, x31, x32, x40, x41, x42, x43, ldC_some, Result.ok.injEq, Next.value.injEq, true_and, and_true, w_i64, w_u64, w_i32, w_u32, w_u16, w_u8, Int.toNat_natCast, isB_tt, isB_tf, isB_ft, isB_ff, Gd_true, Gd_false, Gs_true, Gs_false, Cnd_true, Cnd_false, if_true, if_false, Bool.false_eq_true, Nat.zero_add, Option.isNone_some, Option.isNone_none, Bool.not_true, Bool.not_false, List.getElem?_cons_succ, List.getElem?_cons_zero, ln_sl_uint8, cv_int_uint, cv_int_uint8, ln_string, ia_sl_uint8, ld_uint8, cv_uint8_int, bd_weights_Code_0_1, ia_sl_weights_Code, bd_lightermanref08_C_, ix_string, bd_lightermanref08_C_0_1, ia_sl_lightermanref08_C, sl_sl_uint8_lo, sl_sl_uint8_hi, ln_sl_uint32, ia_sl_uint32, ld_uint32, cv_uint32_uint64, sl_sl_uint32_hi, ln_sl_int, ia_sl_int, ld_int, cv_uint_uint32, seql_sl_uint8, cv_uint32_uint8, cv_uint64_uint8, d6, d7, e2, e8]
        refine bs_sl_uint8 (cells := #[.int .u8 (q.log2 + 1 : Nat)]) (by decide) (by decide) (by kernel_rfl) fun w6 o6 x6 s6 => ?_
        have hb6 : Bs w6 (.slice (some ⟨w5.heap.size, 0, none⟩) 1 1) [UInt8.ofNat (q.log2 + 1)] := by
          refine ⟨_, _, _, rfl, rfl, Nat.le_refl _, fun _ => ⟨_, _, rfl, fun i hi => ?_⟩⟩
          rw [o6.cell, Nat.zero_add, List.map_cons, List.map_nil, b2v_of (by omega)]
        have hcv := cv_sl_uint8_string hb6
        have hcat := r_scat (P := pg) (t := 9) (ox := .tmp 0) (oy := .tmp 0) (w := w6) x ⟨([UInt8.ofNat (q.log2 + 1)] : List UInt8).toArray⟩ (by
          have : (⟨([UInt8.ofNat (q.log2 + 1)] : List UInt8).toArray⟩ : ByteArray).size = 1 := rfl
          omega)
        have hsz1 : (⟨([UInt8.ofNat (q.log2 + 1)] : List UInt8).toArray⟩ : ByteArray).size = 1 := rfl
        simp (disch := omega) only [Stp, Same, stepR_value, stepR_skip, r_add, r_sub, r_mul, r_quo, r_rem, r_and, r_or, r_xor, r_andNot, r_shl, r_shr, r_eql, r_neq, r_lss, r_leq, r_gtr, r_geq, r_neg, r_cpl, r_not, r_pick, r_min, r_max, r_nil, x20, x21, x30, x31, x32, x40, x41, x42, x43, ldC_some, Result.ok.injEq, Next.value.injEq, true_and, and_true, w_i64, w_u64, w_i32, w_u32, w_u16, w_u8, Int.toNat_natCast, isB_tt, isB_tf, isB_ft, isB_ff, Gd_true, Gd_false, Gs_true, Gs_false, Cnd_true, Cnd_false, if_true, if_false, Bool.false_eq_true, Nat.zero_add, Option.isNone_some, Option.isNone_none, Bool.not_true, Bool.not_false, List.getElem?_cons_succ, List.getElem?_cons_zero, ln_sl_uint8, cv_int_uint, cv_int_uint8, ln_string, ia_sl_uint8, ld_uint8, cv_uint8_int, bd_weights_Code_0_1, ia_sl_weights_Code, bd_lightermanref08_C_, ix_string, bd_lightermanref08_C_0_1, ia_sl_lightermanref08_C, sl_sl_uint8_lo, sl_sl_uint8_hi, ln_sl_uint32, ia_sl_uint32, ld_uint32, cv_uint32_uint64, sl_sl_uint32_hi, ln_sl_int, ia_sl_int, ld_int, cv_uint_uint32, seql_sl_uint8, cv_uint32_uint8, cv_uint64_uint8, hcv, r_scat, hsz1]
        refine ⟨⟨_, ?_, rfl⟩, x6⟩
        rw [lst_append]; rfl
      · have := no (fun h => hp h.2.2.2.2.2)
        have d7 : decide ((-1 : Int) < 0) = true := rfl
        simp (disch := omega) only [Stp, Same, stepR_value, stepR_skip, r_add, r_sub, r_mul, r_quo, r_rem, r_and, r_or, r_xor, r_andNot, r_shl, r_shr, r_eql, r_neq, r_lss, r_leq, r_gtr, r_geq, r_neg, r_cpl, r_not, r_pick, r_min, r_max, r_nil, x20, x21, x30, x31, x32, x40, x41, x42, x43, ldC_some, Result.ok.injEq, Next.value.injEq, true_and, and_true, w_i64, w_u64, w_i32, w_u32, w_u16, w_u8, Int.toNat_natCast, isB_tt, isB_tf, isB_ft, isB_ff, Gd_true, Gd_false, Gs_true, Gs_false, Cnd_true, Cnd_false, if_true, if_false, Bool.false_eq_true, Nat.zero_add, Option.isNone_some, Option.isNone_none, Bool.not_true, Bool.not_false, List.getElem?_cons_succ, List.getElem?_cons_zero, ln_sl_uint8, cv_int_uint, cv_int_uint8, ln_string, ia_sl_uint8, ld_uint8, cv_uint8_int, bd_weights_Code_0_1, ia_sl_weights_Code, bd_lightermanref08_C_, ix_string, bd_lightermanref08_C_0_1, ia_sl_lightermanref08_C, sl_sl_uint8_lo, sl_sl_uint8_hi, ln_sl_uint32, ia_sl_uint32, ld_uint32, cv_uint32_uint64, sl_sl_uint32_hi, ln_sl_int, ia_sl_int, ld_int, cv_uint_uint32, seql_sl_uint8, cv_uint32_uint8, cv_uint64_uint8, d6, d7]
        rw [this]; exact ⟨rfl, Ext.refl _ _⟩
end Go.Proofs.Ytoepfjgekpdddaa
/- Contract: the reference: the codes of weights. -/
namespace Go.Proofs.Ytoepfjgekpdddaa
open Go Go.En Go.Pu
set_option maxRecDepth 4000
set_option linter.unusedSimpArgs false
set_option linter.unusedVariables false

/-- the code that was told last, and how long it is -/
def Last8 (l : List Nat) (d q i code bits : Nat) : Prop :=
  (bits = 0 ∧ code = 0 ∧ atTo l q i = 0) ∨ (∃ q0, 1 ≤ q0 ∧ q0 ≤ q ∧ q0 ≤ d ∧ bits = d + 1 - q0 ∧ (code + 1) * 2 ^ (q0 - 1) = atTo l q i)

/-- shorter, a bit at a time -/
theorem ref_halve {lv dv outv wv sv : Value} {c0 b0 now : Nat} {w : World} (hc : c0 < 2 ^ 40) (hb : b0 ≤ 100) (hnow : now ≤ 100) {kn : Value → Value → Value → Value → Value → Value → Value → World → Prop}
    (hK : ref08_Codes_p4 kn lv dv outv (.int .i64 (c0 / 2 ^ (b0 - now) : Nat)) wv sv (.int .i64 now) w) :
    ref08_Codes_p8 kn lv dv outv (.int .i64 c0) (.int .i64 b0) wv sv (.int .i64 now) w := by
  unfold ref08_Codes_p8 ref08_Codes_p7 ref08_Codes_p6
  refine LoopD.rule (fun m (t : Value × Value) w' => ∃ j : Nat, m = b0 - j ∧ t = (.int .i64 (c0 / 2 ^ j : Nat), .int .i64 (b0 - j : Nat)) ∧ j ≤ b0 - now ∧ w' = w) b0 ⟨0, rfl, by simp, by omega, rfl⟩ ?_
  rintro m t w1 ⟨j, rfl, rfl, hj, rfl⟩
  have hcl := Nat.div_le_self c0 (2 ^ j)
  have hs : c0 / 2 ^ (j + 1) = c0 / 2 ^ j / 2 := by rw [Nat.pow_succ, Nat.div_div_eq_div_mul]
  unfold ref08_Codes_p5
  by_cases hlt : j < b0 - now
  · have d1 : decide ((now : Int) < ((b0 - j : Nat) : Int)) = true := by simp only [decide_eq_true_eq]; omega
    have e1 : ((c0 / 2 ^ j : Nat) : Int).tdiv 2 = ((c0 / 2 ^ (j + 1) : Nat) : Int) := by
      rw [hs]
      generalize c0 / 2 ^ j = z
      rw [Int.tdiv_eq_ediv_of_nonneg (by omega)]; omega
    have e2 : ((b0 - j : Nat) : Int) - 1 = ((b0 - (j + 1) : Nat) : Int) := by omega
    generalize c0 / 2 ^ j = x at *
    simp (disch := omega) only [Stp, Same, stepR_value, stepR_skip, r_add, r_sub, r_mul, r_quo, r_rem, r_and, r_or, r_xor, r_andNot, r_shl, r_shr, r_eql, r_neq, r_lss, r_leq, r_gtr, r_geq, r_neg, r_cpl, r_not, r_pick, r_min, r_max, r_nil, x20, x21, x30, x31, x32, x40, x41, x42, x43, ldC_some, Result.ok.injEq, Next.value.injEq, true_and, and_true, w_i64, w_u64, w_i32, w_u32, w_u16, w_u8, Int.toNat_natCast, isB_tt, isB_tf, isB_ft, isB_ff, Gd_true, Gd_false, Gs_true, Gs_false, Cnd_true, Cnd_false, if_true, if_false, Bool.false_eq_true, Nat.zero_add, Option.isNone_some, Option.isNone_none, Bool.not_true, Bool.not_false, List.getElem?_cons_succ, List.getElem?_cons_zero, ln_sl_uint8, cv_int_uint, cv_int_uint8, ln_string, ia_sl_uint8, ld_uint8, cv_uint8_int, bd_weights_Code_0_1, ia_sl_weights_Code, bd_lightermanref08_C_, ix_string, bd_lightermanref08_C_0_1, ia_sl_lightermanref08_C, sl_sl_uint8_lo, sl_sl_uint8_hi, ln_sl_uint32, ia_sl_uint32, ld_uint32, cv_uint32_uint64, sl_sl_uint32_hi, ln_sl_int, ia_sl_int, ld_int, cv_uint_uint32, seql_sl_uint8, cv_uint32_uint8, cv_uint64_uint8, d1, e1, e2]
    exact ⟨b0 - (j + 1), by omega, j + 1, rfl, rfl, by omega⟩
  · have d1 : decide ((now : Int) < ((b0 - j : Nat) : Int)) = false := by simp only [decide_eq_false_iff_not]; omega
    have : j = b0 - now := by omega
    subst this
    simp (disch := omega) only [Stp, Same, stepR_value, stepR_skip, r_add, r_sub, r_mul, r_quo, r_rem, r_and, r_or, r_xor, r_andNot, r_shl, r_shr, r_eql, r_neq, r_lss, r_leq, r_gtr, r_geq, r_neg, r_cpl, r_not, r_pick, r_min, r_max, r_nil, x20, x21, x30, x31, x32, x40, x41, x42, x43, ldC_some, Result.ok.injEq, Next.value.injEq, true_and, and_true, w_i64, w_u64, w_i32, w_u32, w_u16, w_u8, Int.toNat_natCast, isB_tt, isB_tf, isB_ft, isB_ff, Gd_true, Gd_false, Gs_true, Gs_false, Cnd_true, Cnd_false, if_true, if_false, Bool.false_eq_true, Nat.zero_add, Option.isNone_some, Option.isNone_none, Bool.not_true, Bool.not_false, List.getElem?_cons_succ, List.getElem?_cons_zero, ln_sl_uint8, cv_int_uint, cv_int_uint8, ln_string, ia_sl_uint8, ld_uint8, cv_uint8_int, bd_weights_Code_0_1, ia_sl_weights_Code, bd_lightermanref08_C_, ix_string, bd_lightermanref08_C_0_1, ia_sl_lightermanref08_C, sl_sl_uint8_lo, sl_sl_uint8_hi, ln_sl_uint32, ia_sl_uint32, ld_uint32, cv_uint32_uint64, sl_sl_uint32_hi, ln_sl_int, ia_sl_int, ld_int, cv_uint_uint32, seql_sl_uint8, cv_uint32_uint8, cv_uint64_uint8, d1]
    exact hK

theorem refCodes_c {x : ByteArray} {d : Nat} {w : World} (hd : depthN (nats (lst x)) = d) (hd0 : d ≠ 0) :
    Does pg F_ref08_Codes #[.string x] w (fun r w' => ∃ b cap rest, r = .tuple #[.slice (some ⟨b, 0, none⟩) x.size cap, .int .i64 0] ∧ Own w' b (cc (codesN (nats (lst x)) d) ++ rest) ∧ Ext w w' nob) := by
  refine ref08_Codes_does ?_
  have hsz := lst_size x
  obtain ⟨l, hnl⟩ : ∃ l, nats (lst x) = l := ⟨_, rfl⟩
  rw [hnl] at hsz hd ⊢
  obtain ⟨hall, hd11, hl2, hl256, hlast, hsum⟩ := depthN_ok hd hd0
  have hp2 : 2 ^ d ≤ 2 ^ 11 := Nat.pow_le_pow_right (by omega) hd11
  unfold ref08_Codes ref08_Codes_p37 ref08_Codes_p36
  refine (refDepth_c (by omega)).mono ?_
  rintro r w1 ⟨rfl, rfl⟩
  rw [hnl, hd]
  have n1 : ((d : Int) == 0) = false := beq_eq_false_iff_ne.2 (by omega)
  simp (disch := omega) only [Stp, Same, stepR_value, stepR_skip, r_add, r_sub, r_mul, r_quo, r_rem, r_and, r_or, r_xor, r_andNot, r_shl, r_shr, r_eql, r_neq, r_lss, r_leq, r_gtr, r_geq, r_neg, r_cpl, r_not, r_pick, r_min, r_max, r_nil, x20, x21, x30, x31, x32, x40, x41, x42, x43, ldC_some, Result.ok.injEq, Next.value.injEq, true_and, and_true, w_i64, w_u64, w_i32, w_u32, w_u16, w_u8, Int.toNat_natCast, isB_tt, isB_tf, isB_ft, isB_ff, Gd_true, Gd_false, Gs_true, Gs_false, Cnd_true, Cnd_false, if_true, if_false, Bool.false_eq_true, Nat.zero_add, Option.isNone_some, Option.isNone_none, Bool.not_true, Bool.not_false, List.getElem?_cons_succ, List.getElem?_cons_zero, ln_sl_uint8, cv_int_uint, cv_int_uint8, ln_string, ia_sl_uint8, ld_uint8, cv_uint8_int, bd_weights_Code_0_1, ia_sl_weights_Code, bd_lightermanref08_C_, ix_string, bd_lightermanref08_C_0_1, ia_sl_lightermanref08_C, sl_sl_uint8_lo, sl_sl_uint8_hi, ln_sl_uint32, ia_sl_uint32, ld_uint32, cv_uint32_uint64, sl_sl_uint32_hi, ln_sl_int, ia_sl_int, ld_int, cv_uint_uint32, seql_sl_uint8, cv_uint32_uint8, cv_uint64_uint8, n1]
  unfold ref08_Codes_p35 ref08_Codes_p34 ref08_Codes_p33 ref08_Codes_p32 ref08_Codes_p31
  refine LoopD.rule (fun m (t : Value × Value) w' => ∃ (i : Nat) (v : Value), m = x.size - i ∧ t = (v, .int .i64 i) ∧ i ≤ x.size ∧ OSl w' w1.heap.size 2 v i (cc (List.replicate i (0, 0))) ∧ Ext w1 w' nob) x.size
    ⟨0, _, rfl, rfl, by omega, OSl.nil _ _ _, Ext.refl _ _⟩ ?_
  rintro m t w2 ⟨i, v, rfl, rfl, hi, o2, x2⟩
  have z2 := x2.size
  unfold ref08_Codes_p30
  by_cases hlt : i < x.size
  · have d1 : decide ((i : Int) < (x.size : Int)) = true := by simp; omega
    obtain ⟨av, cv, rfl⟩ := o2.len
    simp (disch := omega) only [Stp, Same, stepR_value, stepR_skip, r_add, r_sub, r_mul, r_quo, r_rem, r_and, r_or, r_xor, r_andNot, r_shl, r_shr, r_eql, r_neq, r_lss, r_leq, r_gtr, r_geq, r_neg, r_cpl, r_not, r_pick, r_min, r_max, r_nil, x20, x21, x30, x31, x32, x40, x41, x42, x43, ldC_some, Result.ok.injEq, Next.value.injEq, true_and, and_true, w_i64, w_u64, w_i32, w_u32, w_u16, w_u8, Int.toNat_natCast, isB_tt, isB_tf, isB_ft, isB_ff, Gd_true, Gd_false, Gs_true, Gs_false, Cnd_true, Cnd_false, if_true, if_false, Bool.false_eq_true, Nat.zero_add, Option.isNone_some, Option.isNone_none, Bool.not_true, Bool.not_false, List.getElem?_cons_succ, List.getElem?_cons_zero, ln_sl_uint8, cv_int_uint, cv_int_uint8, ln_string, ia_sl_uint8, ld_uint8, cv_uint8_int, bd_weights_Code_0_1, ia_sl_weights_Code, bd_lightermanref08_C_, ix_string, bd_lightermanref08_C_0_1, ia_sl_lightermanref08_C, sl_sl_uint8_lo, sl_sl_uint8_hi, ln_sl_uint32, ia_sl_uint32, ld_uint32, cv_uint32_uint64, sl_sl_uint32_hi, ln_sl_int, ia_sl_int, ld_int, cv_uint_uint32, seql_sl_uint8, cv_uint32_uint8, cv_uint64_uint8, d1]
    refine bs_sl_lightermanref08_C (cells := #[.int .i64 0, .int .i64 0]) (by decide) (by decide) (by kernel_rfl) fun w3 o3 x3 s3 => ?_
    have z3 := x3.size
    refine ap_sl_lightermanref08_C_sl_lightermanref08_C (m := 1) (news := [.int .i64 0, .int .i64 0]) (o2.ext x3 (fun _ _ h => h)) (o3.cl (off := 0) (l := [.int .i64 0, .int .i64 0]) (n := 1) rfl (fun i hi => by rw [Nat.zero_add])) (by simp [one]) (by omega) (by omega) fun v4 w4 o4 x4 => ?_
    have e1 : cc (List.replicate i (0, 0)) ++ [Value.int .i64 0, Value.int .i64 0] = cc (List.replicate (i + 1) (0, 0)) := by
      rw [List.replicate_succ', cc_append]; rfl
    rw [e1] at o4
    obtain ⟨av4, cv4, rfl⟩ := o4.len
    exact ⟨x.size - (i + 1), by omega, i + 1, _, rfl, rfl, by omega, o4, (x2.seq x3).trans x4 fun b hb h => by omega⟩
  · have d1 : decide ((i : Int) < (x.size : Int)) = false := by simp; omega
    obtain rfl : i = x.size := by omega
    rcases o2.2 with ⟨_, h0⟩ | ⟨pb, cap, rest, rfl, hpb, ob2, hcap, hcap2⟩
    · omega
    simp (disch := omega) only [Stp, Same, stepR_value, stepR_skip, r_add, r_sub, r_mul, r_quo, r_rem, r_and, r_or, r_xor, r_andNot, r_shl, r_shr, r_eql, r_neq, r_lss, r_leq, r_gtr, r_geq, r_neg, r_cpl, r_not, r_pick, r_min, r_max, r_nil, x20, x21, x30, x31, x32, x40, x41, x42, x43, ldC_some, Result.ok.injEq, Next.value.injEq, true_and, and_true, w_i64, w_u64, w_i32, w_u32, w_u16, w_u8, Int.toNat_natCast, isB_tt, isB_tf, isB_ft, isB_ff, Gd_true, Gd_false, Gs_true, Gs_false, Cnd_true, Cnd_false, if_true, if_false, Bool.false_eq_true, Nat.zero_add, Option.isNone_some, Option.isNone_none, Bool.not_true, Bool.not_false, List.getElem?_cons_succ, List.getElem?_cons_zero, ln_sl_uint8, cv_int_uint, cv_int_uint8, ln_string, ia_sl_uint8, ld_uint8, cv_uint8_int, bd_weights_Code_0_1, ia_sl_weights_Code, bd_lightermanref08_C_, ix_string, bd_lightermanref08_C_0_1, ia_sl_lightermanref08_C, sl_sl_uint8_lo, sl_sl_uint8_hi, ln_sl_uint32, ia_sl_uint32, ld_uint32, cv_uint32_uint64, sl_sl_uint32_hi, ln_sl_int, ia_sl_int, ld_int, cv_uint_uint32, seql_sl_uint8, cv_uint32_uint8, cv_uint64_uint8, d1]
    unfold ref08_Codes_p29 ref08_Codes_p28
    simp (disch := omega) only [Stp, Same, stepR_value, stepR_skip, r_add, r_sub, r_mul, r_quo, r_rem, r_and, r_or, r_xor, r_andNot, r_shl, r_shr, r_eql, r_neq, r_lss, r_leq, r_gtr, r_geq, r_neg, r_cpl, r_not, r_pick, r_min, r_max, r_nil, x20, x21, x30, x31, x32, x40, x41, x42, x43, ldC_some, Result.ok.injEq, Next.value.injEq, true_and, and_true, w_i64, w_u64, w_i32, w_u32, w_u16, w_u8, Int.toNat_natCast, isB_tt, isB_tf, isB_ft, isB_ff, Gd_true, Gd_false, Gs_true, Gs_false, Cnd_true, Cnd_false, if_true, if_false, Bool.false_eq_true, Nat.zero_add, Option.isNone_some, Option.isNone_none, Bool.not_true, Bool.not_false, List.getElem?_cons_succ, List.getElem?_cons_zero, ln_sl_uint8, cv_int_uint, cv_int_uint8, ln_string, ia_sl_uint8, ld_uint8, cv_uint8_int, bd_weights_Code_0_1, ia_sl_weights_Code, bd_lightermanref08_C_, ix_string, bd_lightermanref08_C_0_1, ia_sl_lightermanref08_C, sl_sl_uint8_lo, sl_sl_uint8_hi, ln_sl_uint32, ia_sl_uint32, ld_uint32, cv_uint32_uint64, sl_sl_uint32_hi, ln_sl_int, ia_sl_int, ld_int, cv_uint_uint32, seql_sl_uint8, cv_uint32_uint8, cv_uint64_uint8]
    unfold ref08_Codes_p27 ref08_Codes_p26 ref08_Codes_p25 ref08_Codes_p24 ref08_Codes_p23
    rw [← hsz, ← codesTo_start l d] at ob2
    refine LoopD.rule (fun m (t : Value × Value × Value) w' => ∃ q code bits : Nat, m = d + 1 - q ∧ t = (.int .i64 code, .int .i64 bits, .int .i64 q) ∧ 1 ≤ q ∧ q ≤ d + 1 ∧ code < 2 ^ 20 ∧ Last8 l d q 0 code bits ∧ Own w' pb (cc (codesTo l d q 0) ++ rest) ∧ Ext w2 w' (fun y => y = pb)) d
      ⟨1, 0, 0, by omega, rfl, by omega, by omega, by decide, .inl ⟨rfl, rfl, atTo_start l⟩, ob2, Ext.refl _ _⟩ ?_
    rintro m t w3 ⟨q, code, bits, rfl, rfl, hq1, hqd, hcode, hlast8, o3, x3⟩
    unfold ref08_Codes_p22 ref08_Codes_p21
    by_cases hq : q ≤ d
    · have d2 : decide ((q : Int) ≤ (d : Int)) = true := by simp; omega
      simp (disch := omega) only [Stp, Same, stepR_value, stepR_skip, r_add, r_sub, r_mul, r_quo, r_rem, r_and, r_or, r_xor, r_andNot, r_shl, r_shr, r_eql, r_neq, r_lss, r_leq, r_gtr, r_geq, r_neg, r_cpl, r_not, r_pick, r_min, r_max, r_nil, x20, x21, x30, x31, x32, x40, x41, x42, x43, ldC_some, Result.ok.injEq, Next.value.injEq, true_and, and_true, w_i64, w_u64, w_i32, w_u32, w_u16, w_u8, Int.toNat_natCast, isB_tt, isB_tf, isB_ft, isB_ff, Gd_true, Gd_false, Gs_true, Gs_false, Cnd_true, Cnd_false, if_true, if_false, Bool.false_eq_true, Nat.zero_add, Option.isNone_some, Option.isNone_none, Bool.not_true, Bool.not_false, List.getElem?_cons_succ, List.getElem?_cons_zero, ln_sl_uint8, cv_int_uint, cv_int_uint8, ln_string, ia_sl_uint8, ld_uint8, cv_uint8_int, bd_weights_Code_0_1, ia_sl_weights_Code, bd_lightermanref08_C_, ix_string, bd_lightermanref08_C_0_1, ia_sl_lightermanref08_C, sl_sl_uint8_lo, sl_sl_uint8_hi, ln_sl_uint32, ia_sl_uint32, ld_uint32, cv_uint32_uint64, sl_sl_uint32_hi, ln_sl_int, ia_sl_int, ld_int, cv_uint_uint32, seql_sl_uint8, cv_uint32_uint8, cv_uint64_uint8, d2]
      unfold ref08_Codes_p20 ref08_Codes_p19 ref08_Codes_p18 ref08_Codes_p17 ref08_Codes_p16 ref08_Codes_p15
      refine LoopD.rule (fun m (t : Value × Value × Value) w' => ∃ i code bits : Nat, m = x.size - i ∧ t = (.int .i64 code, .int .i64 bits, .int .i64 i) ∧ i ≤ x.size ∧ code < 2 ^ 20 ∧ Last8 l d q i code bits ∧ Own w' pb (cc (codesTo l d q i) ++ rest) ∧ Ext w2 w' (fun y => y = pb)) x.size
        ⟨0, code, bits, rfl, rfl, by omega, hcode, hlast8, o3, x3⟩ ?_
      rintro m t w4 ⟨i, code, bits, rfl, rfl, hi, hcode, hlast8, o4, x4⟩
      unfold ref08_Codes_p14 ref08_Codes_p13
      by_cases hlt : i < x.size
      · have d3 : decide ((i : Int) < (x.size : Int)) = true := by simp; omega
        have hg := lst_nat hlt
        rw [hnl] at hg
        have hstep := atTo_step (l := l) (w := q) (i := i) (by omega)
        have hskip := codesTo_skip (l := l) (d := d) (w := q) (i := i) (by omega)
        have hset := codesTo_set (l := l) (d := d) (w := q) (i := i) (by omega)
        have hof := atTo_of (l := l) (w := q) (i := i)
        have hle := atTo_le (l := l) (d := d) (w := q) (i := i) hsum hall hq1 hq
        have hco : codeOf l d i = if l.getD i 0 = 0 then (0, 0) else (d + 1 - l.getD i 0, atOf l i / 2 ^ (l.getD i 0 - 1)) := rfl
        have hdv := at_dvd (l := l) (s := i) (d := d) (by omega)
        have hy : l.getD i 0 < 256 := by rw [← hnl]; exact nats_lt _ _ (getD_mem (by rw [lst_size]; exact hlt))
        generalize l.getD i 0 = y at *
        unfold ref08_Codes_p12 ref08_Codes_p11 ref08_Codes_p10 ref08_Codes_p9
        by_cases hyq : y = q
        · subst hyq
          have n2 : ((y : Int) != (y : Int)) = false := by simp
          have e1 : (d : Int) + 1 - (y : Int) = ((d + 1 - y : Nat) : Int) := by omega
          rw [if_neg (by omega), ← hof rfl] at hco
          rw [if_pos rfl] at hstep
          have hset := hset rfl
          have hdv := hdv (by omega) hsum hq
          rw [← hof rfl] at hdv
          rw [hco] at hset
          have hpx := Nat.two_pow_pos (y - 1)
          obtain ⟨cd, hcd⟩ := hdv
          have hdiv : atTo l y i / 2 ^ (y - 1) = cd := by rw [hcd, Nat.mul_div_cancel_left _ hpx]
          rw [hdiv] at hset
          have hcdl : cd ≤ atTo l y i := by rw [← hdiv]; exact Nat.div_le_self _ _
          have hl8' : Last8 l d y (i + 1) cd (d + 1 - y) := by
            refine .inr ⟨y, hq1, Nat.le_refl _, hq, rfl, ?_⟩
            rw [hstep, hcd, Nat.add_mul, Nat.mul_comm cd]; omega
          -- the end of each way
          have fin : ref08_Codes_p4 (fun l_0 d_4 out_5 code_7 bits_8 w_9 s_10 w => ref08_Codes_p3 (fun _ _ _ code_7 bits_8 _ s_10 w' => ∃ m, m < x.size - i ∧ ∃ i' code bits : Nat, m = x.size - i' ∧ (code_7, bits_8, s_10) = ((.int .i64 code : Value), (.int .i64 bits : Value), (.int .i64 i' : Value)) ∧ i' ≤ x.size ∧ code < 2 ^ 20 ∧ Last8 l d y i' code bits ∧ Own w' pb (cc (codesTo l d y i') ++ rest) ∧ Ext w2 w' (fun y => y = pb)) l_0 d_4 out_5 code_7 bits_8 w_9 s_10 w)
              (.string x) (.int .i64 d) (.slice (some ⟨pb, 0, none⟩) x.size cap) (.int .i64 cd) (.int .i64 y) (.int .i64 i) (.int .i64 (d + 1 - y : Nat)) w4 := by
            unfold ref08_Codes_p4
            simp (disch := omega) only [Stp, Same, stepR_value, stepR_skip, r_add, r_sub, r_mul, r_quo, r_rem, r_and, r_or, r_xor, r_andNot, r_shl, r_shr, r_eql, r_neq, r_lss, r_leq, r_gtr, r_geq, r_neg, r_cpl, r_not, r_pick, r_min, r_max, r_nil, x20, x21, x30, x31, x32, x40, x41, x42, x43, ldC_some, Result.ok.injEq, Next.value.injEq, true_and, and_true, w_i64, w_u64, w_i32, w_u32, w_u16, w_u8, Int.toNat_natCast, isB_tt, isB_tf, isB_ft, isB_ff, Gd_true, Gd_false, Gs_true, Gs_false, Cnd_true, Cnd_false, if_true, if_false, Bool.false_eq_true, Nat.zero_add, Option.isNone_some, Option.isNone_none, Bool.not_true, Bool.not_false, List.getElem?_cons_succ, List.getElem?_cons_zero, ln_sl_uint8, cv_int_uint, cv_int_uint8, ln_string, ia_sl_uint8, ld_uint8, cv_uint8_int, bd_weights_Code_0_1, ia_sl_weights_Code, bd_lightermanref08_C_, ix_string, bd_lightermanref08_C_0_1, ia_sl_lightermanref08_C, sl_sl_uint8_lo, sl_sl_uint8_hi, ln_sl_uint32, ia_sl_uint32, ld_uint32, cv_uint32_uint64, sl_sl_uint32_hi, ln_sl_int, ia_sl_int, ld_int, cv_uint_uint32, seql_sl_uint8, cv_uint32_uint8, cv_uint64_uint8]
            refine sta_lightermanref08_C o4 rfl (by simp [one]) (by rw [List.length_append, cc_length, codesTo_length]; omega) fun w5 o5 x5 s5 => ?_
            simp only [setAll] at o5
            have hcs := cc_set (L := codesTo l d y i) (i := i) (d + 1 - y, cd) (by rw [codesTo_length]; omega)
            simp only at hcs
            rw [List.set_append_left _ _ (by rw [cc_length, codesTo_length]; omega), List.set_append_left _ _ (by rw [List.length_set, cc_length, codesTo_length]; omega), hcs, hset] at o5
            unfold ref08_Codes_p3
            simp (disch := omega) only [Stp, Same, stepR_value, stepR_skip, r_add, r_sub, r_mul, r_quo, r_rem, r_and, r_or, r_xor, r_andNot, r_shl, r_shr, r_eql, r_neq, r_lss, r_leq, r_gtr, r_geq, r_neg, r_cpl, r_not, r_pick, r_min, r_max, r_nil, x20, x21, x30, x31, x32, x40, x41, x42, x43, ldC_some, Result.ok.injEq, Next.value.injEq, true_and, and_true, w_i64, w_u64, w_i32, w_u32, w_u16, w_u8, Int.toNat_natCast, isB_tt, isB_tf, isB_ft, isB_ff, Gd_true, Gd_false, Gs_true, Gs_false, Cnd_true, Cnd_false, if_true, if_false, Bool.false_eq_true, Nat.zero_add, Option.isNone_some, Option.isNone_none, Bool.not_true, Bool.not_false, List.getElem?_cons_succ, List.getElem?_cons_zero, ln_sl_uint8, cv_int_uint, cv_int_uint8, ln_string, ia_sl_uint8, ld_uint8, cv_uint8_int, bd_weights_Code_0_1, ia_sl_weights_Code, bd_lightermanref08_C_, ix_string, bd_lightermanref08_C_0_1, ia_sl_lightermanref08_C, sl_sl_uint8_lo, sl_sl_uint8_hi, ln_sl_uint32, ia_sl_uint32, ld_uint32, cv_uint32_uint64, sl_sl_uint32_hi, ln_sl_int, ia_sl_int, ld_int, cv_uint_uint32, seql_sl_uint8, cv_uint32_uint8, cv_uint64_uint8]
            exact ⟨x.size - (i + 1), by omega, i + 1, cd, d + 1 - y, rfl, rfl, by omega, by omega, hl8', o5, x4.trans x5 fun _ _ h => h⟩
          rcases hlast8 with ⟨rfl, rfl, hat0⟩ | ⟨q0, h1, h2, h3, rfl, h5⟩
          · have hcd0 : cd = 0 := by
              rw [hat0] at hdiv
              rw [← hdiv, Nat.zero_div]
            have d4 : decide ((0 : Int) < ((0 : Nat) : Int)) = false := rfl
            simp (disch := omega) only [Stp, Same, stepR_value, stepR_skip, r_add, r_sub, r_mul, r_quo, r_rem, r_and, r_or, r_xor, r_andNot, r_shl, r_shr, r_eql, r_neq, r_lss, r_leq, r_gtr, r_geq, r_neg, r_cpl, r_not, r_pick, r_min, r_max, r_nil, x20, x21, x30, x31, x32, x40, x41, x42, x43, ldC_some, Result.ok.injEq, Next.value.injEq, true_and, and_true, w_i64, w_u64, w_i32, w_u32, w_u16, w_u8, Int.toNat_natCast, isB_tt, isB_tf, isB_ft, isB_ff, Gd_true, Gd_false, Gs_true, Gs_false, Cnd_true, Cnd_false, if_true, if_false, Bool.false_eq_true, Nat.zero_add, Option.isNone_some, Option.isNone_none, Bool.not_true, Bool.not_false, List.getElem?_cons_succ, List.getElem?_cons_zero, ln_sl_uint8, cv_int_uint, cv_int_uint8, ln_string, ia_sl_uint8, ld_uint8, cv_uint8_int, bd_weights_Code_0_1, ia_sl_weights_Code, bd_lightermanref08_C_, ix_string, bd_lightermanref08_C_0_1, ia_sl_lightermanref08_C, sl_sl_uint8_lo, sl_sl_uint8_hi, ln_sl_uint32, ia_sl_uint32, ld_uint32, cv_uint32_uint64, sl_sl_uint32_hi, ln_sl_int, ia_sl_int, ld_int, cv_uint_uint32, seql_sl_uint8, cv_uint32_uint8, cv_uint64_uint8, d3, hg, n2, e1, d4]
            refine ref_halve (c0 := 0) (b0 := 0) (now := d + 1 - y) (by decide) (by omega) (by omega) ?_
            rw [Nat.zero_div]
            subst hcd0
            exact fin
          · have d4 : decide ((0 : Int) < ((d + 1 - q0 : Nat) : Int)) = true := by simp only [decide_eq_true_eq]; omega
            have e2 : (code : Int) + 1 = ((code + 1 : Nat) : Int) := by omega
            have hcd2 : (code + 1) / 2 ^ (d + 1 - q0 - (d + 1 - y)) = cd := by
              rw [← hdiv, ← h5, show d + 1 - q0 - (d + 1 - y) = y - q0 from by omega, show y - 1 = (y - q0) + (q0 - 1) from by omega, Nat.pow_add, Nat.mul_div_mul_right _ _ (Nat.two_pow_pos _)]
            simp (disch := omega) only [Stp, Same, stepR_value, stepR_skip, r_add, r_sub, r_mul, r_quo, r_rem, r_and, r_or, r_xor, r_andNot, r_shl, r_shr, r_eql, r_neq, r_lss, r_leq, r_gtr, r_geq, r_neg, r_cpl, r_not, r_pick, r_min, r_max, r_nil, x20, x21, x30, x31, x32, x40, x41, x42, x43, ldC_some, Result.ok.injEq, Next.value.injEq, true_and, and_true, w_i64, w_u64, w_i32, w_u32, w_u16, w_u8, Int.toNat_natCast, isB_tt, isB_tf, isB_ft, isB_ff, Gd_true, Gd_false, Gs_true, Gs_false, Cnd_true, Cnd_false, if_true, if_false, Bool.false_eq_true, Nat.zero_add, Option.isNone_some, Option.isNone_none, Bool.not_true, Bool.not_false, List.getElem?_cons_succ, List.getElem?_cons_zero, ln_sl_uint8, cv_int_uint, cv_int_uint8, ln_string, ia_sl_uint8, ld_uint8, cv_uint8_int, bd_weights_Code_0_1, ia_sl_weights_Code, bd_lightermanref08_C_, ix_string, bd_lightermanref08_C_0_1, ia_sl_lightermanref08_C, sl_sl_uint8_lo, sl_sl_uint8_hi, ln_sl_uint32, ia_sl_uint32, ld_uint32, cv_uint32_uint64, sl_sl_uint32_hi, ln_sl_int, ia_sl_int, ld_int, cv_uint_uint32, seql_sl_uint8, cv_uint32_uint8, cv_uint64_uint8, d3, hg, n2, e1, d4, e2]
            refine ref_halve (c0 := code + 1) (b0 := d + 1 - q0) (now := d + 1 - y) (by omega) (by omega) (by omega) ?_
            rw [hcd2]
            exact fin
        · have n2 : ((y : Int) != (q : Int)) = true := by simp; omega
          rw [if_neg hyq, Nat.add_zero] at hstep
          have hskip := hskip hyq
          unfold ref08_Codes_p3
          simp (disch := omega) only [Stp, Same, stepR_value, stepR_skip, r_add, r_sub, r_mul, r_quo, r_rem, r_and, r_or, r_xor, r_andNot, r_shl, r_shr, r_eql, r_neq, r_lss, r_leq, r_gtr, r_geq, r_neg, r_cpl, r_not, r_pick, r_min, r_max, r_nil, x20, x21, x30, x31, x32, x40, x41, x42, x43, ldC_some, Result.ok.injEq, Next.value.injEq, true_and, and_true, w_i64, w_u64, w_i32, w_u32, w_u16, w_u8, Int.toNat_natCast, isB_tt, isB_tf, isB_ft, isB_ff, Gd_true, Gd_false, Gs_true, Gs_false, Cnd_true, Cnd_false, if_true, if_false, Bool.false_eq_true, Nat.zero_add, Option.isNone_some, Option.isNone_none, Bool.not_true, Bool.not_false, List.getElem?_cons_succ, List.getElem?_cons_zero, ln_sl_uint8, cv_int_uint, cv_int_uint8, ln_string, ia_sl_uint8, ld_uint8, cv_uint8_int, bd_weights_Code_0_1, ia_sl_weights_Code, bd_lightermanref08_C_, ix_string, bd_lightermanref08_C_0_1, ia_sl_lightermanref08_C, sl_sl_uint8_lo, sl_sl_uint8_hi, ln_sl_uint32, ia_sl_uint32, ld_uint32, cv_uint32_uint64, sl_sl_uint32_hi, ln_sl_int, ia_sl_int, ld_int, cv_uint_uint32, seql_sl_uint8, cv_uint32_uint8, cv_uint64_uint8, d3, hg, n2]
          refine ⟨x.size - (i + 1), by omega, i + 1, code, bits, rfl, rfl, by omega, hcode, ?_, by rw [hskip]; exact o4, x4⟩
          rcases hlast8 with ⟨a1, a2, a3⟩ | ⟨q0, a1, a2, a3, a4, a5⟩
          · exact .inl ⟨a1, a2, by rw [hstep]; exact a3⟩
          · exact .inr ⟨q0, a1, a2, a3, a4, by rw [hstep]; exact a5⟩
      · have d3 : decide ((i : Int) < (x.size : Int)) = false := by simp; omega
        obtain rfl : i = x.size := by omega
        have e1 := atTo_next (l := l) (w := q) hq1
        have e2 := codesTo_next (l := l) (d := d) (w := q)
        rw [hsz] at e1 e2
        rw [e2] at o4
        have hl8' : Last8 l d (q + 1) 0 code bits := by
          rcases hlast8 with ⟨a1, a2, a3⟩ | ⟨q0, a1, a2, a3, a4, a5⟩
          · exact .inl ⟨a1, a2, by rw [← e1]; exact a3⟩
          · exact .inr ⟨q0, a1, by omega, a3, a4, by rw [← e1]; exact a5⟩
        unfold ref08_Codes_p2
        simp (disch := omega) only [Stp, Same, stepR_value, stepR_skip, r_add, r_sub, r_mul, r_quo, r_rem, r_and, r_or, r_xor, r_andNot, r_shl, r_shr, r_eql, r_neq, r_lss, r_leq, r_gtr, r_geq, r_neg, r_cpl, r_not, r_pick, r_min, r_max, r_nil, x20, x21, x30, x31, x32, x40, x41, x42, x43, ldC_some, Result.ok.injEq, Next.value.injEq, true_and, and_true, w_i64, w_u64, w_i32, w_u32, w_u16, w_u8, Int.toNat_natCast, isB_tt, isB_tf, isB_ft, isB_ff, Gd_true, Gd_false, Gs_true, Gs_false, Cnd_true, Cnd_false, if_true, if_false, Bool.false_eq_true, Nat.zero_add, Option.isNone_some, Option.isNone_none, Bool.not_true, Bool.not_false, List.getElem?_cons_succ, List.getElem?_cons_zero, ln_sl_uint8, cv_int_uint, cv_int_uint8, ln_string, ia_sl_uint8, ld_uint8, cv_uint8_int, bd_weights_Code_0_1, ia_sl_weights_Code, bd_lightermanref08_C_, ix_string, bd_lightermanref08_C_0_1, ia_sl_lightermanref08_C, sl_sl_uint8_lo, sl_sl_uint8_hi, ln_sl_uint32, ia_sl_uint32, ld_uint32, cv_uint32_uint64, sl_sl_uint32_hi, ln_sl_int, ia_sl_int, ld_int, cv_uint_uint32, seql_sl_uint8, cv_uint32_uint8, cv_uint64_uint8, d3]
        exact ⟨d + 1 - (q + 1), by omega, q + 1, code, bits, rfl, rfl, by omega, by omega, hcode, hl8', o4, x4⟩
    · have d2 : decide ((q : Int) ≤ (d : Int)) = false := by simp; omega
      rw [codesTo_end hall (by omega)] at o3
      unfold ref08_Codes_p1
      simp (disch := omega) only [Stp, Same, stepR_value, stepR_skip, r_add, r_sub, r_mul, r_quo, r_rem, r_and, r_or, r_xor, r_andNot, r_shl, r_shr, r_eql, r_neq, r_lss, r_leq, r_gtr, r_geq, r_neg, r_cpl, r_not, r_pick, r_min, r_max, r_nil, x20, x21, x30, x31, x32, x40, x41, x42, x43, ldC_some, Result.ok.injEq, Next.value.injEq, true_and, and_true, w_i64, w_u64, w_i32, w_u32, w_u16, w_u8, Int.toNat_natCast, isB_tt, isB_tf, isB_ft, isB_ff, Gd_true, Gd_false, Gs_true, Gs_false, Cnd_true, Cnd_false, if_true, if_false, Bool.false_eq_true, Nat.zero_add, Option.isNone_some, Option.isNone_none, Bool.not_true, Bool.not_false, List.getElem?_cons_succ, List.getElem?_cons_zero, ln_sl_uint8, cv_int_uint, cv_int_uint8, ln_string, ia_sl_uint8, ld_uint8, cv_uint8_int, bd_weights_Code_0_1, ia_sl_weights_Code, bd_lightermanref08_C_, ix_string, bd_lightermanref08_C_0_1, ia_sl_lightermanref08_C, sl_sl_uint8_lo, sl_sl_uint8_hi, ln_sl_uint32, ia_sl_uint32, ld_uint32, cv_uint32_uint64, sl_sl_uint32_hi, ln_sl_int, ia_sl_int, ld_int, cv_uint_uint32, seql_sl_uint8, cv_uint32_uint8, cv_uint64_uint8, d2]
      exact ⟨pb, cap, rest, rfl, o3, x2.trans x3 fun _ hb h => by omega⟩

theorem refCodes_bad {x : ByteArray} {w : World} (hl : x.size ≤ 100000) (hd : depthN (nats (lst x)) = 0) :
    Does pg F_ref08_Codes #[.string x] w (fun r w' => r = .tuple #[.slice none 0 0, .int .i64 1] ∧ w' = w) := by
  refine ref08_Codes_does ?_
  unfold ref08_Codes ref08_Codes_p37 ref08_Codes_p36
  refine (refDepth_c hl).mono ?_
  rintro r w1 ⟨rfl, rfl⟩
  rw [hd]
  have n1 : (((0 : Nat) : Int) == 0) = true := rfl
  simp (disch := omega) only [Stp, Same, stepR_value, stepR_skip, r_add, r_sub, r_mul, r_quo, r_rem, r_and, r_or, r_xor, r_andNot, r_shl, r_shr, r_eql, r_neq, r_lss, r_leq, r_gtr, r_geq, r_neg, r_cpl, r_not, r_pick, r_min, r_max, r_nil, x20, x21, x30, x31, x32, x40, x41, x42, x43, ldC_some, Result.ok.injEq, Next.value.injEq, true_and, and_true, w_i64, w_u64, w_i32, w_u32, w_u16, w_u8, Int.toNat_natCast, isB_tt, isB_tf, isB_ft, isB_ff, Gd_true, Gd_false, Gs_true, Gs_false, Cnd_true, Cnd_false, if_true, if_false, Bool.false_eq_true, Nat.zero_add, Option.isNone_some, Option.isNone_none, Bool.not_true, Bool.not_false, List.getElem?_cons_succ, List.getElem?_cons_zero, ln_sl_uint8, cv_int_uint, cv_int_uint8, ln_string, ia_sl_uint8, ld_uint8, cv_uint8_int, bd_weights_Code_0_1, ia_sl_weights_Code, bd_lightermanref08_C_, ix_string, bd_lightermanref08_C_0_1, ia_sl_lightermanref08_C, sl_sl_uint8_lo, sl_sl_uint8_hi, ln_sl_uint32, ia_sl_uint32, ld_uint32, cv_uint32_uint64, sl_sl_uint32_hi, ln_sl_int, ia_sl_int, ld_int, cv_uint_uint32, seql_sl_uint8, cv_uint32_uint8, cv_uint64_uint8, n1]
end Go.Proofs.Ytoepfjgekpdddaa
/- Contract: the reference: a description of weights. -/
namespace Go.Proofs.Ytoepfjgekpdddaa
open Go Go.En Go.Pu
set_option maxRecDepth 4000
set_option linter.unusedSimpArgs false
set_option linter.unusedVariables false

theorem refPush {base i x : Nat} {l0 v' i6 : Value} {cells : List Value} {w : World} (o : OSl w base 1 v' i cells) (hb : base ≤ w.heap.size) (hi : i ≤ 100000) (hx : x < 256) {kn : Value → Value → Value → World → Prop}
    (hK : ∀ v2 w2, OSl w2 base 1 v2 (i + 1) (cells ++ [.int .u8 x]) → Ext w w2 (fun y => base ≤ y) → kn l0 v2 i6 w2) : ref08_Write_p3 kn l0 v' i6 (.int .u8 x) w := by
  unfold ref08_Write_p3
  obtain ⟨av, cv, rfl⟩ := o.len
  refine bs_sl_uint8 (cells := #[.int .u8 x]) (by decide) (by decide) (by kernel_rfl) fun w5 o5 x5 s5 => ?_
  have z5 := x5.size
  refine ap_sl_uint8_sl_uint8 (m := 1) (news := [.int .u8 x]) (o.ext x5 (fun _ _ h => h)) (o5.cl (off := 0) (l := [.int .u8 x]) (n := 1) rfl (fun i hi => by rw [Nat.zero_add])) (by simp [one]) (by omega) (by omega) fun v6 w6 o6 x6 => ?_
  exact hK v6 w6 o6 ((x5.mono fun _ _ h => h.elim).seq x6)

theorem refWrite8_bad {x : ByteArray} {w : World} (hl : x.size ≤ 100000) (hd : depthN (nats (lst x)) = 0 ∨ 129 < x.size) :
    Does pg F_ref08_Write #[.string x] w (fun r w' => r = .tuple #[.string ⟨#[]⟩, .int .i64 (if depthN (nats (lst x)) = 0 then 1 else 12)] ∧ w' = w) := by
  refine ref08_Write_does ?_
  unfold ref08_Write ref08_Write_p16 ref08_Write_p15
  refine (refDepth_c hl).mono ?_
  rintro r w1 ⟨rfl, rfl⟩
  by_cases h0 : depthN (nats (lst x)) = 0
  · have n1 : (((depthN (nats (lst x)) : Nat) : Int) == 0) = true := by rw [h0]; rfl
    simp (disch := omega) only [Stp, Same, stepR_value, stepR_skip, r_add, r_sub, r_mul, r_quo, r_rem, r_and, r_or, r_xor, r_andNot, r_shl, r_shr, r_eql, r_neq, r_lss, r_leq, r_gtr, r_geq, r_neg, r_cpl, r_not, r_pick, r_min, r_max, r_nil, x20, x21, x30, x31, x32, x40, x41, x42, x43, ldC_some, Result.ok.injEq, Next.value.injEq, true_and, and_true, w_i64, w_u64, w_i32, w_u32, w_u16, w_u8, Int.toNat_natCast, isB_tt, isB_tf, isB_ft, isB_ff, Gd_true, Gd_false, Gs_true, Gs_false, Cnd_true, Cnd_false, if_true, if_false, Bool.false_eq_true, Nat.zero_add, Option.isNone_some, Option.isNone_none, Bool.not_true, Bool.not_false, List.getElem?_cons_succ, List.getElem?_cons_zero, ln_sl_uint8, cv_int_uint, cv_int_uint8, ln_string, ia_sl_uint8, ld_uint8, cv_uint8_int, bd_weights_Code_0_1, ia_sl_weights_Code, bd_lightermanref08_C_, ix_string, bd_lightermanref08_C_0_1, ia_sl_lightermanref08_C, sl_sl_uint8_lo, sl_sl_uint8_hi, ln_sl_uint32, ia_sl_uint32, ld_uint32, cv_uint32_uint64, sl_sl_uint32_hi, ln_sl_int, ia_sl_int, ld_int, cv_uint_uint32, seql_sl_uint8, cv_uint32_uint8, cv_uint64_uint8, n1]
    rw [if_pos h0]
  · have n1 : (((depthN (nats (lst x)) : Nat) : Int) == 0) = false := beq_eq_false_iff_ne.2 (by omega)
    have d1 : decide ((129 : Int) < (x.size : Int)) = true := by simp; omega
    simp (disch := omega) only [Stp, Same, stepR_value, stepR_skip, r_add, r_sub, r_mul, r_quo, r_rem, r_and, r_or, r_xor, r_andNot, r_shl, r_shr, r_eql, r_neq, r_lss, r_leq, r_gtr, r_geq, r_neg, r_cpl, r_not, r_pick, r_min, r_max, r_nil, x20, x21, x30, x31, x32, x40, x41, x42, x43, ldC_some, Result.ok.injEq, Next.value.injEq, true_and, and_true, w_i64, w_u64, w_i32, w_u32, w_u16, w_u8, Int.toNat_natCast, isB_tt, isB_tf, isB_ft, isB_ff, Gd_true, Gd_false, Gs_true, Gs_false, Cnd_true, Cnd_false, if_true, if_false, Bool.false_eq_true, Nat.zero_add, Option.isNone_some, Option.isNone_none, Bool.not_true, Bool.not_false, List.getElem?_cons_succ, List.getElem?_cons_zero, ln_sl_uint8, cv_int_uint, cv_int_uint8, ln_string, ia_sl_uint8, ld_uint8, cv_uint8_int, bd_weights_Code_0_1, ia_sl_weights_Code, bd_lightermanref08_C_, ix_string, bd_lightermanref08_C_0_1, ia_sl_lightermanref08_C, sl_sl_uint8_lo, sl_sl_uint8_hi, ln_sl_uint32, ia_sl_uint32, ld_uint32, cv_uint32_uint64, sl_sl_uint32_hi, ln_sl_int, ia_sl_int, ld_int, cv_uint_uint32, seql_sl_uint8, cv_uint32_uint8, cv_uint64_uint8, n1, d1]
    rw [if_neg h0]

theorem refWrite8_c {x : ByteArray} {d : Nat} {w : World} (hd : depthN (nats (lst x)) = d) (hd0 : d ≠ 0) (hl : x.size ≤ 129) :
    Does pg F_ref08_Write #[.string x] w (fun r w' => ∃ y : ByteArray, lst y = byts (wrB (nats (lst x))) ∧ r = .tuple #[.string y, .int .i64 0] ∧ Ext w w' nob) := by
  refine ref08_Write_does ?_
  have hsz := lst_size x
  obtain ⟨l, hnl⟩ : ∃ l, nats (lst x) = l := ⟨_, rfl⟩
  rw [hnl] at hsz hd ⊢
  obtain ⟨hall, hd11, hl2, hl256, hlast, hsum⟩ := depthN_ok hd hd0
  unfold ref08_Write ref08_Write_p16 ref08_Write_p15
  refine (refDepth_c (by omega)).mono ?_
  rintro r w1 ⟨rfl, rfl⟩
  rw [hnl, hd]
  have n1 : ((d : Int) == 0) = false := beq_eq_false_iff_ne.2 (by omega)
  have d1 : decide ((129 : Int) < (x.size : Int)) = false := by simp; omega
  have e2 : (126 : Int) + (x.size : Int) = ((126 + x.size : Nat) : Int) := by omega
  have e8 : IntKind.u8.wrap ((126 + x.size : Nat) : Int) = ((126 + x.size : Nat) : Int) := w_u8 (by omega) (by omega)
  simp (disch := omega) only [Stp, Same, stepR_value, stepR_skip, r_add, r_sub, r_mul, r_quo, r_rem, r_and, r_or, r_xor, r_andNot, r_shl, r_shr, r_eql, r_neq, r_lss, r_leq, r_gtr, r_geq, r_neg, r_cpl, r_not, r_pick, r_min, r_max, r_nil, x20, x21, x30, x31, x32, x40, x41, x42, x43, ldC_some, Result.ok.injEq, Next.value.injEq, true_and, and_true, w_i64, w_u64, w_i32, w_u32, w_u16, w_u8, Int.toNat_natCast, isB_tt, isB_tf, isB_ft, isB_ff, Gd_true, Gd_false, Gs_true, Gs_false, Cnd_true, Cnd_false, if_true, if_false, Bool.false_eq_true, Nat.zero_add, Option.isNone_some, Option.isNone_none, Bool.not_true, Bool.not_false, List.getElem?_cons_succ, List.getElem?_cons_zero, ln_sl_uint8, cv_int_uint, cv_int_uint8, ln_string, ia_sl_uint8, ld_uint8, cv_uint8_int, bd_weights_Code_0_1, ia_sl_weights_Code, bd_lightermanref08_C_, ix_string, bd_lightermanref08_C_0_1, ia_sl_lightermanref08_C, sl_sl_uint8_lo, sl_sl_uint8_hi, ln_sl_uint32, ia_sl_uint32, ld_uint32, cv_uint32_uint64, sl_sl_uint32_hi, ln_sl_int, ia_sl_int, ld_int, cv_uint_uint32, seql_sl_uint8, cv_uint32_uint8, cv_uint64_uint8, n1, d1, e2, e8]
  refine bs_sl_uint8 (cells := #[.int .u8 (126 + x.size : Nat)]) (by decide) (by decide) (by kernel_rfl) fun w2 o2 x2 s2 => ?_
  obtain ⟨m, hm⟩ : ∃ m, m = l.take (x.size - 1) := ⟨_, rfl⟩
  have hml : m.length = x.size - 1 := by rw [hm, List.length_take]; omega
  have hmg : ∀ i, i < x.size - 1 → m.getD i 0 = l.getD i 0 := fun i hi => by
    rw [hm, List.getD_eq_getElem?_getD, List.getD_eq_getElem?_getD, List.getElem?_take_of_lt hi]
  have hm11 : ∀ y ∈ m, y ≤ 11 := fun y hy => by rw [hm] at hy; have := hall y (List.mem_of_mem_take hy); omega
  have hm16 : ∀ y ∈ m, y < 16 := fun y hy => by have := hm11 y hy; omega
  have hwr : wrB l = (126 + x.size) :: packN m := by unfold wrB; rw [hsz, hm]
  have hpl := packN_length m
  have ho2 : OSl w2 w1.heap.size 1 (.slice (some ⟨w1.heap.size, 0, none⟩) 1 1) (0 + 1) ((byts ((126 + x.size) :: (packN m).take 0)).map b2v) := by
    refine ⟨by simp, .inr ⟨_, 1, [], rfl, Nat.le_refl _, ?_, rfl, Nat.le_refl _⟩⟩
    simp only [byts, List.take_zero, List.map_cons, List.map_nil, b2v_of (show 126 + x.size < 256 by omega), List.append_nil]
    exact o2
  unfold ref08_Write_p14 ref08_Write_p13 ref08_Write_p12 ref08_Write_p11 ref08_Write_p10
  refine LoopD.rule (fun q (t : Value × Value) w' => ∃ (j : Nat) (v' : Value), q = x.size - 1 + 1 - j ∧ t = (v', .int .i64 (2 * j : Nat)) ∧ j ≤ (m.length + 1) / 2 ∧ OSl w' w1.heap.size 1 v' (j + 1) ((byts ((126 + x.size) :: (packN m).take j)).map b2v) ∧ Ext w1 w' nob) (x.size - 1 + 1)
    ⟨0, _, rfl, rfl, by omega, ho2, x2⟩ ?_
  rintro q t w3 ⟨j, v', rfl, rfl, hj, o3, x3⟩
  have z3 := x3.size
  unfold ref08_Write_p9 ref08_Write_p8
  have e3 : ((2 * j : Nat) : Int) + 1 = ((2 * j + 1 : Nat) : Int) := by omega
  have e4 : ((2 * j : Nat) : Int) + 2 = ((2 * (j + 1) : Nat) : Int) := by omega
  by_cases hlt : 2 * j + 1 < x.size
  · have d2 : decide (((2 * j + 1 : Nat) : Int) < (x.size : Int)) = true := by simp only [decide_eq_true_eq]; omega
    have g1 := lst_nat (x := x) (i := 2 * j) (by omega)
    rw [hnl, ← hmg (2 * j) (by omega)] at g1
    have hs1 := take_snocD (ns := packN m) (i := j) (by omega)
    rw [packN_get (by omega)] at hs1
    have hx11 : m.getD (2 * j) 0 ≤ 11 := hm11 _ (getD_mem (by omega))
    have hy11 := getD_lt hm16 (2 * j + 1)
    have hcells : ∀ z : Nat, z = m.getD (2 * j) 0 * 16 + m.getD (2 * j + 1) 0 → z < 256 → ((byts ((126 + x.size) :: (packN m).take j)).map b2v ++ [.int .u8 z]) = (byts ((126 + x.size) :: (packN m).take (j + 1))).map b2v := fun z hz hz2 => by
      rw [hs1, ← hz]
      simp only [byts, List.map_append, List.map_cons, List.map_nil, b2v_of hz2, List.cons_append]
    have hodd : ¬ 2 * j + 1 < x.size - 1 → m.getD (2 * j + 1) 0 = 0 := fun h => by
      rw [List.getD_eq_getElem?_getD, List.getElem?_eq_none (by omega)]; rfl
    have g2 : 2 * j + 1 < x.size - 1 → (x[2 * j + 1]'hlt).toNat = m.getD (2 * j + 1) 0 := fun h => by
      rw [lst_nat hlt, hnl, ← hmg (2 * j + 1) h]
    generalize m.getD (2 * j) 0 = y at *
    generalize m.getD (2 * j + 1) 0 = z at *
    have e5 : (y : Int) * 16 = ((y * 16 : Nat) : Int) := by omega
    unfold ref08_Write_p7 ref08_Write_p6 ref08_Write_p5 ref08_Write_p4
    by_cases h2 : 2 * j + 1 < x.size - 1
    · have d3 : decide (((2 * (j + 1) : Nat) : Int) < (x.size : Int)) = true := by simp only [decide_eq_true_eq]; omega
      have g2 := g2 h2
      have e6 : ((y * 16 : Nat) : Int) + (z : Int) = ((y * 16 + z : Nat) : Int) := by omega
      simp (disch := omega) only [Stp, Same, stepR_value, stepR_skip, r_add, r_sub, r_mul, r_quo, r_rem, r_and, r_or, r_xor, r_andNot, r_shl, r_shr, r_eql, r_neq, r_lss, r_leq, r_gtr, r_geq, r_neg, r_cpl, r_not, r_pick, r_min, r_max, r_nil, x20, x21, x30, x31, x32, x40, x41, x42, x43, ldC_some, Result.ok.injEq, Next.value.injEq, true_and, and_true, w_i64, w_u64, w_i32, w_u32, w_u16, w_u8, Int.toNat_natCast, isB_tt, isB_tf, isB_ft, isB_ff, Gd_true, Gd_false, Gs_true, Gs_false, Cnd_true, Cnd_false, if_true, if_false, Bool.false_eq_true, Nat.zero_add, Option.isNone_some, Option.isNone_none, Bool.not_true, Bool.not_false, List.getElem?_cons_succ, List.getElem?_cons_zero, ln_sl_uint8, cv_int_uint, cv_int_uint8, ln_string, ia_sl_uint8, ld_uint8, cv_uint8_int, bd_weights_Code_0_1, ia_sl_weights_Code, bd_lightermanref08_C_, ix_string, bd_lightermanref08_C_0_1, ia_sl_lightermanref08_C, sl_sl_uint8_lo, sl_sl_uint8_hi, ln_sl_uint32, ia_sl_uint32, ld_uint32, cv_uint32_uint64, sl_sl_uint32_hi, ln_sl_int, ia_sl_int, ld_int, cv_uint_uint32, seql_sl_uint8, cv_uint32_uint8, cv_uint64_uint8, e3, d2, g1, e5, e4, d3, g2, e6]
      refine refPush (x := y * 16 + z) o3 (by omega) (by omega) (by omega) fun v4 w4 o4 x4 => ?_
      rw [hcells _ rfl (by omega)] at o4
      unfold ref08_Write_p2
      simp (disch := omega) only [Stp, Same, stepR_value, stepR_skip, r_add, r_sub, r_mul, r_quo, r_rem, r_and, r_or, r_xor, r_andNot, r_shl, r_shr, r_eql, r_neq, r_lss, r_leq, r_gtr, r_geq, r_neg, r_cpl, r_not, r_pick, r_min, r_max, r_nil, x20, x21, x30, x31, x32, x40, x41, x42, x43, ldC_some, Result.ok.injEq, Next.value.injEq, true_and, and_true, w_i64, w_u64, w_i32, w_u32, w_u16, w_u8, Int.toNat_natCast, isB_tt, isB_tf, isB_ft, isB_ff, Gd_true, Gd_false, Gs_true, Gs_false, Cnd_true, Cnd_false, if_true, if_false, Bool.false_eq_true, Nat.zero_add, Option.isNone_some, Option.isNone_none, Bool.not_true, Bool.not_false, List.getElem?_cons_succ, List.getElem?_cons_zero, ln_sl_uint8, cv_int_uint, cv_int_uint8, ln_string, ia_sl_uint8, ld_uint8, cv_uint8_int, bd_weights_Code_0_1, ia_sl_weights_Code, bd_lightermanref08_C_, ix_string, bd_lightermanref08_C_0_1, ia_sl_lightermanref08_C, sl_sl_uint8_lo, sl_sl_uint8_hi, ln_sl_uint32, ia_sl_uint32, ld_uint32, cv_uint32_uint64, sl_sl_uint32_hi, ln_sl_int, ia_sl_int, ld_int, cv_uint_uint32, seql_sl_uint8, cv_uint32_uint8, cv_uint64_uint8, e4]
      exact ⟨x.size - 1 + 1 - (j + 1), by omega, j + 1, _, rfl, rfl, by omega, o4, x3.trans x4 fun b hb h => by omega⟩
    · have d3 : decide (((2 * (j + 1) : Nat) : Int) < (x.size : Int)) = false := by simp only [decide_eq_false_iff_not]; omega
      have hy0 := hodd h2
      simp (disch := omega) only [Stp, Same, stepR_value, stepR_skip, r_add, r_sub, r_mul, r_quo, r_rem, r_and, r_or, r_xor, r_andNot, r_shl, r_shr, r_eql, r_neq, r_lss, r_leq, r_gtr, r_geq, r_neg, r_cpl, r_not, r_pick, r_min, r_max, r_nil, x20, x21, x30, x31, x32, x40, x41, x42, x43, ldC_some, Result.ok.injEq, Next.value.injEq, true_and, and_true, w_i64, w_u64, w_i32, w_u32, w_u16, w_u8, Int.toNat_natCast, isB_tt, isB_tf, isB_ft, isB_ff, Gd_true, Gd_false, Gs_true, Gs_false, Cnd_true, Cnd_false, if_true, if_false, Bool.false_eq_true, Nat.zero_add, Option.isNone_some, Option.isNone_none, Bool.not_true, Bool.not_false, List.getElem?_cons_succ, List.getElem?_cons_zero, ln_sl_uint8, cv_int_uint, cv_int_uint8, ln_string, ia_sl_uint8, ld_uint8, cv_uint8_int, bd_weights_Code_0_1, ia_sl_weights_Code, bd_lightermanref08_C_, ix_string, bd_lightermanref08_C_0_1, ia_sl_lightermanref08_C, sl_sl_uint8_lo, sl_sl_uint8_hi, ln_sl_uint32, ia_sl_uint32, ld_uint32, cv_uint32_uint64, sl_sl_uint32_hi, ln_sl_int, ia_sl_int, ld_int, cv_uint_uint32, seql_sl_uint8, cv_uint32_uint8, cv_uint64_uint8, e3, d2, g1, e5, e4, d3]
      refine refPush (x := y * 16) o3 (by omega) (by omega) (by omega) fun v4 w4 o4 x4 => ?_
      rw [hcells _ (by omega) (by omega)] at o4
      unfold ref08_Write_p2
      simp (disch := omega) only [Stp, Same, stepR_value, stepR_skip, r_add, r_sub, r_mul, r_quo, r_rem, r_and, r_or, r_xor, r_andNot, r_shl, r_shr, r_eql, r_neq, r_lss, r_leq, r_gtr, r_geq, r_neg, r_cpl, r_not, r_pick, r_min, r_max, r_nil, x20, x21, x30, x31, x32, x40, x41, x42, x43, ldC_some, Result.ok.injEq, Next.value.injEq, true_and, and_true, w_i64, w_u64, w_i32, w_u32, w_u16, w_u8, Int.toNat_natCast, isB_tt, isB_tf, isB_ft, isB_ff, Gd_true, Gd_false, Gs_true, Gs_false, Cnd_true, Cnd_false, if_true, if_false, Bool.false_eq_true, Nat.zero_add, Option.isNone_some, Option.isNone_none, Bool.not_true, Bool.not_false, List.getElem?_cons_succ, List.getElem?_cons_zero, ln_sl_uint8, cv_int_uint, cv_int_uint8, ln_string, ia_sl_uint8, ld_uint8, cv_uint8_int, bd_weights_Code_0_1, ia_sl_weights_Code, bd_lightermanref08_C_, ix_string, bd_lightermanref08_C_0_1, ia_sl_lightermanref08_C, sl_sl_uint8_lo, sl_sl_uint8_hi, ln_sl_uint32, ia_sl_uint32, ld_uint32, cv_uint32_uint64, sl_sl_uint32_hi, ln_sl_int, ia_sl_int, ld_int, cv_uint_uint32, seql_sl_uint8, cv_uint32_uint8, cv_uint64_uint8, e4]
      exact ⟨x.size - 1 + 1 - (j + 1), by omega, j + 1, _, rfl, rfl, by omega, o4, x3.trans x4 fun b hb h => by omega⟩
  · have d2 : decide (((2 * j + 1 : Nat) : Int) < (x.size : Int)) = false := by simp only [decide_eq_false_iff_not]; omega
    have hjE : j = (packN m).length := by omega
    rw [List.take_of_length_le (by omega), ← hwr] at o3
    have hb3 : Bs w3 v' (byts (wrB l)) := o3.sl
    have hcv := cv_sl_uint8_string hb3
    unfold ref08_Write_p1
    simp (disch := omega) only [Stp, Same, stepR_value, stepR_skip, r_add, r_sub, r_mul, r_quo, r_rem, r_and, r_or, r_xor, r_andNot, r_shl, r_shr, r_eql, r_neq, r_lss, r_leq, r_gtr, r_geq, r_neg, r_cpl, r_not, r_pick, r_min, r_max, r_nil, x20, x21, x30, x31, x32, x40, x41, x42, x43, ldC_some, Result.ok.injEq, Next.value.injEq, true_and, and_true, w_i64, w_u64, w_i32, w_u32, w_u16, w_u8, Int.toNat_natCast, isB_tt, isB_tf, isB_ft, isB_ff, Gd_true, Gd_false, Gs_true, Gs_false, Cnd_true, Cnd_false, if_true, if_false, Bool.false_eq_true, Nat.zero_add, Option.isNone_some, Option.isNone_none, Bool.not_true, Bool.not_false, List.getElem?_cons_succ, List.getElem?_cons_zero, ln_sl_uint8, cv_int_uint, cv_int_uint8, ln_string, ia_sl_uint8, ld_uint8, cv_uint8_int, bd_weights_Code_0_1, ia_sl_weights_Code, bd_lightermanref08_C_, ix_string, bd_lightermanref08_C_0_1, ia_sl_lightermanref08_C, sl_sl_uint8_lo, sl_sl_uint8_hi, ln_sl_uint32, ia_sl_uint32, ld_uint32, cv_uint32_uint64, sl_sl_uint32_hi, ln_sl_int, ia_sl_int, ld_int, cv_uint_uint32, seql_sl_uint8, cv_uint32_uint8, cv_uint64_uint8, e3, d2, hcv]
    exact ⟨_, rfl, rfl, x3⟩
end Go.Proofs.Ytoepfjgekpdddaa
