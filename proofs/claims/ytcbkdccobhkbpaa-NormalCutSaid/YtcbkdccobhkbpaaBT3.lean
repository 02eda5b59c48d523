/- Contracts: bits of bytes, read from the front. -/
import Derived.Test.YtcbkdccobhkbpaaGT
import Derived.Test.YtcbkdccobhkbpaaEnBld
import Derived.Test.YtcbkdccobhkbpaaPuN
import Derived.Test.YtcbkdccobhkbpaaBF1
import Derived.Laws.Strings
import Derived.Test.YtcbkdccobhkbpaaHT
namespace Go.Proofs.Ytcbkdccobhkbpaa
open Go Go.En Go.Pu
set_option maxRecDepth 4000
set_option linter.unusedSimpArgs false
set_option linter.unusedVariables false

theorem bsOpen {w : World} {v : Value} {l : List UInt8} (h : Bs w v l) (h0 : 0 < l.length) : ∃ b off c, v = .slice (some ⟨b, off, none⟩) l.length c ∧ l.length ≤ c ∧ ∀ i, (h : i < l.length) → w.cell? ⟨b, off + i, none⟩ = some (.int .u8 (l[i].toNat : Nat)) := by
  obtain ⟨b, off, c, rfl, hc, hcell⟩ := h.openV (by simpa using h0)
  refine ⟨b, off, c, by rw [List.length_map], by simpa using hc, fun i hi => ?_⟩
  have := hcell i (by simpa using hi)
  simpa [b2v] using this

theorem take_c {l : List UInt8} {v : Value} {st n : Nat} {w : World} (h : Bs w v l) (hn : n ≤ 64) (hat : st + n ≤ 8 * l.length) (hl : l.length ≤ 1000000000) :
    Does pg F_bits_take #[v, .int .i64 st, .int .i64 n] w (fun r w' => r = .int .u64 (numB (((bitsB l).drop st).take n)) ∧ w' = w) := by
  refine bits_take_does ?_
  unfold bits_take bits_take_p9 bits_take_p8 bits_take_p7 bits_take_p6 bits_take_p5 bits_take_p4 bits_take_p3
  refine LoopD.rule (fun m (t : Value × Value) w' => ∃ i : Nat, m = n - i ∧ t = (.int .u64 (numB (((bitsB l).drop st).take i) : Nat), .int .i64 i) ∧ i ≤ n ∧ w' = w) n ⟨0, rfl, by simp [numB], by omega, rfl⟩ ?_
  rintro m t w1 ⟨i, rfl, rfl, hi, rfl⟩
  unfold bits_take_p2
  by_cases hlt : i < n
  · have d1 : decide ((i : Int) < (n : Int)) = true := by simp; omega
    obtain ⟨b, off, c, rfl, hc, hcell⟩ := h.openV (by simp; omega)
    obtain ⟨q, hq⟩ : ∃ q, q = st + i := ⟨_, rfl⟩
    have e0 : (st : Int) + (i : Int) = (q : Int) := by omega
    have e1 : (q : Int).tdiv 8 = ((q / 8 : Nat) : Int) := by rw [Int.tdiv_eq_ediv_of_nonneg (by omega)]; omega
    have e2 : (q : Int).tmod 8 = ((q % 8 : Nat) : Int) := by rw [Int.tmod_eq_emod_of_nonneg (by omega)]; omega
    have hq8 : q / 8 < l.length := by omega
    have hb : (bitsB l)[st + i]? = some ((l[q / 8]'hq8).toNat.testBit (q % 8)) := by subst hq; exact bitsB_get l _ (by omega)
    have ht := take_succ_get hb
    have g1 := hcell (q / 8) (by simpa using hq8)
    simp only [List.getElem_map, b2v] at g1
    have hx : (l[q / 8]'hq8).toNat < 256 := UInt8.toNat_lt _
    generalize (l[q / 8]'hq8).toNat = x at *
    have e3 : (x : Int).fdiv (2 ^ (min (q % 8) IntKind.u8.bits)) = ((x / 2 ^ (q % 8) : Nat) : Int) := by
      rw [show min (q % 8) IntKind.u8.bits = q % 8 from Nat.min_eq_left (by have : IntKind.u8.bits = 8 := rfl
                                                                            omega), Int.fdiv_eq_ediv_of_nonneg _ (Int.pow_nonneg (by omega))]
      simp
    have hy : x / 2 ^ (q % 8) < 2 ^ 8 := by have := Nat.div_le_self x (2 ^ (q % 8)); omega
    have e4 := and1_u8 hy
    rw [← toNat_bit] at e4
    have hbt : (x.testBit (q % 8)).toNat ≤ 1 := Bool.toNat_le _
    have hlen : (((bitsB l).drop st).take i).length = i := by rw [List.length_take, List.length_drop, bitsB_length]; omega
    have hnb := numB_lt (((bitsB l).drop st).take i)
    have hsn := numB_snoc (((bitsB l).drop st).take i) (x.testBit (q % 8))
    rw [← ht, hlen] at hsn
    rw [hlen] at hnb
    have hp : 2 ^ i < 2 ^ 64 := Nat.pow_lt_pow_right (by omega) (by omega)
    have hp2 : 2 ^ i ≤ 2 ^ 63 := Nat.pow_le_pow_right (by omega) (by omega)
    generalize (x.testBit (q % 8)).toNat = bt at *
    have hm : bt * 2 ^ i ≤ 2 ^ i := by
      have := Nat.mul_le_mul_right (2 ^ i) hbt
      omega
    have e5 : IntKind.u64.wrap ((bt : Int) * 2 ^ (min i IntKind.u64.bits)) = ((bt * 2 ^ i : Nat) : Int) := by
      rw [show min i IntKind.u64.bits = i from Nat.min_eq_left (by have : IntKind.u64.bits = 64 := rfl
                                                                   omega)]
      have e : (bt : Int) * 2 ^ i = ((bt * 2 ^ i : Nat) : Int) := by simp
      rw [e]
      exact w_u64 (by omega) (by omega)
    have e6 := orI_nat (a := numB (((bitsB l).drop st).take i)) (b := bt * 2 ^ i) (by omega) (by omega)
    rw [or_low hnb, ← hsn] at e6
    simp (disch := omega) only [Stp, r_lss, d1, r_add, e0, w_i64, List.length_map, cv_int_uint, w_u64, stepR_value, r_quo, e1, r_rem, e2, ia_sl_uint8, Int.toNat_natCast, ld_uint8, g1, ldC_some, r_shr, e3, r_and, e4, cv_uint8_uint64, r_shl, e5, r_or, e6, and_true, Cnd_true]
    exact ⟨n - (i + 1), by omega, i + 1, rfl, rfl, by omega⟩
  · have d1 : decide ((i : Int) < (n : Int)) = false := by simp; omega
    obtain rfl : i = n := by omega
    unfold bits_take_p1
    simp (disch := omega) only [Stp, r_lss, d1, r_add, w_i64, cv_int_uint, w_u64, stepR_value, r_quo, r_rem, true_and, Cnd_false]

theorem clone_c {v : Value} {l : List UInt8} {w : World} (h : Bs w v l) (hl : l.length ≤ 1000000000) :
    Does pg F_slices_Clone_inst #[v] w (fun r w' => OSl w' w.heap.size 1 r l.length (l.map b2v) ∧ Ext w w' nob) := by
  refine slices_Clone_inst_does ?_
  have h1 := h
  obtain ⟨a, n, c, rfl, hn, hc, hh⟩ := h
  rw [List.length_map] at hn
  unfold slices_Clone_inst slices_Clone_inst_p1
  cases a with
  | none =>
    have h0 : l = [] := by
      cases l with
      | nil => rfl
      | cons x l => obtain ⟨b, off, h, _⟩ := hh (by simp at hn; omega); cases h
    subst h0
    simp (disch := omega) only [Stp, seql_sl_uint8, Option.isNone_none, stepR_value, Cnd_true]
    exact ⟨OSl.nil _ _ _, Ext.refl _ _⟩
  | some x =>
    simp (disch := omega) only [Stp, seql_sl_uint8, Option.isNone_some, stepR_value, Cnd_false]
    refine stp_bslice0 Try.underlying52 inf5 fun w1 o1 x1 s1 => ?_
    have hcl1 := (h1.ext x1 (inB_nob _)).cl
    rw [List.length_map] at hcl1
    have hos : OSl w1 w.heap.size 1 (.slice (some ⟨w.heap.size, 0, none⟩) 0 0) 0 [] := ⟨rfl, .inr ⟨_, 0, [], rfl, Nat.le_refl _, o1, rfl, Nat.le_refl _⟩⟩
    refine ap_sl_uint8_sl_uint8 hos hcl1 (bs_one _) x1.size (by omega) fun v3 w3 o3 x3 => ?_
    rw [Nat.zero_add, List.nil_append] at o3
    exact ⟨o3, x1.trans x3 fun b hb h => Nat.not_le_of_lt hb h⟩

/-- where a slice may lie -/
def AtI (v : Value) (lo hi : Nat) : Prop := ∀ M : Nat → Prop, (∀ b, lo ≤ b → b < hi → ¬ M b) → ¬ inB v M
theorem OSl.atI {w : World} {base sz n : Nat} {v : Value} {l : List Value} (h : OSl w base sz v n l) : AtI v base w.heap.size := by
  intro M hM
  rcases h.2 with ⟨rfl, rfl⟩ | ⟨b, c, rest, rfl, h2, h3, h4, h5⟩
  · exact fun h => h
  · exact At.at b 0 n c M (hM b h2 h3.lt)

/-- a reader from the front: its block is hi, its bytes lie from lo on below it -/
def Fwd (w : World) (lo hi : Nat) (l : List UInt8) (st : Nat) : Prop := ∃ v, Own w hi [v, .int .i64 st] ∧ Bs w v l ∧ AtI v lo hi
theorem Fwd.ext {w w' : World} {lo hi st : Nat} {l : List UInt8} {M : Nat → Prop} (h : Fwd w lo hi l st) (hx : Ext w w' M) (hM : ∀ b, lo ≤ b → b ≤ hi → ¬ M b) (hlh : lo ≤ hi) : Fwd w' lo hi l st := by
  obtain ⟨v, h1, h2, h3⟩ := h
  exact ⟨v, h1.ext hx (hM _ hlh (Nat.le_refl _)), h2.ext hx (h3 M fun b hb hh => hM b hb (by omega)), h3⟩

theorem newForward_c {v : Value} {l : List UInt8} {w : World} (h : Bs w v l) (hl : l.length ≤ 1000000000) :
    Does pg F_bits_NewForward #[v] w (fun r w' => ∃ hi, r = .pointer (some ⟨hi, 0, none⟩) ∧ w.heap.size ≤ hi ∧ hi < w'.heap.size ∧ Fwd w' w.heap.size hi l 0 ∧ Ext w w' nob) := by
  refine bits_NewForward_does ?_
  unfold bits_NewForward bits_NewForward_p1
  refine (clone_c h hl).mono ?_
  rintro r w1 ⟨o1, x1⟩
  have hat := OSl.atI o1
  have hs := o1.sl
  obtain ⟨a, c, rfl⟩ := o1.len
  simp (disch := omega) only [Stp, bd_bits_Forward_0, stepR_value]
  refine stp_box fun w2 o2 x2 s2 => ?_
  simp only [Value.cells] at o2
  exact ⟨_, rfl, x1.size, by omega, ⟨_, o2, hs.ext x2 (inB_nob _), hat⟩, x1.seq x2⟩

theorem fwdRead_c {l : List UInt8} {lo hi st n : Nat} {w : World} (h : Fwd w lo hi l st) (hlh : lo ≤ hi) (hn : n ≤ 32) (hst : st ≤ 8 * l.length) (hl : l.length ≤ 1000000) :
    Does pg F_bits_Forward_Read #[.pointer (some ⟨hi, 0, none⟩), .int .i64 n] w (fun r w' =>
      (8 * l.length < st + n ∧ r = .tuple #[.int .u64 0, .int .i64 10] ∧ Fwd w' lo hi l st ∧ Ext w w' nob) ∨
      (st + n ≤ 8 * l.length ∧ r = .tuple #[.int .u64 (numB (((bitsB l).drop st).take n)), .int .i64 0] ∧ Fwd w' lo hi l (st + n) ∧ Ext w w' (fun y => y = hi))) := by
  refine bits_Forward_Read_does ?_
  obtain ⟨v, o, hs, hat⟩ := h
  unfold bits_Forward_Read bits_Forward_Read_p1
  have d1 : decide ((n : Int) < 0) = false := by simp
  have d2 : decide ((32 : Int) < (n : Int)) = false := by simp; omega
  have c0 := o.cell (off := 0)
  have c1 := o.cell (off := 1)
  simp only [List.getElem?_cons_zero, List.getElem?_cons_succ] at c0 c1
  obtain ⟨a, n', c, hv, hn', hc, hh⟩ := id hs
  rw [List.length_map] at hn'
  subst hn'
  by_cases hsh : 8 * l.length < st + n
  · have d3 : decide (8 * (l.length : Int) - (st : Int) < (n : Int)) = true := by simp; omega
    subst hv
    have od := own_dr o
    have c0d := od.cell (off := 0)
    have c1d := od.cell (off := 1)
    simp only [List.getElem?_cons_zero, List.getElem?_cons_succ] at c0d c1d
    simp (disch := omega) only [Stp, peql_p_bits_Forward, Option.isNone_some, r_nil, true_and, stepR_value, fa_bits_Forward_at, Nat.zero_add, ld_int, fa_bits_Forward_b, ld_sl_uint8, isB_ff, r_pick, Bool.false_eq_true, if_false, Gd_true, r_lss, d1, r_gtr, d2, c0d, ldC_some, c1d, ln_sl_uint8, r_mul, w_i64, r_sub, d3, Cnd_true, Cnd_false]
    exact .inl ⟨hsh, ⟨_, own_dr o, hs.ext (Ext.dr _ nob) (inB_nob _), hat⟩, Ext.dr _ _⟩
  · have d3 : decide (8 * (l.length : Int) - (st : Int) < (n : Int)) = false := by simp; omega
    subst hv
    have c0e := (own_dr o).cell (off := 0)
    have c1e := (own_dr o).cell (off := 1)
    have od := own_dr (own_dr o)
    have c0d := od.cell (off := 0)
    have c1d := od.cell (off := 1)
    simp only [List.getElem?_cons_zero, List.getElem?_cons_succ] at c0d c1d c0e c1e
    simp (disch := omega) only [Stp, peql_p_bits_Forward, Option.isNone_some, r_nil, true_and, stepR_value, fa_bits_Forward_at, Nat.zero_add, ld_int, fa_bits_Forward_b, ld_sl_uint8, isB_ff, r_pick, Bool.false_eq_true, if_false, Gd_true, r_lss, d1, r_gtr, d2, c0e, ldC_some, c1e, c0d, c1d, ln_sl_uint8, r_mul, w_i64, r_sub, d3, Cnd_false]
    refine (take_c (l := l) (st := st) (n := n) ((hs.ext (Ext.dr _ nob) (inB_nob _)).ext (Ext.dr _ nob) (inB_nob _)) (by omega) (by omega) (by omega)).mono ?_
    rintro r w1 ⟨rfl, rfl⟩
    simp (disch := omega) only [c1d, ldC_some, true_and, stepR_value, r_add, w_i64]
    refine st_int od rfl (by simp) fun w2 o2 x2 s2 => ?_
    simp only [List.set_cons_zero, List.set_cons_succ] at o2
    have e1 : (st : Int) + (n : Int) = ((st + n : Nat) : Int) := by omega
    rw [e1] at o2
    have x02 : Ext w w2 (fun y => y = hi) := ((Ext.dr _ _).seq (Ext.dr _ _)).seq x2
    exact .inr ⟨by omega, ⟨_, o2, hs.ext x02 (hat _ fun b hb hh => by omega), hat⟩, x02⟩

theorem fwdUsed_c {l : List UInt8} {lo hi st : Nat} {w : World} (h : Fwd w lo hi l st) (hst : st ≤ 1000000000) :
    Does pg F_bits_Forward_Used #[.pointer (some ⟨hi, 0, none⟩)] w (fun r w' => r = .int .i64 (((st + 7) / 8 : Nat)) ∧ w' = w) := by
  refine bits_Forward_Used_does ?_
  obtain ⟨v, o, hs, hat⟩ := h
  have c1 := o.cell (off := 1)
  simp only [List.getElem?_cons_zero, List.getElem?_cons_succ] at c1
  have e1 : ((st : Int) + 7).tdiv 8 = (((st + 7) / 8 : Nat) : Int) := by rw [Int.tdiv_eq_ediv_of_nonneg (by omega)]; omega
  unfold bits_Forward_Used bits_Forward_Used_p1
  simp (disch := omega) only [Stp, peql_p_bits_Forward, Option.isNone_some, r_nil, stepR_value, fa_bits_Forward_at, Nat.zero_add, ld_int, and_true, c1, ldC_some, r_add, w_i64, r_quo, e1, Cnd_false]
end Go.Proofs.Ytcbkdccobhkbpaa
/- Contracts: bits of bytes, read from the back. -/
namespace Go.Proofs.Ytcbkdccobhkbpaa
open Go Go.En Go.Pu
set_option maxRecDepth 4000
set_option linter.unusedSimpArgs false
set_option linter.unusedVariables false

theorem len8_c {x : Nat} (hx : x < 256) (w : World) : Does pg F_math_bits_Len8 #[.int .u8 x] w (fun r w' => r = .int .i64 (bl x : Nat) ∧ w' = w) := by
  refine math_bits_Len8_does ?_
  have hg := len8_get x hx
  have hs := len8_size
  have hb : bl x ≤ 8 := bl_le_of (n := 8) (by omega)
  unfold math_bits_Len8 math_bits_Len8_p1
  change Stp pg (sIdx 9 (.string len8) _) w _
  simp (disch := omega) only [Stp, ix_string, Int.toNat_natCast, hg, stepR_value, cv_uint8_int, w_i64, and_true]

/-- a reader from the back: its block is hi, its bytes lie from lo on below it -/
def Bwd (w : World) (lo hi : Nat) (l : List UInt8) (left : Int) : Prop := ∃ v, Own w hi [v, .int .i64 left] ∧ Bs w v l ∧ AtI v lo hi
theorem Bwd.ext {w w' : World} {lo hi : Nat} {left : Int} {l : List UInt8} {M : Nat → Prop} (h : Bwd w lo hi l left) (hx : Ext w w' M) (hM : ∀ b, lo ≤ b → b ≤ hi → ¬ M b) (hlh : lo ≤ hi) : Bwd w' lo hi l left := by
  obtain ⟨v, h1, h2, h3⟩ := h
  exact ⟨v, h1.ext hx (hM _ hlh (Nat.le_refl _)), h2.ext hx (h3 M fun b hb hh => hM b hb (by omega)), h3⟩

theorem newBackward_bad {v : Value} {l : List UInt8} {w : World} (h : Bs w v l) (he : endB l = none) (hl : l.length ≤ 1000000) :
    Does pg F_bits_NewBackward #[v] w (fun r w' => r = .tuple #[.pointer none, .int .i64 11] ∧ w' = w) := by
  refine bits_NewBackward_does ?_
  unfold bits_NewBackward bits_NewBackward_p1
  rcases Nat.eq_zero_or_pos l.length with h0 | h0
  · obtain ⟨a, n, c, rfl, hn, hc, hh⟩ := h
    rw [List.length_map, h0] at hn
    subst hn
    have d1 : (((0 : Nat) : Int) == 0) = true := rfl
    simp (disch := omega) only [Stp, ln_sl_uint8, true_and, Same, Result.ok.injEq, Next.value.injEq, and_true, stepR_value, r_sub, w_i64, r_mul, r_eql, d1, isB_tf, r_pick, if_true, Cnd_true, Gd_false]
  · obtain ⟨b, off, c, rfl, hc, hcell⟩ := bsOpen h h0
    rw [endB_last h0] at he
    have g := hcell (l.length - 1) (by omega)
    generalize (l[l.length - 1]'(by omega)) = x at *
    have hx0 : x.toNat = 0 := by
      rcases Nat.eq_zero_or_pos x.toNat with h | h
      · exact h
      · rw [if_neg (by omega)] at he; cases he
    rw [hx0] at g
    have d1 : ((l.length : Int) == 0) = false := by simp; intro h; subst h; simp at h0
    have e1 : (l.length : Int) - 1 = ((l.length - 1 : Nat) : Int) := by omega
    have d2 : (((0 : Nat) : Int) == 0) = true := rfl
    simp (disch := omega) only [Stp, ln_sl_uint8, true_and, Same, Result.ok.injEq, Next.value.injEq, and_true, stepR_value, r_sub, e1, w_i64, ia_sl_uint8, Int.toNat_natCast, ld_uint8, r_mul, r_eql, d1, isB_ff, r_pick, Bool.false_eq_true, if_false, Gd_true, g, ldC_some, d2, Cnd_true]

theorem newBackward_ok {v : Value} {l : List UInt8} {k : Nat} {w : World} (h : Bs w v l) (he : endB l = some k) (hl : l.length ≤ 1000000) :
    Does pg F_bits_NewBackward #[v] w (fun r w' => ∃ hi, r = .tuple #[.pointer (some ⟨hi, 0, none⟩), .int .i64 0] ∧ w.heap.size ≤ hi ∧ hi < w'.heap.size ∧ Bwd w' w.heap.size hi l k ∧ Ext w w' nob) := by
  refine bits_NewBackward_does ?_
  unfold bits_NewBackward bits_NewBackward_p1
  have h0 := (endB_some he).1
  obtain ⟨b, off, c, rfl, hc, hcell⟩ := bsOpen h h0
  rw [endB_last h0] at he
  have g := hcell (l.length - 1) (by omega)
  generalize (l[l.length - 1]'(by omega)) = x at *
  have hx : x.toNat < 256 := UInt8.toNat_lt x
  have hx0 : x.toNat ≠ 0 := by
    intro h; rw [if_pos h] at he; cases he
  rw [if_neg hx0] at he
  have he := Option.some.inj he
  have hb1 := bl_pos hx0
  have hb2 : bl x.toNat ≤ 8 := bl_le_of (n := 8) (by omega)
  have d1 : ((l.length : Int) == 0) = false := by simp; intro h; subst h; simp at h0
  have e1 : (l.length : Int) - 1 = ((l.length - 1 : Nat) : Int) := by omega
  have d2 : ((x.toNat : Int) == 0) = false := by simpa using hx0
  simp (disch := omega) only [Stp, ln_sl_uint8, Same, Result.ok.injEq, Next.value.injEq, and_true, true_and, stepR_value, r_sub, e1, w_i64, ia_sl_uint8, Int.toNat_natCast, ld_uint8, r_mul, r_eql, d1, isB_ff, r_pick, Bool.false_eq_true, if_false, Gd_true, g, ldC_some, d2, Cnd_false]
  refine (clone_c (h.ext (Ext.dr _ nob) (inB_nob _)) (by omega)).mono ?_
  rintro r w1 ⟨o1, x1⟩
  have x01 : Ext w w1 nob := (Ext.dr w nob).seq x1
  have g1 := cell_ext g x01 (fun h => h)
  have hat := OSl.atI o1
  have hs := o1.sl
  obtain ⟨a, c', rfl⟩ := o1.len
  have gd : (dr w).cell? ⟨b, off + (l.length - 1), none⟩ = some (.int .u8 (x.toNat : Nat)) := g
  simp (disch := omega) only [g1, ldC_some, gd, Result.ok.injEq, Next.value.injEq, and_true, stepR_value, true_and]
  refine (len8_c hx _).mono ?_
  rintro r w2 ⟨rfl, rfl⟩
  have e2 : 8 * ((l.length - 1 : Nat) : Int) + (bl x.toNat : Nat) - 1 = (k : Int) := by omega
  simp (disch := omega) only [r_add, w_i64, stepR_value, r_sub, e2, bd_bits_Backward_0_1, true_and]
  refine stp_box fun w3 o3 x3 s3 => ?_
  simp only [Value.cells] at o3
  exact ⟨_, rfl, x01.size, by omega, ⟨_, o3, hs.ext x3 (inB_nob _), hat⟩, x01.seq x3⟩

theorem bwdLeft_c {l : List UInt8} {lo hi : Nat} {left : Int} {w : World} (h : Bwd w lo hi l left) :
    Does pg F_bits_Backward_Left #[.pointer (some ⟨hi, 0, none⟩)] w (fun r w' => r = .int .i64 left ∧ w' = w) := by
  refine bits_Backward_Left_does ?_
  obtain ⟨v, o, hs, hat⟩ := h
  have c1 := o.cell (off := 1)
  simp only [List.getElem?_cons_zero, List.getElem?_cons_succ] at c1
  unfold bits_Backward_Left bits_Backward_Left_p1
  simp (disch := omega) only [Stp, peql_p_bits_Backward, Option.isNone_some, r_nil, stepR_value, fa_bits_Backward_left, Nat.zero_add, ld_int, and_true, c1, ldC_some, Cnd_false]

theorem bwdRead_c {l : List UInt8} {lo hi n : Nat} {left : Int} {w : World} (h : Bwd w lo hi l left) (hlh : lo ≤ hi) (hn : n ≤ 56) (h1 : left ≤ 8 * l.length) (h2 : -1000000000 ≤ left) (hl : l.length ≤ 1000000) :
    Does pg F_bits_Backward_Read #[.pointer (some ⟨hi, 0, none⟩), .int .i64 n] w (fun r w' =>
      r = .int .u64 (lastN ((bitsB l).take left.toNat) n) ∧ Bwd w' lo hi l (left - n) ∧ Ext w w' (fun y => y = hi)) := by
  refine bits_Backward_Read_does ?_
  unfold bits_Backward_Read bits_Backward_Read_p1
  by_cases hn0 : n = 0
  · subst hn0
    have d1 : decide (((0 : Nat) : Int) < 1) = true := rfl
    simp (disch := omega) only [Stp, peql_p_bits_Backward, Option.isNone_some, r_nil, Same, and_true, stepR_value, fa_bits_Backward_left, Nat.zero_add, ld_int, true_and, fa_bits_Backward_b, ld_sl_uint8, isB_ff, r_pick, Bool.false_eq_true, if_false, Gd_true, r_lss, d1, isB_tf, if_true, Cnd_true, Gd_false]
    have h0 : lastN ((bitsB l).take left.toNat) 0 = 0 := by
      have := lastN_lt ((bitsB l).take left.toNat) 0
      rw [Nat.pow_zero] at this; omega
    exact ⟨by rw [h0]; rfl, by simpa using h, Ext.refl _ _⟩
  obtain ⟨v, o, hs, hat⟩ := h
  have c0 := o.cell (off := 0)
  have c1 := o.cell (off := 1)
  have od := own_dr o
  have c0d := od.cell (off := 0)
  have c1d := od.cell (off := 1)
  simp only [List.getElem?_cons_zero, List.getElem?_cons_succ] at c0 c1 c0d c1d
  have d1 : decide ((n : Int) < 1) = false := by simp; omega
  have d2 : decide ((56 : Int) < (n : Int)) = false := by simp; omega
  obtain ⟨k0, hk0⟩ : ∃ k0, k0 = left.toNat := ⟨_, rfl⟩
  obtain ⟨th, hth⟩ : ∃ th, th = min n k0 := ⟨_, rfl⟩
  have e1 : (if (0 : Int) > left then 0 else left) = (k0 : Int) := by split <;> omega
  have e2 : (if (n : Int) < (k0 : Int) then (n : Int) else (k0 : Int)) = (th : Int) := by split <;> omega
  have e3 : (k0 : Int) - (th : Int) = ((k0 - th : Nat) : Int) := by omega
  have e4 : (n : Int) - (th : Int) = ((n - th : Nat) : Int) := by omega
  rw [← hk0]
  have hlen : ((bitsB l).take k0).length = k0 := by rw [List.length_take, bitsB_length]; omega
  have hlast : lastN ((bitsB l).take k0) n = numB (((bitsB l).drop (k0 - th)).take th) * 2 ^ (n - th) := by
    unfold lastN
    rw [hlen, ← hth, List.drop_take, show k0 - (k0 - th) = th from by omega]
  have hlt := lastN_lt ((bitsB l).take k0) n
  have hp : 2 ^ n ≤ 2 ^ 56 := Nat.pow_le_pow_right (by omega) hn
  have e5 : IntKind.u64.wrap (((numB (((bitsB l).drop (k0 - th)).take th) : Nat) : Int) * 2 ^ (min (n - th) IntKind.u64.bits)) = ((lastN ((bitsB l).take k0) n : Nat) : Int) := by
    rw [show min (n - th) IntKind.u64.bits = n - th from Nat.min_eq_left (by have h64 : IntKind.u64.bits = 64 := rfl; omega), hlast]
    have e : ((numB (((bitsB l).drop (k0 - th)).take th) : Nat) : Int) * 2 ^ (n - th) = ((numB (((bitsB l).drop (k0 - th)).take th) * 2 ^ (n - th) : Nat) : Int) := by simp
    rw [e]
    rw [hlast] at hlt
    exact w_u64 (by omega) (by omega)
  simp (disch := omega) only [Stp, peql_p_bits_Backward, Option.isNone_some, r_nil, Same, and_true, stepR_value, fa_bits_Backward_left, Nat.zero_add, ld_int, true_and, fa_bits_Backward_b, ld_sl_uint8, isB_ff, r_pick, Bool.false_eq_true, if_false, Gd_true, r_lss, d1, r_gtr, d2, c1, ldC_some, r_max, e1, r_min, e2, c0d, c1d, r_sub, e4, w_i64, Result.ok.injEq, Next.value.injEq, cv_int_uint, w_u64, e3, Cnd_false]
  refine (take_c (l := l) (st := k0 - th) (n := th) (hs.ext (Ext.dr _ nob) (inB_nob _)) (by omega) (by omega) (by omega)).mono ?_
  rintro r w1 ⟨rfl, rfl⟩
  simp (disch := omega) only [r_shl, Int.toNat_natCast, e5, c1d, ldC_some, stepR_value, r_sub, w_i64, true_and]
  refine st_int od rfl (by simp) fun w2 o2 x2 s2 => ?_
  simp only [List.set_cons_zero, List.set_cons_succ] at o2
  have x02 : Ext w w2 (fun y => y = hi) := (Ext.dr _ _).seq x2
  exact ⟨⟨_, o2, hs.ext x02 (hat _ fun b hb hh => by omega), hat⟩, x02⟩
end Go.Proofs.Ytcbkdccobhkbpaa
/- Contracts: the reference's rows of bits. -/
namespace Go.Proofs.Ytcbkdccobhkbpaa
open Go Go.En Go.Pu
set_option maxRecDepth 4000
set_option linter.unusedSimpArgs false
set_option linter.unusedVariables false

theorem AtI.sub {a : Option Addr} {n c m c' k sz lo hi : Nat} (h : AtI (.slice a n c) lo hi) (hm : m ≤ n) : AtI (.slice (shift? a c k sz) m c') lo hi := by
  intro M hM hin
  cases m with
  | zero => unfold inB at hin; split at hin <;> simp_all
  | succ m =>
    obtain ⟨n', rfl⟩ : ∃ n', n = n' + 1 := ⟨n - 1, by omega⟩
    have h1 := h M hM
    cases a with
    | none => unfold shift? at hin; split at hin <;> exact hin
    | some x =>
      unfold shift? at hin
      have h2 : M x.block := by
        split at hin
        · exact hin
        · rw [Option.map_some] at hin
          have e : (x.add (k * sz)).block = x.block := by unfold Addr.add; split <;> rfl
          have h3 : M (x.add (k * sz)).block := hin
          rwa [e] at h3
      exact h1 h2

/-- bits in a slice -/
abbrev Bl (w : World) (v : Value) (L : List Bool) : Prop := Sl w v (L.map Value.bool)
theorem blOpen {w : World} {v : Value} {L : List Bool} (h : Bl w v L) (h0 : 0 < L.length) : ∃ b off c, v = .slice (some ⟨b, off, none⟩) L.length c ∧ L.length ≤ c ∧ ∀ i, (h : i < L.length) → w.cell? ⟨b, off + i, none⟩ = some (.bool L[i]) := by
  obtain ⟨b, off, c, rfl, hc, hcell⟩ := h.openV (by simpa using h0)
  refine ⟨b, off, c, by rw [List.length_map], by simpa using hc, fun i hi => ?_⟩
  have := hcell i (by simpa using hi)
  simpa using this
theorem blLen {w : World} {v : Value} {L : List Bool} (h : Bl w v L) : ∃ a c, v = .slice a L.length c ∧ L.length ≤ c := by
  obtain ⟨a, n, c, rfl, hn, hc, _⟩ := h
  rw [List.length_map] at hn
  subst hn
  exact ⟨a, c, rfl, hc⟩

theorem bits8_eq (c : UInt8) : bits8 c = bitsN c.toNat 8 := rfl

theorem refBits5_c {x : ByteArray} {w : World} (hl : x.size ≤ 1000000) :
    Does pg F_ref05_Bits #[.string x] w (fun r w' => OSl w' w.heap.size 1 r (8 * x.size) ((bitsB (lst x)).map Value.bool) ∧ Ext w w' nob) := by
  refine ref05_Bits_does ?_
  have hll := lst_length x
  unfold ref05_Bits ref05_Bits_p18 ref05_Bits_p17 ref05_Bits_p16 ref05_Bits_p15 ref05_Bits_p14 ref05_Bits_p13 ref05_Bits_p12
  refine LoopD.rule (fun m (t : Value × Value) w' => ∃ (i : Nat) (v : Value), m = x.size - i ∧ t = (v, .int .i64 i) ∧ i ≤ x.size ∧ OSl w' w.heap.size 1 v (8 * i) ((bitsB ((lst x).take i)).map Value.bool) ∧ Ext w w' (fun y => w.heap.size ≤ y)) x.size
    ⟨0, _, rfl, rfl, by omega, OSl.nil _ _ _, Ext.refl _ _⟩ ?_
  rintro m t w1 ⟨i, v, rfl, rfl, hi, o1, x1⟩
  unfold ref05_Bits_p11 ref05_Bits_p10
  by_cases hlt : i < x.size
  · have d1 : decide ((i : Int) < (x.size : Int)) = true := by simp; omega
    obtain ⟨c, hc⟩ : ∃ c, c = (lst x)[i]'(by omega) := ⟨_, rfl⟩
    have hg : (x[i]'hlt).toNat = c.toNat := by rw [hc, lst_get]
    have htk : bitsB ((lst x).take (i + 1)) = bitsB ((lst x).take i) ++ bitsN c.toNat 8 := by
      rw [List.take_add_one, List.getElem?_eq_getElem (by omega), bitsB_append, ← hc, Option.toList, bitsB, bitsB, List.append_nil, bits8_eq]
    have hcl : c.toNat < 256 := UInt8.toNat_lt c
    generalize c.toNat = y at *
    unfold ref05_Bits_p9 ref05_Bits_p8 ref05_Bits_p7 ref05_Bits_p6
    simp (disch := omega) only [Stp, ln_string, ix_string, Int.toNat_natCast, hg, stepR_value, r_lss, d1, Cnd_true]
    unfold ref05_Bits_p5 ref05_Bits_p4
    refine LoopD.rule (fun m (t : Value × Value × Value) w' => ∃ (k : Nat) (v : Value), m = 8 - k ∧ t = (v, .int .u8 (y / 2 ^ k : Nat), .int .i64 k) ∧ k ≤ 8 ∧ OSl w' w.heap.size 1 v (8 * i + k) ((bitsB ((lst x).take i) ++ bitsN y k).map Value.bool) ∧ Ext w w' (fun y => w.heap.size ≤ y)) 8
      ⟨0, v, rfl, by simp, by omega, by simpa [bitsN_zero] using o1, x1⟩ ?_
    rintro m t w2 ⟨k, v2, rfl, rfl, hk, o2, x2⟩
    unfold ref05_Bits_p3
    by_cases hk8 : k < 8
    · have d2 : decide ((k : Int) < 8) = true := by simp; omega
      obtain ⟨z, hz⟩ : ∃ z, z = y / 2 ^ k := ⟨_, rfl⟩
      have hz2 : y / 2 ^ (k + 1) = z / 2 := by rw [hz, Nat.pow_succ, Nat.div_div_eq_div_mul]
      have hzl : z < 256 := by have := Nat.div_le_self y (2 ^ k); omega
      have e1 : (z : Int).tmod 2 = ((z % 2 : Nat) : Int) := by rw [Int.tmod_eq_emod_of_nonneg (by omega)]; omega
      have e2 : (z : Int).tdiv 2 = ((z / 2 : Nat) : Int) := by rw [Int.tdiv_eq_ediv_of_nonneg (by omega)]; omega
      have hbit : y.testBit k = decide (z % 2 = 1) := by rw [Nat.testBit_eq_decide_div_mod_eq, hz]
      have e3 : (((z % 2 : Nat) : Int) == 1) = y.testBit k := by
        rw [hbit]
        have : z % 2 = 0 ∨ z % 2 = 1 := by omega
        rcases this with h | h <;> simp [h]
      have hbs := bitsN_succ y k
      generalize y.testBit k = bt at *
      rw [← hz]
      simp (disch := omega) only [Stp, r_lss, d2, r_rem, e1, r_quo, e2, w_u8, r_add, w_i64, stepR_value, r_eql, e3, Cnd_true]
      refine bs_sl_bool (cells := #[.bool bt]) (by decide) (by decide) (by kernel_rfl) fun w3 o3 x3 s3 => ?_
      refine ap_sl_bool_sl_bool (o2.ext x3 (fun _ _ h => h)) (o3.cl (off := 0) (l := [.bool bt]) (n := 1) rfl (fun i hi => by rw [Nat.zero_add])) (by simp [one]) (Nat.le_trans x2.size x3.size) (by omega) fun v4 w4 o4 x4 => ?_
      refine ⟨8 - (k + 1), by omega, k + 1, v4, rfl, ?_, by omega, ?_, ?_⟩
      · rw [hz2]; rfl
      · rw [hbs, ← List.append_assoc, List.map_append]
        exact o4
      · exact (x2.seq (x3.mono fun _ _ h => h.elim)).seq x4
    · have d2 : decide ((k : Int) < 8) = false := by simp; omega
      obtain rfl : k = 8 := by omega
      rw [← htk] at o2
      unfold ref05_Bits_p2
      simp (disch := omega) only [Stp, r_lss, d2, r_rem, r_quo, r_add, w_i64, stepR_value, r_eql, Cnd_false]
      exact ⟨x.size - (i + 1), by omega, i + 1, _, rfl, rfl, by omega, o2, x2⟩
  · have d1 : decide ((i : Int) < (x.size : Int)) = false := by simp; omega
    obtain rfl : i = x.size := by omega
    rw [List.take_of_length_le (by omega)] at o1
    unfold ref05_Bits_p1
    simp (disch := omega) only [Stp, ln_string, stepR_value, r_lss, d1, Cnd_false]
    exact ⟨o1, x1.mono fun b hb h => Nat.not_le_of_lt hb h⟩

theorem refNumber_c {L : List Bool} {v : Value} {w : World} (h : Bl w v L) (hl : L.length ≤ 60) :
    Does pg F_ref05_Number #[v] w (fun r w' => r = .int .u64 (numB L : Nat) ∧ w' = w) := by
  refine ref05_Number_does ?_
  obtain ⟨a, c, hv, hc⟩ := blLen h
  subst hv
  unfold ref05_Number ref05_Number_p11 ref05_Number_p10 ref05_Number_p9 ref05_Number_p8 ref05_Number_p7
  simp (disch := omega) only [Stp, ln_sl_bool, stepR_value, r_sub, w_i64]
  unfold ref05_Number_p6 ref05_Number_p5
  refine LoopD.rule (fun m (t : Value × Value) w' => t = (.int .u64 (numB (L.drop m) : Nat), .int .i64 ((m : Int) - 1)) ∧ m ≤ L.length ∧ w' = w) L.length
    ⟨by rw [List.drop_length]; rfl, by omega, rfl⟩ ?_
  rintro m t w1 ⟨rfl, hm, rfl⟩
  unfold ref05_Number_p4 ref05_Number_p3
  cases m with
  | zero =>
    have d1 : decide ((0 : Int) ≤ ((0 : Nat) : Int) - 1) = false := rfl
    unfold ref05_Number_p1
    simp (disch := omega) only [Stp, r_geq, d1, r_mul, stepR_value, r_add, and_true, Cnd_false]
    simp
  | succ j =>
    have e0 : ((j + 1 : Nat) : Int) - 1 = (j : Int) := by omega
    have d1 : decide ((0 : Int) ≤ (j : Int)) = true := by simp
    obtain ⟨b, off, c', e, _, hcell⟩ := blOpen h (by omega)
    cases e
    have g := hcell j (by omega)
    have hd : L.drop j = L[j] :: L.drop (j + 1) := List.drop_eq_getElem_cons (by omega)
    have hlt := numB_lt (L.drop j)
    rw [List.length_drop] at hlt
    have hp : 2 ^ (L.length - j) ≤ 2 ^ 60 := Nat.pow_le_pow_right (by omega) (by omega)
    generalize L[j] = bt at *
    have hn : numB (L.drop j) = bt.toNat + 2 * numB (L.drop (j + 1)) := by rw [hd, numB]
    generalize numB (L.drop (j + 1)) = x at *
    cases bt with
    | true =>
      have hn : numB (L.drop j) = 1 + 2 * x := hn
      rw [e0]
      simp (disch := omega) only [Stp, r_geq, d1, r_mul, w_u64, ia_sl_bool, Int.toNat_natCast, stepR_value, ld_bool, r_add, g, ldC_some, Cnd_true]
      unfold ref05_Number_p2
      simp (disch := omega) only [Stp, r_sub, w_i64, stepR_value, and_true]
      exact ⟨j, by omega, by rw [hn]; simp; omega, by omega⟩
    | false =>
      have hn : numB (L.drop j) = 2 * x := by rw [hn]; simp
      rw [e0]
      simp (disch := omega) only [Stp, r_geq, d1, r_mul, w_u64, ia_sl_bool, Int.toNat_natCast, stepR_value, ld_bool, r_add, g, ldC_some, Cnd_false, Cnd_true]
      unfold ref05_Number_p2
      simp (disch := omega) only [Stp, r_sub, w_i64, stepR_value, and_true]
      exact ⟨j, by omega, by rw [hn]; simp; omega, by omega⟩
end Go.Proofs.Ytcbkdccobhkbpaa
/- Contracts: the reference reads bits. -/
namespace Go.Proofs.Ytcbkdccobhkbpaa
open Go Go.En Go.Pu
set_option maxRecDepth 4000
set_option linter.unusedSimpArgs false
set_option linter.unusedVariables false

theorem AtI.mono {v : Value} {lo hi lo' hi' : Nat} (h : AtI v lo hi) (h1 : lo' ≤ lo) (h2 : hi ≤ hi') : AtI v lo' hi' := fun M hM => h M fun b hb hh => hM b (by omega) (by omega)

theorem emp_yes : ((⟨#[]⟩ : ByteArray).toList == (⟨#[]⟩ : ByteArray).toList) = true := by simp
theorem emp_no {x : ByteArray} (h : 0 < x.size) : (x.toList == (⟨#[]⟩ : ByteArray).toList) = false := by
  rw [ByteArray.toList_eq, ByteArray.toList_eq]
  have hl := lst_length x
  unfold lst at hl
  cases hx : x.data.toList with
  | nil => rw [hx] at hl; simp at hl; omega
  | cons a l => rfl

theorem refNew_bad {x : ByteArray} {w : World} (he : endB (lst x) = none) (hl : x.size ≤ 1000000) :
    Does pg F_ref05_New #[.string x] w (fun r w' => r = .tuple #[.agg #[.slice none 0 0, .int .i64 0], .int .i64 11] ∧ Ext w w' nob) := by
  refine ref05_New_does ?_
  have hll := lst_length x
  unfold ref05_New ref05_New_p7 ref05_New_p6
  refine al_lightermanref05_B fun w1 o1 x1 s1 => ?_
  rcases Nat.eq_zero_or_pos x.size with h0 | h0
  · have hx : x = ⟨#[]⟩ := lst_inj (List.length_eq_zero_iff.1 (by rw [hll, h0]))
    subst hx
    simp (disch := omega) only [Stp, r_seql, emp_yes, bd_lightermanref05_B_, stepR_value, isB_tf, r_pick, if_true, Cnd_true, Gd_false]
    refine sta_lightermanref05_B o1 rfl (by simp [one]) (by simp) fun w6 o6 x6 s6 => ?_
    refine ldr_lightermanref05_B o6 (by simp [setAll]) ⟨rfl, ?_⟩
    exact x1.new x6 (Nat.le_refl _)
  · rw [endB_last (by omega)] at he
    have hg : (x[x.size - 1]'(by omega)).toNat = 0 := by
      rw [lst_get]
      simp only [hll] at he
      split at he
      · assumption
      · cases he
    have e1 : (x.size : Int) - 1 = ((x.size - 1 : Nat) : Int) := by omega
    have d2 : (((0 : Nat) : Int) == 0) = true := rfl
    have hne := emp_no h0
    simp (disch := omega) only [Stp, r_seql, hne, bd_lightermanref05_B_, stepR_value, isB_ff, r_pick, Bool.false_eq_true, if_false, Gd_true, ln_string, r_sub, e1, w_i64, ix_string, Int.toNat_natCast, hg, r_eql, d2, Cnd_true]
    refine sta_lightermanref05_B o1 rfl (by simp [one]) (by simp) fun w6 o6 x6 s6 => ?_
    refine ldr_lightermanref05_B o6 (by simp [setAll]) ⟨rfl, ?_⟩
    exact x1.new x6 (Nat.le_refl _)

/-- the reference's reader from the back -/
def RB (w : World) (lo hi : Nat) (b : Value) (L : List Bool) (lack : Nat) : Prop := ∃ v, b = .agg #[v, .int .i64 lack] ∧ Bl w v L ∧ AtI v lo hi
theorem RB.ext {w w' : World} {lo hi lack : Nat} {b : Value} {L : List Bool} {M : Nat → Prop} (h : RB w lo hi b L lack) (hx : Ext w w' M) (hM : ∀ b, lo ≤ b → b < hi → ¬ M b) : RB w' lo hi b L lack := by
  obtain ⟨v, h1, h2, h3⟩ := h
  exact ⟨v, h1, h2.ext hx (h3 M hM), h3⟩

theorem refNew_ok {x : ByteArray} {k : Nat} {w : World} (he : endB (lst x) = some k) (hl : x.size ≤ 1000000) :
    Does pg F_ref05_New #[.string x] w (fun r w' => ∃ b hi, r = .tuple #[b, .int .i64 0] ∧ hi ≤ w'.heap.size ∧ RB w' w.heap.size hi b ((bitsB (lst x)).take k) 0 ∧ Ext w w' nob) := by
  refine ref05_New_does ?_
  have hll := lst_length x
  obtain ⟨h0, hk1, hk2, htop, hoff⟩ := endB_some he
  unfold ref05_New ref05_New_p7 ref05_New_p6
  refine al_lightermanref05_B fun w1 o1 x1 s1 => ?_
  rw [endB_last (by omega)] at he
  have hg : (x[x.size - 1]'(by omega)).toNat ≠ 0 := by
    rw [lst_get]
    simp only [hll] at he
    split at he
    · cases he
    · assumption
  have e1 : (x.size : Int) - 1 = ((x.size - 1 : Nat) : Int) := by omega
  have hne := emp_no (show 0 < x.size by omega)
  have d2 : (((x[x.size - 1]'(by omega)).toNat : Int) == 0) = false := by simpa using hg
  simp (disch := omega) only [Stp, r_seql, hne, bd_lightermanref05_B_, stepR_value, isB_ff, r_pick, Bool.false_eq_true, if_false, Gd_true, ln_string, r_sub, e1, w_i64, ix_string, Int.toNat_natCast, r_eql, d2, Cnd_false]
  refine (refBits5_c hl).mono ?_
  rintro r w2 ⟨o2, x2⟩
  have hat := OSl.atI o2
  have hs := o2.sl
  have hbl := bitsB_length (lst x)
  obtain ⟨a, c, rfl⟩ := o2.len
  have o12 := o1.ext x2 (fun h => h)
  simp (disch := omega) only [ln_sl_bool, stepR_value, r_sub, w_i64]
  unfold ref05_New_p5 ref05_New_p4 ref05_New_p3
  refine LoopD.rule (fun m (t : Value) w' => t = .int .i64 m ∧ k ≤ m ∧ m < 8 * x.size ∧ w' = w2) (8 * x.size - 1)
    ⟨by have : ((8 * x.size : Nat) : Int) - 1 = ((8 * x.size - 1 : Nat) : Int) := by omega
        rw [this], by omega, by omega, rfl⟩ ?_
  rintro m t w3 ⟨rfl, hm1, hm2, rfl⟩
  unfold ref05_New_p2
  obtain ⟨b, off, c', e, _, hcell⟩ := blOpen hs (by omega)
  rw [hbl, hll] at e
  cases e
  have hgm : (bitsB (lst x))[m]? = some (decide (m = k)) := by
    by_cases h : m = k
    · subst h; simpa using htop
    · rw [hoff m (by omega) (by omega)]; simp [h]
  have g := hcell m (by omega)
  rw [List.getElem?_eq_getElem (by omega)] at hgm
  rw [Option.some.inj hgm] at g
  by_cases h : m = k
  · subst h
    have d3 : decide (m = m) = true := by simp
    have hsl := hs.take' (k := m) (by omega)
    have hsub : AtI (.slice (shift? (some ⟨b, off, none⟩) c 0 1) (m - 0) (c - 0)) w1.heap.size w3.heap.size := AtI.sub hat (by omega)
    rw [← List.map_take] at hsl
    unfold ref05_New_p1
    simp (disch := omega) only [Stp, ia_sl_bool, Int.toNat_natCast, r_sub, w_i64, stepR_value, sl_sl_bool_hi, bd_lightermanref05_B_0, ld_bool, g, ldC_some, r_not, and_true]
    refine sta_lightermanref05_B o12 rfl (by simp [one]) (by simp) fun w6 o6 x6 s6 => ?_
    refine ldr_lightermanref05_B o6 (by simp [setAll]) ?_
    simp only [setAll, List.set_cons_zero, List.set_cons_succ, List.drop_zero, List.take_succ_cons, List.take_zero]
    have z1 := x1.size
    have z2 := x2.size
    refine ⟨_, w3.heap.size, rfl, by have := x6.size; omega, ⟨_, rfl, hsl.ext x6 (hsub _ fun b hb hh => by omega), AtI.mono hsub (by omega) (by omega)⟩, ?_⟩
    exact (x1.seq x2).new x6 (by omega)
  · have d3 : decide (m = k) = false := by simpa using h
    have e2 : (m : Int) - 1 = ((m - 1 : Nat) : Int) := by omega
    simp (disch := omega) only [Stp, ia_sl_bool, Int.toNat_natCast, r_sub, e2, w_i64, stepR_value, ld_bool, g, d3, ldC_some, r_not, Bool.not_false, and_true, Cnd_true]
    exact ⟨m - 1, by omega, rfl, by omega, by omega⟩
end Go.Proofs.Ytcbkdccobhkbpaa
/- Contracts: the reference reads bits from the back, and from the front. -/
namespace Go.Proofs.Ytcbkdccobhkbpaa
open Go Go.En Go.Pu
set_option maxRecDepth 4000
set_option linter.unusedSimpArgs false
set_option linter.unusedVariables false

theorem refLast_c {lo hi lack n : Nat} {b : Value} {L : List Bool} {w : World} (h : RB w lo hi b L lack) (hn : n ≤ 56) (hL : L.length ≤ 10000000) (hk : lack ≤ 1000000000) :
    Does pg F_ref05_Last #[b, .int .i64 n] w (fun r w' => ∃ b', r = .tuple #[b', .int .u64 (lastN L n : Nat)] ∧ RB w' lo hi b' (L.take (L.length - min n L.length)) (lack + (n - min n L.length)) ∧ Ext w w' nob) := by
  refine ref05_Last_does ?_
  obtain ⟨RR, hRR⟩ : ∃ RR : Value → World → Prop, RR = fun r w' => ∃ b', r = .tuple #[b', .int .u64 (lastN L n : Nat)] ∧ RB w' lo hi b' (L.take (L.length - min n L.length)) (lack + (n - min n L.length)) ∧ Ext w w' nob := ⟨_, rfl⟩
  rw [← hRR]
  obtain ⟨v, rfl, hs, hat⟩ := h
  obtain ⟨a, c, rfl, hc⟩ := blLen hs
  unfold ref05_Last ref05_Last_p11 ref05_Last_p10
  refine stp_box fun w1 o1 x1 s1 => ?_
  refine al_lightermanref05_B fun w2 o2 x2 s2 => ?_
  simp only [Value.cells] at o1
  have o1 := o1.ext x2 (fun h => h)
  have c0 := o1.cell (off := 0)
  simp only [List.getElem?_cons_zero, List.getElem?_cons_succ] at c0
  have x02 : Ext w w2 nob := x1.seq x2
  have hne : w.heap.size ≠ w1.heap.size := by omega
  obtain ⟨p1, hp1⟩ : ∃ p1, p1 = w.heap.size := ⟨_, rfl⟩
  obtain ⟨p2, hp2⟩ : ∃ p2, p2 = w1.heap.size := ⟨_, rfl⟩
  rw [← hp1, ← hp2] at hne
  rw [← hp1] at o1 c0 ⊢
  rw [← hp2] at o2 ⊢
  have hw1 : w.heap.size ≤ p1 := by omega
  have hw2 : w.heap.size ≤ p2 := by omega
  have fin : ∀ (v : Value) (l : Nat) (w' : World) (xx : Nat), Own w' p1 [v, .int .i64 l] → one v = true → Own w' p2 [.slice none 0 0, .int .i64 0] → Ext w w' nob →
      (∀ w'', Ext w w'' nob → RR (.tuple #[.agg #[v, .int .i64 l], .int .u64 xx]) w'') → Stp pg (sLoad 60 (.pointer (some ⟨p1, 0, none⟩))) w' fun t15 w => Stp pg (sStore 60 (.pointer (some ⟨p2, 0, none⟩)) t15) w fun _u w => LdR pg 60 (.pointer (some ⟨p2, 0, none⟩)) w fun r0 => RR (.tuple #[r0, .int .u64 xx]) w := by
    intro v l w' xx q1 qv q2 qx qk
    have l1 := lda_lightermanref05_B (off := 0) q1 (by simp)
    simp only [List.drop_zero, List.take_succ_cons, List.take_zero] at l1
    simp (disch := omega) only [Stp, l1, stepR_value]
    refine sta_lightermanref05_B q2 rfl (by simp [one]; exact qv) (by simp) fun w6 o6 x6 s6 => ?_
    refine ldr_lightermanref05_B o6 (by simp [setAll]) ?_
    simp only [setAll, List.set_cons_zero, List.set_cons_succ, List.drop_zero, List.take_succ_cons, List.take_zero]
    exact qk _ (qx.new x6 hw2)
  by_cases hn0 : n = 0
  · subst hn0
    have d1 : decide (((0 : Nat) : Int) < 1) = true := rfl
    simp (disch := omega) only [Stp, r_lss, d1, fa_lightermanref05_B_L, stepR_value, ld_sl_bool, isB_tf, r_pick, if_true, Cnd_true, Gd_false]
    refine fin _ lack w2 0 o1 rfl o2 x02 fun w' x => ?_
    rw [hRR]
    refine ⟨.agg #[.slice a L.length c, .int .i64 lack], ?_, ⟨_, rfl, ?_, hat⟩, x⟩
    · have h0 : lastN L 0 = 0 := by
        have := lastN_lt L 0
        rw [Nat.pow_zero] at this; omega
      rw [h0]
    · have : L.take (L.length - min 0 L.length) = L := List.take_of_length_le (by omega)
      rw [this]
      exact hs.ext x (inB_nob _)
  have d1 : decide ((n : Int) < 1) = false := by simp; omega
  have d2 : decide ((56 : Int) < (n : Int)) = false := by simp; omega
  have hlt := lastN_lt L n
  have hp : 2 ^ n ≤ 2 ^ 56 := Nat.pow_le_pow_right (by omega) hn
  have tail : ∀ k : Nat, k = min n L.length → ref05_Last_p9 RR
      (.int .i64 n) (.pointer (some ⟨p1, 0, none⟩)) (.pointer (some ⟨p2, 0, none⟩)) (.int .i64 k) w2 := by
    intro k hk0
    rw [← hk0] at hRR
    have hsd := (hs.ext x02 (inB_nob _)).drop' (k := L.length - k) (by omega)
    rw [← List.map_drop] at hsd
    have hval : lastN L n = numB (L.drop (L.length - k)) * 2 ^ (n - k) := by unfold lastN; rw [← hk0]
    have e1 : (L.length : Int) - (k : Int) = ((L.length - k : Nat) : Int) := by omega
    unfold ref05_Last_p9 ref05_Last_p8
    simp (disch := omega) only [Stp, fa_lightermanref05_B_L, stepR_value, ld_sl_bool, c0, ldC_some, ln_sl_bool, r_sub, e1, w_i64, sl_sl_bool_lo, Int.toNat_natCast]
    refine (refNumber_c hsd (by rw [List.length_drop]; omega)).mono ?_
    rintro r w3 ⟨rfl, rfl⟩
    generalize numB (L.drop (L.length - k)) = x0 at *
    unfold ref05_Last_p7 ref05_Last_p6 ref05_Last_p5 ref05_Last_p4 ref05_Last_p3
    refine LoopD.rule (fun m (t : Value × Value) w' => ∃ i : Nat, m = n - i ∧ t = (.int .u64 (x0 * 2 ^ (i - k) : Nat), .int .i64 i) ∧ k ≤ i ∧ i ≤ n ∧ Own w' p1 [.slice a L.length c, .int .i64 (lack + (i - k) : Nat)] ∧ Ext w3 w' (fun y => y = p1)) (n - k)
      ⟨k, rfl, by simp, by omega, by omega, by simpa using o1, Ext.refl _ _⟩ ?_
    rintro m t w4 ⟨i, rfl, rfl, hi1, hi2, o4, x4⟩
    have c14 := o4.cell (off := 1)
    have c04 := o4.cell (off := 0)
    simp only [List.getElem?_cons_zero, List.getElem?_cons_succ] at c14 c04
    unfold ref05_Last_p2
    by_cases hlt2 : i < n
    · have d3 : decide ((i : Int) < (n : Int)) = true := by simp; omega
      have hle : x0 * 2 ^ (i + 1 - k) ≤ lastN L n := by
        rw [hval]; exact Nat.mul_le_mul_left _ (Nat.pow_le_pow_right (by omega) (by omega))
      have hsu : x0 * 2 ^ (i + 1 - k) = x0 * 2 ^ (i - k) * 2 := by rw [show i + 1 - k = i - k + 1 from by omega, Nat.pow_succ, Nat.mul_assoc]
      generalize x0 * 2 ^ (i - k) = y at *
      have e2 : ((lack + (i - k) : Nat) : Int) + 1 = ((lack + (i + 1 - k) : Nat) : Int) := by omega
      have e3 : (y : Int) * 2 = ((y * 2 : Nat) : Int) := by omega
      simp (disch := omega) only [Stp, r_lss, d3, r_mul, e3, w_u64, fa_lightermanref05_B_Lack, Nat.zero_add, r_add, w_i64, stepR_value, ld_int, c14, ldC_some, e2, Cnd_true]
      refine st_int o4 rfl (by simp) fun w5 o5 x5 s5 => ?_
      simp only [List.set_cons_zero, List.set_cons_succ] at o5
      exact ⟨n - (i + 1), by omega, i + 1, by omega, by rw [hsu]; simp, by omega, by omega, o5, x4.seq x5⟩
    · have d3 : decide ((i : Int) < (n : Int)) = false := by simp; omega
      obtain rfl : i = n := by omega
      rw [← hval]
      unfold ref05_Last_p1
      simp (disch := omega) only [Stp, r_lss, d3, r_mul, w_u64, fa_lightermanref05_B_Lack, Nat.zero_add, r_add, w_i64, stepR_value, ld_int, fa_lightermanref05_B_L, ld_sl_bool, c04, ldC_some, ln_sl_bool, r_sub, e1, sl_sl_bool_hi, Int.toNat_natCast, Cnd_false]
      refine st_sl_bool o4 rfl (by simp) fun w5 o5 x5 s5 => ?_
      simp only [List.set_cons_zero, List.set_cons_succ] at o5
      have x35 := x4.seq x5
      refine fin _ _ w5 _ o5 rfl (o2.ext x35 (by omega)) (x02.new x35 hw1) fun w' x => ?_
      rw [hRR]
      refine ⟨_, rfl, ⟨_, rfl, ?_, AtI.sub hat (by omega)⟩, x⟩
      have hst := hs.take' (k := L.length - k) (by omega)
      rw [← List.map_take] at hst
      exact hst.ext x (inB_nob _)
  by_cases hgt : L.length < n
  · have d3 : decide ((L.length : Int) < (n : Int)) = true := by simp; omega
    simp (disch := omega) only [Stp, r_lss, d1, fa_lightermanref05_B_L, stepR_value, ld_sl_bool, isB_ff, r_pick, Bool.false_eq_true, if_false, Gd_true, r_gtr, d2, c0, ldC_some, ln_sl_bool, d3, Cnd_true, Cnd_false]
    exact tail _ (by omega)
  · have d3 : decide ((L.length : Int) < (n : Int)) = false := by simp; omega
    simp (disch := omega) only [Stp, r_lss, d1, fa_lightermanref05_B_L, stepR_value, ld_sl_bool, isB_ff, r_pick, Bool.false_eq_true, if_false, Gd_true, r_gtr, d2, c0, ldC_some, ln_sl_bool, d3, Cnd_false]
    exact tail _ (by omega)

theorem refLeft_c {lo hi lack : Nat} {b : Value} {L : List Bool} {w : World} (h : RB w lo hi b L lack) (hL : L.length ≤ 10000000) (hk : lack ≤ 1000000000) :
    Does pg F_ref05_Left #[b] w (fun r w' => r = .int .i64 ((L.length : Int) - lack) ∧ Ext w w' nob) := by
  refine ref05_Left_does ?_
  obtain ⟨v, rfl, hs, hat⟩ := h
  obtain ⟨a, c, rfl, hc⟩ := blLen hs
  unfold ref05_Left ref05_Left_p1
  refine stp_box fun w1 o1 x1 s1 => ?_
  simp only [Value.cells] at o1
  have c0 := o1.cell (off := 0)
  have c1 := o1.cell (off := 1)
  simp only [List.getElem?_cons_zero, List.getElem?_cons_succ] at c0 c1
  simp (disch := omega) only [Stp, fa_lightermanref05_B_L, fa_lightermanref05_B_Lack, Nat.zero_add, stepR_value, ld_int, ld_sl_bool, c0, ldC_some, ln_sl_bool, c1, r_sub, w_i64, true_and]
  exact x1
end Go.Proofs.Ytcbkdccobhkbpaa
/- Contracts: bits written. -/
namespace Go.Proofs.Ytcbkdccobhkbpaa
open Go Go.En Go.Pu
set_option maxRecDepth 4000
set_option linter.unusedSimpArgs false
set_option linter.unusedVariables false

theorem ossExt {w w' : World} {S M : Nat → Prop} {sz n : Nat} {v : Value} {l : List Value} (h : OSS w S sz v n l) (hx : Ext w w' M) (hM : ∀ b, S b → ¬ M b) : OSS w' S sz v n l := by
  refine ⟨h.1, ?_⟩
  rcases h.2 with h2 | ⟨b, c, rest, h1, h2, h3, h4, h5⟩
  · exact .inl h2
  · exact .inr ⟨b, c, rest, h1, h2, h3.ext hx (hM b h2), h4, h5⟩

/-- a writer: its block is p, its bytes lie elsewhere from lo on -/
def Wr (w : World) (lo p : Nat) (B : List Bool) : Prop := lo ≤ p ∧ ∃ v bytes, Own w p [v, .int .i64 B.length] ∧ OSS w (fun b => lo ≤ b ∧ b ≠ p) 1 v bytes.length (bytes.map b2v) ∧ Held B bytes
/-- a writer with room for a bit -/
def Rm (w : World) (lo p : Nat) (B : List Bool) : Prop := lo ≤ p ∧ ∃ v bytes, Own w p [v, .int .i64 B.length] ∧ OSS w (fun b => lo ≤ b ∧ b ≠ p) 1 v bytes.length (bytes.map b2v) ∧
  bitsB bytes = B ++ List.replicate (8 * bytes.length - B.length) false ∧ bytes.length = (B.length + 1 + 7) / 8
theorem Wr.ext {w w' : World} {lo p : Nat} {B : List Bool} {M : Nat → Prop} (h : Wr w lo p B) (hx : Ext w w' M) (hM : ∀ b, lo ≤ b → ¬ M b) : Wr w' lo p B := by
  obtain ⟨h0, v, bytes, h1, h2, h3⟩ := h
  exact ⟨h0, v, bytes, h1.ext hx (hM _ h0), ossExt h2 hx fun b hb => hM b hb.1, h3⟩

theorem newWriter_c (w : World) : Does pg F_bits_NewWriter #[] w (fun r w' => r = .pointer (some ⟨w.heap.size, 0, none⟩) ∧ w.heap.size < w'.heap.size ∧ Wr w' w.heap.size w.heap.size [] ∧ Ext w w' nob) := by
  refine bits_NewWriter_does ?_
  unfold bits_NewWriter bits_NewWriter_p1
  simp (disch := omega) only [Stp, bd_bits_Writer_, stepR_value]
  refine stp_box fun w1 o1 x1 s1 => ?_
  simp only [Value.cells] at o1
  exact ⟨rfl, by omega, ⟨Nat.le_refl _, _, [], o1, ⟨rfl, .inl ⟨rfl, rfl⟩⟩, held_nil⟩, x1⟩

theorem put_c {lo p x i : Nat} {B : List Bool} {t17 : Value} {w : World} (h : Rm w lo p B) (hx : x < 2 ^ 64) (hi : i ≤ 60) (hB : B.length ≤ 1000000000)
    {kn : Value → Value → Value → Value → World → Prop} (hR : ∀ w', Wr w' lo p (B ++ [x.testBit i]) → Ext w w' (fun y => lo ≤ y) → kn (.pointer (some ⟨p, 0, none⟩)) (.int .u64 x) t17 (.int .i64 i) w') :
    bits_Writer_Write_p2 kn (.pointer (some ⟨p, 0, none⟩)) (.int .u64 x) (.int .i64 i) t17 (.int .i64 i) w := by
  obtain ⟨h0, v, bytes, o, os, hbits, hlen⟩ := h
  obtain ⟨hlt, hheld, hval, hor⟩ := held_set (y := x.testBit i) hbits hlen
  rcases os.2 with ⟨rfl, hz⟩ | ⟨b, c, rest, rfl, hS, ob, hc, hn⟩
  · rw [hlen] at hz; omega
  generalize hq : B.length = q at *
  have hcell : (bytes.map b2v ++ rest)[q / 8]? = some (.int .u8 ((bytes[q / 8]'hlt).toNat : Nat)) := by
    rw [List.getElem?_append_left (by rw [List.length_map]; exact hlt), List.getElem?_map, List.getElem?_eq_getElem hlt]; rfl
  have hcl : (bytes[q / 8]'hlt).toNat < 2 ^ 8 := UInt8.toNat_lt _
  have hset : (bytes.map b2v ++ rest).set (q / 8) (.int .u8 (((bytes[q / 8]'hlt).toNat + 2 ^ (q % 8) * (x.testBit i).toNat : Nat))) = (bytes.set (q / 8) (UInt8.ofNat ((bytes[q / 8]'hlt).toNat + 2 ^ (q % 8) * (x.testBit i).toNat))).map b2v ++ rest := by
    rw [List.set_append_left _ _ (by rw [List.length_map]; exact hlt), List.map_set, b2v, UInt8.toNat_ofNat_of_lt' (by simpa using hval)]
  have hbl : (bytes.set (q / 8) (UInt8.ofNat ((bytes[q / 8]'hlt).toNat + 2 ^ (q % 8) * (x.testBit i).toNat))).length = bytes.length := List.length_set
  generalize bytes.set (q / 8) (UInt8.ofNat ((bytes[q / 8]'hlt).toNat + 2 ^ (q % 8) * (x.testBit i).toNat)) = bytes' at *
  generalize (bytes[q / 8]'hlt).toNat = y at *
  have e1 : (q : Int).tdiv 8 = ((q / 8 : Nat) : Int) := by rw [Int.tdiv_eq_ediv_of_nonneg (by omega)]; omega
  have e2 : (q : Int).tmod 8 = ((q % 8 : Nat) : Int) := by rw [Int.tmod_eq_emod_of_nonneg (by omega)]; omega
  have e3 := shr_u64 x i (by omega)
  have hxl : x / 2 ^ i < 2 ^ 64 := by have := Nat.div_le_self x (2 ^ i); omega
  have e4 := and1_u64 hxl
  rw [← toNat_bit] at e4
  have hbt : (x.testBit i).toNat ≤ 1 := Bool.toNat_le _
  have hp8 : 2 ^ (q % 8) ≤ 2 ^ 7 := Nat.pow_le_pow_right (by omega) (by omega)
  have hm : (x.testBit i).toNat * 2 ^ (q % 8) ≤ 2 ^ (q % 8) := by
    have := Nat.mul_le_mul_right (2 ^ (q % 8)) hbt
    omega
  have e5 : IntKind.u8.wrap (((x.testBit i).toNat : Int) * 2 ^ (min (q % 8) IntKind.u8.bits)) = (((x.testBit i).toNat * 2 ^ (q % 8) : Nat) : Int) := by
    rw [show min (q % 8) IntKind.u8.bits = q % 8 from Nat.min_eq_left (by have h8 : IntKind.u8.bits = 8 := rfl; omega)]
    have e : ((x.testBit i).toNat : Int) * 2 ^ (q % 8) = (((x.testBit i).toNat * 2 ^ (q % 8) : Nat) : Int) := by simp
    rw [e]
    exact w_u8 (by omega) (by omega)
  have e6 := orI_nat8 (a := y) (b := (x.testBit i).toNat * 2 ^ (q % 8)) hcl (by omega)
  rw [hor] at e6
  have e7 : (q : Int) + 1 = ((q + 1 : Nat) : Int) := by omega
  have od := own_dr o
  have obd := own_dr ob
  have c0 := od.cell (off := 0)
  have c1 := od.cell (off := 1)
  have g := obd.cell (off := q / 8)
  rw [hcell] at g
  simp only [List.getElem?_cons_zero, List.getElem?_cons_succ] at c0 c1
  unfold bits_Writer_Write_p2
  simp (disch := omega) only [Stp, r_nil, cv_int_uint, w_u64, stepR_value, fa_bits_Writer_n, Nat.zero_add, ld_int, c1, ldC_some, r_rem, e2, true_and, r_shr, Int.toNat_natCast, e3, r_and, e4, cv_uint64_uint8, w_u8, r_shl, e5, r_quo, e1, w_i64, fa_bits_Writer_b, ld_sl_uint8, c0, ia_sl_uint8, ld_uint8, g, r_or, e6]
  refine st_uint8 obd rfl (by rw [List.length_append, List.length_map]; omega) fun w2 o2 x2 s2 => ?_
  rw [hset] at o2
  have op2 := od.ext x2 (fun h => hS.2 h.symm)
  have c12 := op2.cell (off := 1)
  simp only [List.getElem?_cons_zero, List.getElem?_cons_succ] at c12
  simp (disch := omega) only [c12, ldC_some, stepR_value, r_add, e7, w_i64]
  refine st_int op2 rfl (by simp) fun w3 o3 x3 s3 => ?_
  simp only [List.set_cons_zero, List.set_cons_succ] at o3
  have hBl : (B ++ [x.testBit i]).length = q + 1 := by rw [List.length_append, hq]; rfl
  refine hR _ ⟨h0, _, bytes', by rw [hBl]; exact o3, ⟨by simp, .inr ⟨b, c, rest, by rw [hbl], hS, o2.ext x3 hS.2, ?_, by rw [hbl]; exact hn⟩⟩, hheld⟩ ?_
  · rw [List.length_append, List.length_map] at hc ⊢; rw [hbl]; exact hc
  · exact ((Ext.dr _ _).seq (x2.mono fun z _ h => by omega)).seq (x3.mono fun z _ h => by omega)

theorem bit_c {lo p x i n : Nat} {B : List Bool} {w : World} (hw : Wr w lo p B) (hx : x < 2 ^ 64) (hi : i ≤ 60) (hB : B.length ≤ 1000000000)
    {kn : Value → Value → Value → Value → World → Prop} (hR : ∀ w', Wr w' lo p (B ++ [x.testBit i]) → Ext w w' (fun y => lo ≤ y) → kn (.pointer (some ⟨p, 0, none⟩)) (.int .u64 x) (.int .i64 n) (.int .i64 i) w') :
    bits_Writer_Write_p4 kn (.pointer (some ⟨p, 0, none⟩)) (.int .u64 x) (.int .i64 n) (.int .i64 i) w := by
  unfold bits_Writer_Write_p4 bits_Writer_Write_p3
  obtain ⟨h0, v, bytes, o, os, hh⟩ := hw
  have c1 := o.cell (off := 1)
  have c0 := o.cell (off := 0)
  simp only [List.getElem?_cons_zero, List.getElem?_cons_succ] at c0 c1
  have e2 : (B.length : Int).tmod 8 = ((B.length % 8 : Nat) : Int) := by rw [Int.tmod_eq_emod_of_nonneg (by omega)]; omega
  by_cases h8 : B.length % 8 = 0
  · have d4 : (((B.length % 8 : Nat) : Int) == 0) = true := by rw [h8]; rfl
    obtain ⟨hr1, hr2⟩ := held_room hh h8
    have hl2 := hh.len
    have lp := o.lt
    simp (disch := omega) only [Stp, r_nil, stepR_value, fa_bits_Writer_b, ld_sl_uint8, fa_bits_Writer_n, Nat.zero_add, ld_int, c1, ldC_some, r_rem, e2, r_eql, d4, c0, Cnd_true]
    refine bs_sl_uint8 (cells := #[.int .u8 0]) (by decide) (by decide) (by kernel_rfl) fun w2 o2 x2 s2 => ?_
    refine stp_appendS (m := 1) (news := [b2v 0]) (i := Try.t5) Try.underlying52 Try.underlying52 inf5 rfl rfl rfl (ossExt os x2 (fun _ _ h => h)) (o2.cl (off := 0) (l := [b2v 0]) (n := 1) rfl (fun i hi => by rw [Nat.zero_add]; rfl)) (by simp [one, b2v]) (fun b hb => ⟨by omega, by omega⟩) (by omega) (by rw [show Try.t5.bytes = 1 from rfl]; omega) (by decide) fun v3 w3 o3 x3 => ?_
    have x13 : Ext w w3 (fun y => lo ≤ y ∧ y ≠ p) := (x2.mono fun _ _ h => h.elim).seq x3
    have op3 := o.ext x13 (fun h => h.2 rfl)
    have hv3 : ∃ a n c, v3 = .slice a n c := by
      rcases o3.2 with ⟨rfl, _⟩ | ⟨b, c, rest, rfl, _⟩
      · exact ⟨_, _, _, rfl⟩
      · exact ⟨_, _, _, rfl⟩
    obtain ⟨a3, n3, c3, rfl⟩ := hv3
    refine st_sl_uint8 op3 rfl (by simp) fun w4 o4 x4 s4 => ?_
    simp only [List.set_cons_zero, List.set_cons_succ] at o4
    have x14 : Ext w w4 (fun y => lo ≤ y) := (x13.mono fun y _ h => h.1).seq (x4.mono fun y _ h => by omega)
    refine put_c (w := w4) ⟨h0, _, bytes ++ [0], o4, ?_, ?_, hr2⟩ hx hi hB fun w5 h5 x5 => hR w5 h5 (x14.seq x5)
    · have := ossExt o3 x4 (fun b hb h => hb.2 h)
      rw [List.length_append, List.map_append]
      exact this
    · rw [List.length_append]; exact hr1
  · have d4 : (((B.length % 8 : Nat) : Int) == 0) = false := by simp; omega
    simp (disch := omega) only [Stp, r_nil, stepR_value, fa_bits_Writer_b, ld_sl_uint8, fa_bits_Writer_n, Nat.zero_add, ld_int, c1, ldC_some, r_rem, e2, r_eql, d4, Cnd_false]
    refine put_c (w := w) ⟨h0, v, bytes, o, os, hh.bits, ?_⟩ hx hi hB fun w5 h5 x5 => hR w5 h5 x5
    rw [hh.len]; omega

theorem write_c {lo p x n : Nat} {B : List Bool} {w : World} (h : Wr w lo p B) (hx : x < 2 ^ 64) (hn : n ≤ 56) (hB : B.length ≤ 100000000) :
    Does pg F_bits_Writer_Write #[.pointer (some ⟨p, 0, none⟩), .int .u64 x, .int .i64 n] w (fun r w' => r = .tuple #[] ∧ Wr w' lo p (B ++ bitsN x n) ∧ Ext w w' (fun y => lo ≤ y)) := by
  refine bits_Writer_Write_does ?_
  unfold bits_Writer_Write bits_Writer_Write_p12 bits_Writer_Write_p11
  by_cases hn0 : n = 0
  · subst hn0
    have d1 : decide (((0 : Nat) : Int) < 1) = true := rfl
    simp (disch := omega) only [Stp, peql_p_bits_Writer, Option.isNone_some, true_and, stepR_value, isB_ff, r_pick, Bool.false_eq_true, if_false, Gd_true, r_lss, d1, isB_tf, if_true, Cnd_true, Gd_false]
    exact ⟨by rw [bitsN_zero, List.append_nil]; exact h, Ext.refl _ _⟩
  have d1 : decide ((n : Int) < 1) = false := by simp; omega
  have d2 : decide ((56 : Int) < (n : Int)) = false := by simp; omega
  simp (disch := omega) only [Stp, peql_p_bits_Writer, Option.isNone_some, true_and, stepR_value, isB_ff, r_pick, Bool.false_eq_true, if_false, Gd_true, r_lss, d1, r_gtr, d2, Cnd_false]
  unfold bits_Writer_Write_p10 bits_Writer_Write_p9
  refine LoopD.rule (fun m (t : Value) w' => ∃ i : Nat, m = n - i ∧ t = .int .i64 i ∧ i ≤ n ∧ Wr w' lo p (B ++ bitsN x i) ∧ Ext w w' (fun y => lo ≤ y)) n
    ⟨0, rfl, rfl, by omega, by rw [bitsN_zero, List.append_nil]; exact h, Ext.refl _ _⟩ ?_
  rintro m t w1 ⟨i, rfl, rfl, hi, hw, x1⟩
  unfold bits_Writer_Write_p8 bits_Writer_Write_p7
  by_cases hlt : i < n
  · have d3 : decide ((i : Int) < (n : Int)) = true := by simp; omega
    simp (disch := omega) only [Stp, r_lss, d3, stepR_value, Cnd_true]
    unfold bits_Writer_Write_p6 bits_Writer_Write_p5
    refine bit_c hw hx (by omega) (by rw [List.length_append, bitsN_length]; omega) fun w3 hw3 x3 => ?_
    unfold bits_Writer_Write_p1
    simp (disch := omega) only [Stp, r_add, w_i64, stepR_value]
    refine ⟨n - (i + 1), by omega, i + 1, rfl, rfl, by omega, ?_, x1.seq x3⟩
    rw [bitsN_succ, ← List.append_assoc]
    exact hw3
  · have d3 : decide ((i : Int) < (n : Int)) = false := by simp; omega
    obtain rfl : i = n := by omega
    simp (disch := omega) only [Stp, r_lss, d3, stepR_value, Cnd_false]
    exact ⟨hw, x1⟩

theorem closed_c {lo p : Nat} {B : List Bool} {w : World} (h : Wr w lo p B) (hB : B.length ≤ 10000000) :
    Does pg F_bits_Writer_Closed #[.pointer (some ⟨p, 0, none⟩)] w (fun r w' => ∃ bytes, Bs w' r bytes ∧ Held (B ++ [true]) bytes ∧ AtI r w.heap.size w'.heap.size ∧ Ext w w' nob) := by
  refine bits_Writer_Closed_does ?_
  obtain ⟨h0, v, bytes, o, os, hh⟩ := h
  have c0 := (own_dr o).cell (off := 0)
  have c1 := (own_dr o).cell (off := 1)
  simp only [List.getElem?_cons_zero, List.getElem?_cons_succ] at c0 c1
  have hs : Bs w v bytes := by
    have h1 := os.1
    rcases os.2 with ⟨rfl, h2⟩ | ⟨b, c, rest, rfl, h2, h3, h4, h5⟩
    · exact ⟨_, _, _, rfl, by omega, by omega, fun h => by omega⟩
    · refine ⟨_, _, _, rfl, by omega, h5, fun _ => ⟨b, 0, rfl, fun i hi => ?_⟩⟩
      rw [h3.cell, Nat.zero_add, List.getElem?_append_left (by omega)]
  have hl := hh.len
  unfold bits_Writer_Closed bits_Writer_Closed_p1
  simp (disch := omega) only [Stp, peql_p_bits_Writer, Option.isNone_some, r_nil, Same, Result.ok.injEq, Next.value.injEq, and_true, true_and, stepR_value, fa_bits_Writer_n, Nat.zero_add, ld_int, fa_bits_Writer_b, ld_sl_uint8, c0, ldC_some, c1, Cnd_false]
  refine (clone_c (hs.ext (Ext.dr _ nob) (inB_nob _)) (by omega)).mono ?_
  rintro r w1 ⟨o1, x1⟩
  have z1 := x1.size
  have x01 : Ext w w1 nob := (Ext.dr w nob).seq x1
  have c11 := (o.ext x01 (fun h => h)).cell (off := 1)
  simp only [List.getElem?_cons_zero, List.getElem?_cons_succ] at c11
  have hdr : (dr w).heap.size = w.heap.size := rfl
  rw [hdr] at o1 z1
  obtain ⟨a1, cc1, rfl⟩ := o1.len
  simp (disch := omega) only [c11, ldC_some, stepR_value, bd_bits_Writer_0_1, true_and]
  refine stp_box fun w2 o2 x2 s2 => ?_
  simp only [Value.cells] at o2
  have hw : Wr w2 w.heap.size w1.heap.size B := by
    refine ⟨z1, _, bytes, o2, ⟨o1.1, ?_⟩, hh⟩
    rcases o1.2 with h2 | ⟨b, c, rest, h1, h2, h3, h4, h5⟩
    · exact .inl h2
    · have := h3.lt
      exact .inr ⟨b, c, rest, h1, ⟨h2, by omega⟩, h3.ext x2 (fun h => h), h4, h5⟩
  refine (write_c (x := 1) (n := 1) hw (by omega) (by omega) (by omega)).mono ?_
  rintro r w3 ⟨rfl, ⟨h0', v3, bytes3, o3, os3, hh3⟩, x3⟩
  have c03 := o3.cell (off := 0)
  simp only [List.getElem?_cons_zero, List.getElem?_cons_succ] at c03
  simp (disch := omega) only [r_nil, stepR_value, fa_bits_Writer_b, ld_sl_uint8, c03, ldC_some]
  have e1 : bitsN 1 1 = [true] := by decide
  rw [e1] at hh3
  refine ⟨bytes3, ?_, hh3, ?_, ?_⟩
  · have h1 := os3.1
    rcases os3.2 with ⟨rfl, h2⟩ | ⟨b, c, rest, rfl, h2, h3, h4, h5⟩
    · exact ⟨_, _, _, rfl, by omega, by omega, fun h => by omega⟩
    · refine ⟨_, _, _, rfl, by omega, h5, fun _ => ⟨b, 0, rfl, fun i hi => ?_⟩⟩
      rw [h3.cell, Nat.zero_add, List.getElem?_append_left (by omega)]
  · intro M hM
    rcases os3.2 with ⟨rfl, h2⟩ | ⟨b, c, rest, rfl, h2, h3, h4, h5⟩
    · exact fun h => h
    · exact At.at b 0 _ c M (hM b h2.1 h3.lt)
  · exact (x01.seq x2).trans x3 fun b hb h => by omega
end Go.Proofs.Ytcbkdccobhkbpaa
