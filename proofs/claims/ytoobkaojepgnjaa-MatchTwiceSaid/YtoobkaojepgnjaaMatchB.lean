/- Contracts: what a finder keeps, and looks for. -/
import Derived.Test.YtoobkaojepgnjaaMatchA
namespace Go.Proofs.Ytoobkaojepgnjaa
open Go Go.En
set_option maxRecDepth 4000
set_option linter.unusedSimpArgs false

theorem Lng.le_of {B : List UInt8} {to old at_ m n : Nat} (h : Lng B to old at_ m) (k : Lng B to old at_ n) : m ≤ n := by
  rcases Nat.lt_or_ge n m with hlt | hge
  · exfalso
    have h1 := h.le
    have h2 := h.most
    rcases k.full with f | f | f
    · omega
    · omega
    · exact f (h.same n hlt)
  · exact hge

def keyAt (B : List UInt8) (at_ : Nat) : Vec 4 := if h : at_ + 4 ≤ B.length then ⟨(B.drop at_).take 4, by simp; omega⟩ else ⟨[0, 0, 0, 0], rfl⟩

theorem keyed_c {w : World} {p mb ab : Nat} {bv : Value} {B : List UInt8} {to tries : Nat} {es : List (Vec 4 × Value)} {A : List Int} (hf : Fnd w p mb ab bv B to tries es A) (at_ : Nat) (ha : at_ ≤ B.length) :
    Does pg F_match_finder_keyed #[.pointer (some ⟨p, 0, none⟩), .int .i64 at_] w (fun r w' => r = .tuple #[encV (keyAt B at_), .bool (decide (at_ + 4 ≤ B.length))] ∧ Ext w w' nob) := by
  have hbig := hf.big
  refine match_finder_keyed_does ?_
  simp (disch := omega) only [match_finder_keyed_p1, match_finder_keyed, Stp, Same, stepR_value, stepR_skip, r_add, r_sub, r_mul, r_quo, r_rem, r_and, r_or, r_xor, r_andNot, r_shl, r_shr, r_eql, r_neq, r_lss, r_leq, r_gtr, r_geq, r_neg, r_cpl, r_not, r_pick, r_min, r_max, r_nil, x20, x21, x30, x31, x32, x40, x41, x42, x43, ldC_some, Result.ok.injEq, Next.value.injEq, true_and, and_true, w_i64, w_u64, w_i32, w_u32, w_u16, w_u8, Int.toNat_natCast, isB_tt, isB_tf, isB_ft, isB_ff, Gd_true, Gd_false, Cnd_true, Cnd_false, if_true, if_false, Bool.false_eq_true, Nat.zero_add, Option.isNone_some, Option.isNone_none, Bool.not_true, Bool.not_false, List.getElem?_cons_succ, List.getElem?_cons_zero, ln_sl_uint8, ln_sl_api_Sequence, cv_uint16_int, ia_sl_uint8, cv_uint8_int, ln_string, sl_sl_uint8_hi, bd_match_finder_0_1_2_3_4, cv_int_uint32, bd_api_Sequence_0_1_2, ia_sl_api_Sequence, fa_api_Sequence_Literals, ld_uint32, cv_uint32_int, fa_api_Sequence_Match, fa_api_Sequence_Offset, ix_string, fa_match_finder_last, ld_map_ar4_uint8_int, fa_match_finder_ahead, ld_sl_int, ia_sl_int, fa_match_finder_tries, ld_int, fa_match_finder_b, ld_sl_uint8, bd_ar4_uint8_, sl_sl_uint8_lohi, sa_ar4_uint8, fa_match_finder_to, ld_uint8]
  refine al_ar4_uint8 fun w1 o1 x1 s1 => ?_
  have hf := hf.same x1
  have c0 := hf.own.cell (off := 0)
  simp only [List.getElem?_cons_zero] at c0
  obtain ⟨a, c, hv, hc⟩ := hf.bs.len
  simp only [List.length_map] at hv hc
  subst hv
  by_cases h4 : at_ + 4 ≤ B.length
  · have d : decide ((B.length : Int) < (at_ : Int) + 4) = false := by simp; omega
    obtain ⟨b, off, c', e, hc, hb⟩ := hf.bs.open (by omega)
    cases e
    have e1 : ((at_ : Int) + 4).toNat = at_ + 4 := by omega
    have e2 : at_ + 4 - at_ = 4 := by omega
    have sh := shift_some (b := b) (o := off) (m := c) (l := at_) (by omega)
    have l1 := ldb_ar4_uint8 (w := w1) (b := b) (off := off + at_) (l := ((B.drop at_).take 4).map b2v) (by simp; omega) (fun j hj => by
      have hj : j < 4 := by simp at hj; omega
      rw [Nat.add_assoc, hb (at_ + j) (by omega), List.getElem?_map, List.getElem?_take_of_lt hj, List.getElem?_drop, List.getElem?_eq_getElem (by omega)]; rfl)
    simp (disch := omega) only [Stp, Same, stepR_value, stepR_skip, r_add, r_sub, r_mul, r_quo, r_rem, r_and, r_or, r_xor, r_andNot, r_shl, r_shr, r_eql, r_neq, r_lss, r_leq, r_gtr, r_geq, r_neg, r_cpl, r_not, r_pick, r_min, r_max, r_nil, x20, x21, x30, x31, x32, x40, x41, x42, x43, ldC_some, Result.ok.injEq, Next.value.injEq, true_and, and_true, w_i64, w_u64, w_i32, w_u32, w_u16, w_u8, Int.toNat_natCast, isB_tt, isB_tf, isB_ft, isB_ff, Gd_true, Gd_false, Cnd_true, Cnd_false, if_true, if_false, Bool.false_eq_true, Nat.zero_add, Option.isNone_some, Option.isNone_none, Bool.not_true, Bool.not_false, List.getElem?_cons_succ, List.getElem?_cons_zero, ln_sl_uint8, ln_sl_api_Sequence, cv_uint16_int, ia_sl_uint8, cv_uint8_int, ln_string, sl_sl_uint8_hi, bd_match_finder_0_1_2_3_4, cv_int_uint32, bd_api_Sequence_0_1_2, ia_sl_api_Sequence, fa_api_Sequence_Literals, ld_uint32, cv_uint32_int, fa_api_Sequence_Match, fa_api_Sequence_Offset, ix_string, fa_match_finder_last, ld_map_ar4_uint8_int, fa_match_finder_ahead, ld_sl_int, ia_sl_int, fa_match_finder_tries, ld_int, fa_match_finder_b, ld_sl_uint8, bd_ar4_uint8_, sl_sl_uint8_lohi, sa_ar4_uint8, fa_match_finder_to, ld_uint8, c0, d, e1, e2, sh, l1]
    refine sta_ar4_uint8 o1 (by simp; omega) (bs_one _) (by simp) fun w2 o2 x2 s2 => ?_
    refine ldr_ar4_uint8 o2 (by simp [setAll_length]) ⟨?_, x1.new x2 (Nat.le_refl _)⟩
    rw [decide_eq_true h4]
    unfold encV keyAt
    rw [dif_pos h4]
    have : ∀ l : List Value, l.length = 4 → ((setAll [.int .u8 0, .int .u8 0, .int .u8 0, .int .u8 0] 0 l).drop 0).take 4 = l := by
      intro l hl
      match l, hl with
      | [a, b, c, d], _ => rfl
    simp only [this _ (show (((B.drop at_).take 4).map b2v).length = 4 by simp; omega)]
  · have d : decide ((B.length : Int) < (at_ : Int) + 4) = true := by simp; omega
    simp (disch := omega) only [Stp, Same, stepR_value, stepR_skip, r_add, r_sub, r_mul, r_quo, r_rem, r_and, r_or, r_xor, r_andNot, r_shl, r_shr, r_eql, r_neq, r_lss, r_leq, r_gtr, r_geq, r_neg, r_cpl, r_not, r_pick, r_min, r_max, r_nil, x20, x21, x30, x31, x32, x40, x41, x42, x43, ldC_some, Result.ok.injEq, Next.value.injEq, true_and, and_true, w_i64, w_u64, w_i32, w_u32, w_u16, w_u8, Int.toNat_natCast, isB_tt, isB_tf, isB_ft, isB_ff, Gd_true, Gd_false, Cnd_true, Cnd_false, if_true, if_false, Bool.false_eq_true, Nat.zero_add, Option.isNone_some, Option.isNone_none, Bool.not_true, Bool.not_false, List.getElem?_cons_succ, List.getElem?_cons_zero, ln_sl_uint8, ln_sl_api_Sequence, cv_uint16_int, ia_sl_uint8, cv_uint8_int, ln_string, sl_sl_uint8_hi, bd_match_finder_0_1_2_3_4, cv_int_uint32, bd_api_Sequence_0_1_2, ia_sl_api_Sequence, fa_api_Sequence_Literals, ld_uint32, cv_uint32_int, fa_api_Sequence_Match, fa_api_Sequence_Offset, ix_string, fa_match_finder_last, ld_map_ar4_uint8_int, fa_match_finder_ahead, ld_sl_int, ia_sl_int, fa_match_finder_tries, ld_int, fa_match_finder_b, ld_sl_uint8, bd_ar4_uint8_, sl_sl_uint8_lohi, sa_ar4_uint8, fa_match_finder_to, ld_uint8, c0, d]
    refine sta_ar4_uint8 o1 rfl (by simp [one]) (by simp) fun w2 o2 x2 s2 => ?_
    refine ldr_ar4_uint8 o2 (by simp [setAll_length]) ⟨?_, x1.new x2 (Nat.le_refl _)⟩
    rw [decide_eq_false h4]
    unfold encV keyAt
    rw [dif_neg h4]
    rfl

/-- what is kept are places below n; of each place, one below it -/
structure Kept (n : Nat) (es : List (Vec 4 × Value)) (A : List Int) : Prop where
  es : ∀ q ∈ es, ∃ x : Nat, q.2 = .int .i64 x ∧ x < n
  ah : ∀ i (h : i < A.length), -1 ≤ A[i] ∧ A[i] ≤ i

theorem Kept.mono {n m : Nat} {es : List (Vec 4 × Value)} {A : List Int} (h : Kept n es A) (hm : n ≤ m) : Kept m es A :=
  ⟨fun q hq => let ⟨x, e, hx⟩ := h.es q hq; ⟨x, e, by omega⟩, h.ah⟩
theorem Kept.assoc {n : Nat} {es : List (Vec 4 × Value)} {A : List Int} (h : Kept n es A) {k : Vec 4} {v : Value} (he : En.assoc k es = some v) : ∃ x : Nat, v = .int .i64 x ∧ x < n := h.es _ (assoc_mem he)
theorem Kept.set {n i : Nat} {es : List (Vec 4 × Value)} {A : List Int} (h : Kept n es A) {x : Int} (h0 : -1 ≤ x) (h1 : x ≤ i) : Kept n es (A.set i x) :=
  ⟨h.es, fun j hj => by
    rw [List.getElem_set]
    split
    · rename_i e; subst e; exact ⟨h0, h1⟩
    · exact h.ah j _⟩

def noted (B : List UInt8) (at_ : Nat) (es : List (Vec 4 × Value)) : List (Vec 4 × Value) := if at_ + 4 ≤ B.length then upd (keyAt B at_) (.int .i64 at_) es else es

theorem Kept.noted {at_ : Nat} {B : List UInt8} {es : List (Vec 4 × Value)} {A : List Int} (h : Kept (at_ + 1) es A) : Kept (at_ + 1) (noted B at_ es) A := by
  refine ⟨fun q hq => ?_, h.ah⟩
  unfold Go.Proofs.Ytoobkaojepgnjaa.noted at hq
  split at hq
  · rcases upd_mem hq with rfl | hq
    · exact ⟨at_, rfl, by omega⟩
    · exact h.es q hq
  · exact h.es q hq

theorem note_tail {w w' : World} {p mb ab : Nat} {bv : Value} {B : List UInt8} {to tries at_ : Nat} {es : List (Vec 4 × Value)} {A : List Int} (hf : Fnd w' p mb ab bv B to tries es A) (hk : Kept (at_ + 1) es A)
    (hd : p ≠ mb ∧ p ≠ ab ∧ mb ≠ ab) (hb : ¬ inB bv fun b => b = mb ∨ b = ab) {kb : Nat} (hkb : Own w' kb ((keyAt B at_).1.map b2v)) (hx : Ext w w' fun b => b = mb ∨ b = ab)
    {R : World → Prop} (hR : ∀ w' A', Fnd w' p mb ab bv B to tries (noted B at_ es) A' → Kept (at_ + 1) (noted B at_ es) A' → Ext w w' (fun b => b = mb ∨ b = ab) → R w') :
    match_finder_note_p1 R (.pointer (some ⟨p, 0, none⟩)) (.int .i64 at_) (.pointer (some ⟨kb, 0, none⟩)) (.bool (decide (at_ + 4 ≤ B.length))) w' := by
  have hkept := hk.noted (B := B)
  have hn : noted B at_ es = if at_ + 4 ≤ B.length then upd (keyAt B at_) (.int .i64 at_) es else es := rfl
  by_cases h4 : at_ + 4 ≤ B.length
  · rw [decide_eq_true h4]
    rw [if_pos h4] at hn
    rw [hn] at hR hkept
    have hf := hf.dr
    have hkb := own_dr hkb
    have c2 := hf.own.cell (off := 2)
    simp only [List.getElem?_cons_zero, List.getElem?_cons_succ] at c2
    have hlen := (keyAt B at_).2
    have l1 := lda_ar4_uint8 (off := 0) hkb (by simp [hlen])
    have l2 : (((keyAt B at_).1.map b2v).drop 0).take 4 = (keyAt B at_).1.map b2v := by rw [List.drop_zero, List.take_of_length_le (by simp [hlen])]
    rw [l2] at l1
    simp (disch := omega) only [match_finder_note_p1, match_finder_note_p2, match_finder_note_p3, match_finder_note, Stp, Same, stepR_value, stepR_skip, r_add, r_sub, r_mul, r_quo, r_rem, r_and, r_or, r_xor, r_andNot, r_shl, r_shr, r_eql, r_neq, r_lss, r_leq, r_gtr, r_geq, r_neg, r_cpl, r_not, r_pick, r_min, r_max, r_nil, x20, x21, x30, x31, x32, x40, x41, x42, x43, ldC_some, Result.ok.injEq, Next.value.injEq, true_and, and_true, w_i64, w_u64, w_i32, w_u32, w_u16, w_u8, Int.toNat_natCast, isB_tt, isB_tf, isB_ft, isB_ff, Gd_true, Gd_false, Cnd_true, Cnd_false, if_true, if_false, Bool.false_eq_true, Nat.zero_add, Option.isNone_some, Option.isNone_none, Bool.not_true, Bool.not_false, List.getElem?_cons_succ, List.getElem?_cons_zero, ln_sl_uint8, ln_sl_api_Sequence, cv_uint16_int, ia_sl_uint8, cv_uint8_int, ln_string, sl_sl_uint8_hi, bd_match_finder_0_1_2_3_4, cv_int_uint32, bd_api_Sequence_0_1_2, ia_sl_api_Sequence, fa_api_Sequence_Literals, ld_uint32, cv_uint32_int, fa_api_Sequence_Match, fa_api_Sequence_Offset, ix_string, fa_match_finder_last, ld_map_ar4_uint8_int, fa_match_finder_ahead, ld_sl_int, ia_sl_int, fa_match_finder_tries, ld_int, fa_match_finder_b, ld_sl_uint8, bd_ar4_uint8_, sl_sl_uint8_lohi, sa_ar4_uint8, fa_match_finder_to, ld_uint8, c2, l1]
    refine mu_map_ar4_uint8_int hf.map (keyAt B at_) _ fun w2 m2 x2 s2 => ?_
    refine hR w2 A ⟨hf.own.ext x2 hd.1, hf.bs.ext x2 (fun h => hb (inB_mono h fun _ => .inl)), m2, hf.ah.ext x2 (fun e => hd.2.2 e.symm), hf.len, hf.le, hf.big⟩ hkept ?_
    exact (hx.seq (Ext.dr _ _)).seq (x2.mono fun b _ h => .inl h)
  · rw [decide_eq_false h4]
    rw [if_neg h4] at hn
    rw [hn] at hR hkept
    simp (disch := omega) only [match_finder_note_p1, match_finder_note_p2, match_finder_note_p3, match_finder_note, Stp, Same, stepR_value, stepR_skip, r_add, r_sub, r_mul, r_quo, r_rem, r_and, r_or, r_xor, r_andNot, r_shl, r_shr, r_eql, r_neq, r_lss, r_leq, r_gtr, r_geq, r_neg, r_cpl, r_not, r_pick, r_min, r_max, r_nil, x20, x21, x30, x31, x32, x40, x41, x42, x43, ldC_some, Result.ok.injEq, Next.value.injEq, true_and, and_true, w_i64, w_u64, w_i32, w_u32, w_u16, w_u8, Int.toNat_natCast, isB_tt, isB_tf, isB_ft, isB_ff, Gd_true, Gd_false, Cnd_true, Cnd_false, if_true, if_false, Bool.false_eq_true, Nat.zero_add, Option.isNone_some, Option.isNone_none, Bool.not_true, Bool.not_false, List.getElem?_cons_succ, List.getElem?_cons_zero, ln_sl_uint8, ln_sl_api_Sequence, cv_uint16_int, ia_sl_uint8, cv_uint8_int, ln_string, sl_sl_uint8_hi, bd_match_finder_0_1_2_3_4, cv_int_uint32, bd_api_Sequence_0_1_2, ia_sl_api_Sequence, fa_api_Sequence_Literals, ld_uint32, cv_uint32_int, fa_api_Sequence_Match, fa_api_Sequence_Offset, ix_string, fa_match_finder_last, ld_map_ar4_uint8_int, fa_match_finder_ahead, ld_sl_int, ia_sl_int, fa_match_finder_tries, ld_int, fa_match_finder_b, ld_sl_uint8, bd_ar4_uint8_, sl_sl_uint8_lohi, sa_ar4_uint8, fa_match_finder_to, ld_uint8]
    exact hR _ A hf hkept hx

theorem note_c {w : World} {p mb ab : Nat} {bv : Value} {B : List UInt8} {to tries at_ : Nat} {es : List (Vec 4 × Value)} {A : List Int} (hf : Fnd w p mb ab bv B to tries es A) (hk : Kept (at_ + 1) es A)
    (hd : p ≠ mb ∧ p ≠ ab ∧ mb ≠ ab) (hb : ¬ inB bv fun b => b = mb ∨ b = ab) (ha : at_ < to) :
    Does pg F_match_finder_note #[.pointer (some ⟨p, 0, none⟩), .int .i64 at_] w (fun _ w' => ∃ A', Fnd w' p mb ab bv B to tries (noted B at_ es) A' ∧ Kept (at_ + 1) (noted B at_ es) A' ∧ Ext w w' (fun b => b = mb ∨ b = ab)) := by
  have hle := hf.le
  have hbig := hf.big
  refine match_finder_note_does ?_
  unfold match_finder_note match_finder_note_p3 match_finder_note_p2
  refine (keyed_c hf at_ (by omega)).mono ?_
  rintro r w1 ⟨rfl, x1⟩
  have hf := hf.same x1
  have hlen := (keyAt B at_).2
  simp (disch := omega) only [Stp, Same, stepR_value, stepR_skip, r_add, r_sub, r_mul, r_quo, r_rem, r_and, r_or, r_xor, r_andNot, r_shl, r_shr, r_eql, r_neq, r_lss, r_leq, r_gtr, r_geq, r_neg, r_cpl, r_not, r_pick, r_min, r_max, r_nil, x20, x21, x30, x31, x32, x40, x41, x42, x43, ldC_some, Result.ok.injEq, Next.value.injEq, true_and, and_true, w_i64, w_u64, w_i32, w_u32, w_u16, w_u8, Int.toNat_natCast, isB_tt, isB_tf, isB_ft, isB_ff, Gd_true, Gd_false, Cnd_true, Cnd_false, if_true, if_false, Bool.false_eq_true, Nat.zero_add, Option.isNone_some, Option.isNone_none, Bool.not_true, Bool.not_false, List.getElem?_cons_succ, List.getElem?_cons_zero, ln_sl_uint8, ln_sl_api_Sequence, cv_uint16_int, ia_sl_uint8, cv_uint8_int, ln_string, sl_sl_uint8_hi, bd_match_finder_0_1_2_3_4, cv_int_uint32, bd_api_Sequence_0_1_2, ia_sl_api_Sequence, fa_api_Sequence_Literals, ld_uint32, cv_uint32_int, fa_api_Sequence_Match, fa_api_Sequence_Offset, ix_string, fa_match_finder_last, ld_map_ar4_uint8_int, fa_match_finder_ahead, ld_sl_int, ia_sl_int, fa_match_finder_tries, ld_int, fa_match_finder_b, ld_sl_uint8, bd_ar4_uint8_, sl_sl_uint8_lohi, sa_ar4_uint8, fa_match_finder_to, ld_uint8]
  refine al_ar4_uint8 fun w2 o2 x2 s2 => ?_
  have hp1 := hf.own.lt
  have hm1 := hf.map.lt
  have ha1 := hf.ah.lt
  refine sta_ar4_uint8 o2 (by simp [hlen]) (bs_one _) (by simp) fun w3 o3 x3 s3 => ?_
  have e3 : setAll [.int .u8 0, .int .u8 0, .int .u8 0, .int .u8 0] 0 ((keyAt B at_).1.map b2v) = (keyAt B at_).1.map b2v := by
    generalize (keyAt B at_).1.map b2v = l, (show ((keyAt B at_).1.map b2v).length = 4 by simp [hlen]) = hl
    match l, hl with
    | [a, b, c, d], _ => rfl
  simp only [List.toList_toArray] at o3
  rw [e3] at o3
  have x13 : Ext w1 w3 nob := (Ext.refl _ _).seq (x2.new x3 (Nat.le_refl _))
  have hf3 := (hf.same x13).dr
  have hkb := own_dr o3
  have c2 := hf3.own.cell (off := 2)
  have c3 := hf3.own.cell (off := 3)
  simp only [List.getElem?_cons_zero, List.getElem?_cons_succ] at c2 c3
  have l1 := lda_ar4_uint8 (off := 0) hkb (by simp [hlen])
  have l2 : (((keyAt B at_).1.map b2v).drop 0).take 4 = (keyAt B at_).1.map b2v := by rw [List.drop_zero, List.take_of_length_le (by simp [hlen])]
  rw [l2] at l1
  have l3 := lk_map_ar4_uint8_int hf3.map (keyAt B at_)
  unfold encV at l3
  have hx0 : Ext w (dr w3) (fun b => b = mb ∨ b = ab) := ((x1.seq x13).seq (Ext.dr _ _)).mono fun _ _ h => h.elim
  have hnew : ∀ x : Int, -1 ≤ x → x ≤ at_ → Stp pg (sStore 3 (.pointer (some ⟨ab, at_, none⟩)) (.int .i64 x)) (dr w3) fun _ w' =>
      match_finder_note_p1 (fun w' => ∃ A', Fnd w' p mb ab bv B to tries (noted B at_ es) A' ∧ Kept (at_ + 1) (noted B at_ es) A' ∧ Ext w w' (fun b => b = mb ∨ b = ab)) (.pointer (some ⟨p, 0, none⟩)) (.int .i64 at_) (.pointer (some ⟨w1.heap.size, 0, none⟩)) (.bool (decide (at_ + 4 ≤ B.length))) w' := by
    intro x h0 h1
    refine st_int hf3.ah rfl (by simp [hf3.len]; omega) fun w4 o4 x4 s4 => ?_
    rw [← List.map_set] at o4
    have hab : ¬ w1.heap.size = ab := by omega
    refine note_tail (w := w) ⟨hf3.own.ext x4 hd.2.1, hf3.bs.ext x4 (fun h => hb (inB_mono h fun _ => .inr)), hf3.map.ext x4 hd.2.2, o4, by simp [hf3.len], hf3.le, hf3.big⟩ (hk.set h0 h1) hd hb (hkb.ext x4 hab) (hx0.seq (x4.mono fun b _ h => .inr h)) fun w' A' a b c => ⟨A', a, b, c⟩
  by_cases h4 : at_ + 4 ≤ B.length
  · rw [decide_eq_true h4] at hnew ⊢
    cases ha : En.assoc (keyAt B at_) es with
    | none =>
      rw [ha] at l3
      simp only [Option.getD_none, Option.isSome_none] at l3
      simp (disch := omega) only [Stp, Same, stepR_value, stepR_skip, r_add, r_sub, r_mul, r_quo, r_rem, r_and, r_or, r_xor, r_andNot, r_shl, r_shr, r_eql, r_neq, r_lss, r_leq, r_gtr, r_geq, r_neg, r_cpl, r_not, r_pick, r_min, r_max, r_nil, x20, x21, x30, x31, x32, x40, x41, x42, x43, ldC_some, Result.ok.injEq, Next.value.injEq, true_and, and_true, w_i64, w_u64, w_i32, w_u32, w_u16, w_u8, Int.toNat_natCast, isB_tt, isB_tf, isB_ft, isB_ff, Gd_true, Gd_false, Cnd_true, Cnd_false, if_true, if_false, Bool.false_eq_true, Nat.zero_add, Option.isNone_some, Option.isNone_none, Bool.not_true, Bool.not_false, List.getElem?_cons_succ, List.getElem?_cons_zero, ln_sl_uint8, ln_sl_api_Sequence, cv_uint16_int, ia_sl_uint8, cv_uint8_int, ln_string, sl_sl_uint8_hi, bd_match_finder_0_1_2_3_4, cv_int_uint32, bd_api_Sequence_0_1_2, ia_sl_api_Sequence, fa_api_Sequence_Literals, ld_uint32, cv_uint32_int, fa_api_Sequence_Match, fa_api_Sequence_Offset, ix_string, fa_match_finder_last, ld_map_ar4_uint8_int, fa_match_finder_ahead, ld_sl_int, ia_sl_int, fa_match_finder_tries, ld_int, fa_match_finder_b, ld_sl_uint8, bd_ar4_uint8_, sl_sl_uint8_lohi, sa_ar4_uint8, fa_match_finder_to, ld_uint8, c2, c3, l1, l3]
      exact hnew _ (by omega) (by omega)
    | some v =>
      obtain ⟨x, rfl, hx⟩ := hk.assoc ha
      rw [ha] at l3
      simp only [Option.getD_some, Option.isSome_some] at l3
      by_cases hxa : x < at_
      · have d : decide ((x : Int) < (at_ : Int)) = true := by simp; omega
        simp (disch := omega) only [Stp, Same, stepR_value, stepR_skip, r_add, r_sub, r_mul, r_quo, r_rem, r_and, r_or, r_xor, r_andNot, r_shl, r_shr, r_eql, r_neq, r_lss, r_leq, r_gtr, r_geq, r_neg, r_cpl, r_not, r_pick, r_min, r_max, r_nil, x20, x21, x30, x31, x32, x40, x41, x42, x43, ldC_some, Result.ok.injEq, Next.value.injEq, true_and, and_true, w_i64, w_u64, w_i32, w_u32, w_u16, w_u8, Int.toNat_natCast, isB_tt, isB_tf, isB_ft, isB_ff, Gd_true, Gd_false, Cnd_true, Cnd_false, if_true, if_false, Bool.false_eq_true, Nat.zero_add, Option.isNone_some, Option.isNone_none, Bool.not_true, Bool.not_false, List.getElem?_cons_succ, List.getElem?_cons_zero, ln_sl_uint8, ln_sl_api_Sequence, cv_uint16_int, ia_sl_uint8, cv_uint8_int, ln_string, sl_sl_uint8_hi, bd_match_finder_0_1_2_3_4, cv_int_uint32, bd_api_Sequence_0_1_2, ia_sl_api_Sequence, fa_api_Sequence_Literals, ld_uint32, cv_uint32_int, fa_api_Sequence_Match, fa_api_Sequence_Offset, ix_string, fa_match_finder_last, ld_map_ar4_uint8_int, fa_match_finder_ahead, ld_sl_int, ia_sl_int, fa_match_finder_tries, ld_int, fa_match_finder_b, ld_sl_uint8, bd_ar4_uint8_, sl_sl_uint8_lohi, sa_ar4_uint8, fa_match_finder_to, ld_uint8, c2, c3, l1, l3, d]
        exact hnew _ (by omega) (by omega)
      · have d : decide ((x : Int) < (at_ : Int)) = false := by simp; omega
        simp (disch := omega) only [Stp, Same, stepR_value, stepR_skip, r_add, r_sub, r_mul, r_quo, r_rem, r_and, r_or, r_xor, r_andNot, r_shl, r_shr, r_eql, r_neq, r_lss, r_leq, r_gtr, r_geq, r_neg, r_cpl, r_not, r_pick, r_min, r_max, r_nil, x20, x21, x30, x31, x32, x40, x41, x42, x43, ldC_some, Result.ok.injEq, Next.value.injEq, true_and, and_true, w_i64, w_u64, w_i32, w_u32, w_u16, w_u8, Int.toNat_natCast, isB_tt, isB_tf, isB_ft, isB_ff, Gd_true, Gd_false, Cnd_true, Cnd_false, if_true, if_false, Bool.false_eq_true, Nat.zero_add, Option.isNone_some, Option.isNone_none, Bool.not_true, Bool.not_false, List.getElem?_cons_succ, List.getElem?_cons_zero, ln_sl_uint8, ln_sl_api_Sequence, cv_uint16_int, ia_sl_uint8, cv_uint8_int, ln_string, sl_sl_uint8_hi, bd_match_finder_0_1_2_3_4, cv_int_uint32, bd_api_Sequence_0_1_2, ia_sl_api_Sequence, fa_api_Sequence_Literals, ld_uint32, cv_uint32_int, fa_api_Sequence_Match, fa_api_Sequence_Offset, ix_string, fa_match_finder_last, ld_map_ar4_uint8_int, fa_match_finder_ahead, ld_sl_int, ia_sl_int, fa_match_finder_tries, ld_int, fa_match_finder_b, ld_sl_uint8, bd_ar4_uint8_, sl_sl_uint8_lohi, sa_ar4_uint8, fa_match_finder_to, ld_uint8, c2, c3, l1, l3, d]
        have := note_tail (w := w) hf3 hk hd hb hkb hx0 (R := fun w' => ∃ A', Fnd w' p mb ab bv B to tries (noted B at_ es) A' ∧ Kept (at_ + 1) (noted B at_ es) A' ∧ Ext w w' (fun b => b = mb ∨ b = ab)) fun w' A' a b c => ⟨A', a, b, c⟩
        rwa [decide_eq_true h4] at this
  · rw [decide_eq_false h4] at hnew ⊢
    simp (disch := omega) only [Stp, Same, stepR_value, stepR_skip, r_add, r_sub, r_mul, r_quo, r_rem, r_and, r_or, r_xor, r_andNot, r_shl, r_shr, r_eql, r_neq, r_lss, r_leq, r_gtr, r_geq, r_neg, r_cpl, r_not, r_pick, r_min, r_max, r_nil, x20, x21, x30, x31, x32, x40, x41, x42, x43, ldC_some, Result.ok.injEq, Next.value.injEq, true_and, and_true, w_i64, w_u64, w_i32, w_u32, w_u16, w_u8, Int.toNat_natCast, isB_tt, isB_tf, isB_ft, isB_ff, Gd_true, Gd_false, Cnd_true, Cnd_false, if_true, if_false, Bool.false_eq_true, Nat.zero_add, Option.isNone_some, Option.isNone_none, Bool.not_true, Bool.not_false, List.getElem?_cons_succ, List.getElem?_cons_zero, ln_sl_uint8, ln_sl_api_Sequence, cv_uint16_int, ia_sl_uint8, cv_uint8_int, ln_string, sl_sl_uint8_hi, bd_match_finder_0_1_2_3_4, cv_int_uint32, bd_api_Sequence_0_1_2, ia_sl_api_Sequence, fa_api_Sequence_Literals, ld_uint32, cv_uint32_int, fa_api_Sequence_Match, fa_api_Sequence_Offset, ix_string, fa_match_finder_last, ld_map_ar4_uint8_int, fa_match_finder_ahead, ld_sl_int, ia_sl_int, fa_match_finder_tries, ld_int, fa_match_finder_b, ld_sl_uint8, bd_ar4_uint8_, sl_sl_uint8_lohi, sa_ar4_uint8, fa_match_finder_to, ld_uint8, c2, c3, l1, l3]
    exact hnew _ (by omega) (by omega)
end Go.Proofs.Ytoobkaojepgnjaa
