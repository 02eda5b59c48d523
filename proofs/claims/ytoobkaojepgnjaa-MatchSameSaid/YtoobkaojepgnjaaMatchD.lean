/- Contracts: what Find gives is a plan. -/
import Derived.Test.YtoobkaojepgnjaaMatchC
namespace Go.Proofs.Ytoobkaojepgnjaa
open Go Go.En
set_option maxRecDepth 4000
set_option linter.unusedSimpArgs false

/-- literals, match, offset -/
abbrev Sq := Nat × Nat × Nat
def stepOk (B : List UInt8) (to a : Nat) (s : Sq) : Prop := a + s.1 + s.2.1 ≤ to ∧ 3 ≤ s.2.1 ∧ s.2.1 ≤ 131074 ∧ 1 ≤ s.2.2 ∧ s.2.2 ≤ a + s.1 ∧ ∀ k, k < s.2.1 → B[a + s.1 + k]? = B[a + s.1 + k - s.2.2]?
def plan (B : List UInt8) (to : Nat) : Nat → List Sq → Nat → Prop
  | a, [], b => a = b
  | a, s :: r, b => stepOk B to a s ∧ plan B to (a + s.1 + s.2.1) r b
def flat : List Sq → List Value
  | [] => []
  | s :: r => .int .u32 s.1 :: .int .u32 s.2.1 :: .int .u32 s.2.2 :: flat r

theorem flat_length : ∀ L : List Sq, (flat L).length = L.length * 3
  | [] => rfl
  | s :: r => by simp [flat, flat_length r]; omega
theorem flat_snoc (s : Sq) : ∀ L : List Sq, flat (L ++ [s]) = flat L ++ [.int .u32 s.1, .int .u32 s.2.1, .int .u32 s.2.2]
  | [] => rfl
  | x :: r => by simp [flat, flat_snoc s r]
theorem plan_snoc {B : List UInt8} {to : Nat} {s : Sq} : ∀ {L : List Sq} {a b : Nat}, plan B to a L b → stepOk B to b s → plan B to a (L ++ [s]) (b + s.1 + s.2.1)
  | [], a, b, h, hs => by obtain rfl : a = b := h; exact ⟨hs, rfl⟩
  | x :: r, a, b, h, hs => ⟨h.1, plan_snoc h.2 hs⟩
theorem plan_le {B : List UInt8} {to : Nat} : ∀ {L : List Sq} {a b : Nat}, plan B to a L b → a ≤ to → a + 3 * L.length ≤ b ∧ b ≤ to
  | [], a, b, h, hs => by obtain rfl : a = b := h; simp; omega
  | x :: r, a, b, h, hs => by
    have h1 := h.1
    unfold stepOk at h1
    have := plan_le h.2 h1.1
    simp only [List.length_cons]
    omega

/-- where a finder's parts lie -/
structure Dst (w0 : World) (p mb ab base : Nat) (bv : Value) : Prop where
  ne : p ≠ mb ∧ p ≠ ab ∧ mb ≠ ab
  lo : w0.heap.size ≤ p ∧ w0.heap.size ≤ mb ∧ w0.heap.size ≤ ab
  hi : p < base ∧ mb < base ∧ ab < base
  bo : ¬ inB bv (fun b => w0.heap.size ≤ b)

structure Fst (w0 w : World) (p mb ab base : Nat) (bv : Value) (B : List UInt8) (to tries : Nat) (es : List (Vec 4 × Value)) (A : List Int) (out : Value) (L : List Sq) (a0 begun : Nat) : Prop where
  f : Fnd w p mb ab bv B to tries es A
  o : OSl w base 3 out L.length (flat L)
  pl : plan B to a0 L begun
  x : Ext w0 w nob
  hs : base ≤ w.heap.size

section
variable {w0 w : World} {p mb ab base : Nat} {bv : Value} {B : List UInt8} {to tries : Nat} {es : List (Vec 4 × Value)} {A : List Int} {out : Value} {L : List Sq} {a0 begun : Nat}

theorem Fst.same {w' : World} (h : Fst w0 w p mb ab base bv B to tries es A out L a0 begun) (hx : Ext w w' nob) : Fst w0 w' p mb ab base bv B to tries es A out L a0 begun :=
  ⟨h.f.same hx, h.o.ext hx (fun _ _ h => h), h.pl, h.x.seq hx, Nat.le_trans h.hs hx.size⟩

theorem fnote_c (D : Dst w0 p mb ab base bv) (h : Fst w0 w p mb ab base bv B to tries es A out L a0 begun) {j : Nat} (hk : Kept (j + 1) es A) (hj : j < to) :
    Does pg F_match_finder_note #[.pointer (some ⟨p, 0, none⟩), .int .i64 j] w (fun _ w' => ∃ A', Fst w0 w' p mb ab base bv B to tries (noted B j es) A' out L a0 begun ∧ Kept (j + 1) (noted B j es) A') := by
  have d1 := D.lo
  have d2 := D.hi
  refine (note_c h.f hk D.ne (fun hh => D.bo (inB_mono hh fun b hb => by rcases hb with rfl | rfl <;> omega)) hj).mono ?_
  rintro r w' ⟨A', f, k, x⟩
  refine ⟨A', ⟨f, h.o.ext x (fun b hb hh => by omega), h.pl, h.x.trans x (fun b hb hh => by omega), Nat.le_trans h.hs x.size⟩, k⟩

/-- all places of a copy are noted -/
theorem fnotes_c (D : Dst w0 p mb ab base bv) {at_ e q : Nat} (h : Fst w0 w p mb ab base bv B to tries es A out L a0 begun) (hk : Kept q es A) (hq : q ≤ at_ + 1) (hlt : at_ < e) (he : e ≤ to) (hb : B.length ≤ 4294967295)
    {t2 lv : Value} {k : Value → Value → Value → Value → Value → World → Prop}
    (hR : ∀ w' es' A', Fst w0 w' p mb ab base bv B to tries es' A' out L a0 begun → Kept e es' A' → k t2 lv (.pointer (some ⟨p, 0, none⟩)) out (.int .i64 e) w') :
    match_Find_p4 k t2 lv (.pointer (some ⟨p, 0, none⟩)) out (.int .i64 at_) (.int .i64 e) w := by
  have hle := h.f.le
  unfold match_Find_p4
  refine LoopD.rule (fun m t w' => ∃ (j q : Nat) (es' : List (Vec 4 × Value)) (A' : List Int), m = e - j ∧ t = .int .i64 j ∧ at_ ≤ j ∧ j ≤ e ∧ Fst w0 w' p mb ab base bv B to tries es' A' out L a0 begun ∧ Kept q es' A' ∧ q ≤ j + 1 ∧ (at_ < j → q ≤ j)) (e - at_)
    ⟨at_, q, es, A, rfl, rfl, Nat.le_refl _, by omega, h, hk, hq, fun h => by omega⟩ ?_
  rintro m t w1 ⟨j, q, es1, A1, rfl, rfl, h1, h2, h3, h4, h5, h6⟩
  by_cases hj : j < e
  · have d1 : decide ((j : Int) < (e : Int)) = true := by simp; omega
    simp (disch := omega) only [match_Find_p3, Stp, Same, stepR_value, stepR_skip, r_add, r_sub, r_mul, r_quo, r_rem, r_and, r_or, r_xor, r_andNot, r_shl, r_shr, r_eql, r_neq, r_lss, r_leq, r_gtr, r_geq, r_neg, r_cpl, r_not, r_pick, r_min, r_max, r_nil, x20, x21, x30, x31, x32, x40, x41, x42, x43, ldC_some, Result.ok.injEq, Next.value.injEq, true_and, and_true, w_i64, w_u64, w_i32, w_u32, w_u16, w_u8, Int.toNat_natCast, isB_tt, isB_tf, isB_ft, isB_ff, Gd_true, Gd_false, Cnd_true, Cnd_false, if_true, if_false, Bool.false_eq_true, Nat.zero_add, Option.isNone_some, Option.isNone_none, Bool.not_true, Bool.not_false, List.getElem?_cons_succ, List.getElem?_cons_zero, ln_sl_uint8, ln_sl_api_Sequence, cv_uint16_int, ia_sl_uint8, cv_uint8_int, ln_string, sl_sl_uint8_hi, bd_match_finder_0_1_2_3_4, cv_int_uint32, bd_api_Sequence_0_1_2, ia_sl_api_Sequence, fa_api_Sequence_Literals, ld_uint32, cv_uint32_int, fa_api_Sequence_Match, fa_api_Sequence_Offset, ix_string, fa_match_finder_last, ld_map_ar4_uint8_int, fa_match_finder_ahead, ld_sl_int, ia_sl_int, fa_match_finder_tries, ld_int, fa_match_finder_b, ld_sl_uint8, bd_ar4_uint8_, sl_sl_uint8_lohi, sa_ar4_uint8, fa_match_finder_to, ld_uint8, d1]
    refine (fnote_c D h3 (h4.mono h5) (by omega)).mono ?_
    rintro r w2 ⟨A2, f2, k2⟩
    exact ⟨e - (j + 1), by omega, j + 1, j + 1, _, A2, rfl, rfl, by omega, by omega, f2, k2, by omega, fun _ => Nat.le_refl _⟩
  · have d1 : decide ((j : Int) < (e : Int)) = false := by simp; omega
    have : j = e := by omega
    subst this
    simp (disch := omega) only [match_Find_p3, Stp, Same, stepR_value, stepR_skip, r_add, r_sub, r_mul, r_quo, r_rem, r_and, r_or, r_xor, r_andNot, r_shl, r_shr, r_eql, r_neq, r_lss, r_leq, r_gtr, r_geq, r_neg, r_cpl, r_not, r_pick, r_min, r_max, r_nil, x20, x21, x30, x31, x32, x40, x41, x42, x43, ldC_some, Result.ok.injEq, Next.value.injEq, true_and, and_true, w_i64, w_u64, w_i32, w_u32, w_u16, w_u8, Int.toNat_natCast, isB_tt, isB_tf, isB_ft, isB_ff, Gd_true, Gd_false, Cnd_true, Cnd_false, if_true, if_false, Bool.false_eq_true, Nat.zero_add, Option.isNone_some, Option.isNone_none, Bool.not_true, Bool.not_false, List.getElem?_cons_succ, List.getElem?_cons_zero, ln_sl_uint8, ln_sl_api_Sequence, cv_uint16_int, ia_sl_uint8, cv_uint8_int, ln_string, sl_sl_uint8_hi, bd_match_finder_0_1_2_3_4, cv_int_uint32, bd_api_Sequence_0_1_2, ia_sl_api_Sequence, fa_api_Sequence_Literals, ld_uint32, cv_uint32_int, fa_api_Sequence_Match, fa_api_Sequence_Offset, ix_string, fa_match_finder_last, ld_map_ar4_uint8_int, fa_match_finder_ahead, ld_sl_int, ia_sl_int, fa_match_finder_tries, ld_int, fa_match_finder_b, ld_sl_uint8, bd_ar4_uint8_, sl_sl_uint8_lohi, sa_ar4_uint8, fa_match_finder_to, ld_uint8, d1]
    exact hR _ _ _ h3 (h4.mono (h6 hlt))

/-- a copy is taken -/
theorem take_c (D : Dst w0 p mb ab base bv) {at_ n off q : Nat} (h : Fst w0 w p mb ab base bv B to tries es A out L a0 begun) (h0 : a0 ≤ to) (hk : Kept q es A) (hq : q ≤ at_ + 1) (hbe : begun ≤ at_) (hbst : Bst B to at_ n off) (hn : 4 ≤ n) (hb : B.length ≤ 4294967295)
    {t2 lv : Value} {k : Value → Value → Value → Value → Value → Value → World → Prop}
    (hR : ∀ w' es' A' out' s, Fst w0 w' p mb ab base bv B to tries es' A' out' (L ++ [s]) a0 (at_ + n) → at_ + n ≤ to → Kept (at_ + n) es' A' → k t2 lv (.pointer (some ⟨p, 0, none⟩)) out' (.int .i64 ((at_ + n : Nat) : Int)) (.int .i64 ((at_ + n : Nat) : Int)) w') :
    match_Find_p10 k t2 lv (.pointer (some ⟨p, 0, none⟩)) out (.int .i64 begun) (.int .i64 at_) (.int .i64 n) (.int .i64 off) w := by
  have hle := h.f.le
  rcases hbst.one with ⟨rfl, rfl⟩ | ⟨hn0, ho1, ho2, hl⟩
  · omega
  have hend : at_ + n ≤ to := by rcases hl.le with h | h <;> omega
  have hm := hl.most
  have hpl := plan_le h.pl h0
  unfold match_Find_p10 match_Find_p9
  have e1 : (at_ : Int) - (begun : Int) = ((at_ - begun : Nat) : Int) := by omega
  simp (disch := omega) only [Stp, Same, stepR_value, stepR_skip, r_add, r_sub, r_mul, r_quo, r_rem, r_and, r_or, r_xor, r_andNot, r_shl, r_shr, r_eql, r_neq, r_lss, r_leq, r_gtr, r_geq, r_neg, r_cpl, r_not, r_pick, r_min, r_max, r_nil, x20, x21, x30, x31, x32, x40, x41, x42, x43, ldC_some, Result.ok.injEq, Next.value.injEq, true_and, and_true, w_i64, w_u64, w_i32, w_u32, w_u16, w_u8, Int.toNat_natCast, isB_tt, isB_tf, isB_ft, isB_ff, Gd_true, Gd_false, Cnd_true, Cnd_false, if_true, if_false, Bool.false_eq_true, Nat.zero_add, Option.isNone_some, Option.isNone_none, Bool.not_true, Bool.not_false, List.getElem?_cons_succ, List.getElem?_cons_zero, ln_sl_uint8, ln_sl_api_Sequence, cv_uint16_int, ia_sl_uint8, cv_uint8_int, ln_string, sl_sl_uint8_hi, bd_match_finder_0_1_2_3_4, cv_int_uint32, bd_api_Sequence_0_1_2, ia_sl_api_Sequence, fa_api_Sequence_Literals, ld_uint32, cv_uint32_int, fa_api_Sequence_Match, fa_api_Sequence_Offset, ix_string, fa_match_finder_last, ld_map_ar4_uint8_int, fa_match_finder_ahead, ld_sl_int, ia_sl_int, fa_match_finder_tries, ld_int, fa_match_finder_b, ld_sl_uint8, bd_ar4_uint8_, sl_sl_uint8_lohi, sa_ar4_uint8, fa_match_finder_to, ld_uint8, e1]
  refine bs_sl_api_Sequence (cells := #[.int .u32 ((at_ - begun : Nat) : Int), .int .u32 n, .int .u32 off]) (by decide) (by decide) (by kernel_rfl) fun w2 o2 x2 s2 => ?_
  refine ap_sl_api_Sequence_sl_api_Sequence (h.o.ext x2 (fun _ _ h => h)) (o2.cl (off := 0) (l := [.int .u32 ((at_ - begun : Nat) : Int), .int .u32 n, .int .u32 off]) rfl (fun i hi => by rw [Nat.zero_add])) (by simp [one]) (Nat.le_trans h.hs x2.size) (by omega) fun v3 w3 o3 x3 => ?_
  unfold match_Find_p8 match_Find_p7 match_Find_p6 match_Find_p5
  have e2 : (at_ : Int) + (n : Int) = ((at_ + n : Nat) : Int) := by omega
  simp (disch := omega) only [Stp, Same, stepR_value, stepR_skip, r_add, r_sub, r_mul, r_quo, r_rem, r_and, r_or, r_xor, r_andNot, r_shl, r_shr, r_eql, r_neq, r_lss, r_leq, r_gtr, r_geq, r_neg, r_cpl, r_not, r_pick, r_min, r_max, r_nil, x20, x21, x30, x31, x32, x40, x41, x42, x43, ldC_some, Result.ok.injEq, Next.value.injEq, true_and, and_true, w_i64, w_u64, w_i32, w_u32, w_u16, w_u8, Int.toNat_natCast, isB_tt, isB_tf, isB_ft, isB_ff, Gd_true, Gd_false, Cnd_true, Cnd_false, if_true, if_false, Bool.false_eq_true, Nat.zero_add, Option.isNone_some, Option.isNone_none, Bool.not_true, Bool.not_false, List.getElem?_cons_succ, List.getElem?_cons_zero, ln_sl_uint8, ln_sl_api_Sequence, cv_uint16_int, ia_sl_uint8, cv_uint8_int, ln_string, sl_sl_uint8_hi, bd_match_finder_0_1_2_3_4, cv_int_uint32, bd_api_Sequence_0_1_2, ia_sl_api_Sequence, fa_api_Sequence_Literals, ld_uint32, cv_uint32_int, fa_api_Sequence_Match, fa_api_Sequence_Offset, ix_string, fa_match_finder_last, ld_map_ar4_uint8_int, fa_match_finder_ahead, ld_sl_int, ia_sl_int, fa_match_finder_tries, ld_int, fa_match_finder_b, ld_sl_uint8, bd_ar4_uint8_, sl_sl_uint8_lohi, sa_ar4_uint8, fa_match_finder_to, ld_uint8, e2]
  have hi := D.hi
  have hlo := D.lo
  have bo : ¬ inB bv (fun b => base ≤ b) := fun hh => D.bo (inB_mono hh fun b hb => by omega)
  have f3 : Fnd w3 p mb ab bv B to tries es A := (h.f.same x2).ext x3 (by omega) (by omega) (by omega) bo
  have hs : plan B to a0 (L ++ [(at_ - begun, n, off)]) (at_ + n) := by
    have := plan_snoc (s := (at_ - begun, n, off)) h.pl ⟨by simp only; omega, by simp only; omega, hm, ho1, by simp only; omega, fun k hk => by
      simp only at hk ⊢
      rw [show begun + (at_ - begun) + k = at_ + k from by omega, show at_ + k - off = at_ - off + k from by omega]
      exact (hl.same k hk).symm⟩
    simp only at this
    rwa [show begun + (at_ - begun) + n = at_ + n from by omega] at this
  have F3 : Fst w0 w3 p mb ab base bv B to tries es A v3 (L ++ [(at_ - begun, n, off)]) a0 (at_ + n) :=
    ⟨f3, by rw [flat_snoc, List.length_append]; exact o3, hs, (h.x.seq x2).trans x3 (fun b hb hh => by omega), Nat.le_trans (Nat.le_trans h.hs x2.size) x3.size⟩
  refine fnotes_c D F3 hk hq (by omega) hend hb fun w' es' A' f k => ?_
  unfold match_Find_p2
  exact hR _ _ _ _ _ f hend k
end
end Go.Proofs.Ytoobkaojepgnjaa
