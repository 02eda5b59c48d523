/- The sum that grows: what it holds; contracts of New and Write. -/
import Derived.Test.YtblljiohpcbieaaXxhB
namespace Go.Proofs.Ytblljiohpcbieaa
open Go Go.En
set_option maxRecDepth 4000
set_option linter.unusedSimpArgs false

def initV : List Int := [IntKind.u64.wrap (11400714785074694791 + 14029467366897019727), 14029467366897019727, 0, IntKind.u64.wrap (0 - 11400714785074694791)]
/-- the first i numbers turned by a stripe -/
def updV (vs : List Int) (s : List UInt8) (i : Nat) : List Int := vs.mapIdx fun j v => if j < i then rndI v (numLE ((s.drop (8 * j)).take 8)) else v
def accV : Nat → List UInt8 → List Int
  | 0, _ => initV
  | k + 1, L => updV (accV k L) ((L.drop (32 * k)).take 32) 4

theorem updV_length (vs : List Int) (s : List UInt8) (i : Nat) : (updV vs s i).length = vs.length := by simp [updV]
theorem accV_length : ∀ k L, (accV k L).length = 4
  | 0, _ => rfl
  | k + 1, L => by rw [accV, updV_length, accV_length k L]
theorem updV_zero (vs : List Int) (s : List UInt8) : updV vs s 0 = vs := by
  apply List.ext_getElem
  · simp [updV]
  · intro i h1 h2; simp [updV]
theorem updV_get (vs : List Int) (s : List UInt8) (i : Nat) (h : i < vs.length) : (updV vs s i)[i]? = some vs[i] := by
  rw [List.getElem?_eq_getElem (by rw [updV_length]; exact h)]; simp [updV]
theorem updV_set (vs : List Int) (s : List UInt8) (i : Nat) (h : i < vs.length) : (updV vs s i).set i (rndI vs[i] (numLE ((s.drop (8 * i)).take 8))) = updV vs s (i + 1) := by
  apply List.ext_getElem
  · simp [updV]
  · intro j h1 h2
    rw [List.getElem_set]
    simp only [updV, List.getElem_mapIdx]
    by_cases hij : i = j
    · subst hij; simp
    · simp only [hij, if_false]
      by_cases hj : j < i
      · rw [if_pos hj, if_pos (by omega)]
      · rw [if_neg hj, if_neg (by omega)]
theorem accV_append : ∀ k (L M : List UInt8), 32 * k ≤ L.length → accV k (L ++ M) = accV k L
  | 0, _, _, _ => rfl
  | k + 1, L, M, h => by
    rw [accV, accV, accV_append k L M (by omega)]
    congr 1
    rw [List.drop_append_of_le_length (by omega), List.take_append_of_le_length (by rw [List.length_drop]; omega)]

def hashCells (vs : List Int) (kept : List UInt8) (n all : Nat) : List Value := vs.map (Value.int .u64) ++ (kept.map b2v ++ [.int .i64 (n : Int), .int .u64 (all : Int)])

theorem hashCells_length {vs : List Int} {kept : List UInt8} {n all : Nat} (h1 : vs.length = 4) (h2 : kept.length = 32) : (hashCells vs kept n all).length = 38 := by
  simp [hashCells, h1, h2]
theorem hashCells_v {vs : List Int} {kept : List UInt8} {n all : Nat} (i : Nat) (h : i < vs.length) : (hashCells vs kept n all)[i]? = some (.int .u64 vs[i]) := by
  unfold hashCells; rw [List.getElem?_append_left (by simpa using h)]; simp [h]
theorem hashCells_kept {vs : List Int} {kept : List UInt8} {n all : Nat} (h1 : vs.length = 4) (i : Nat) (h : i < kept.length) : (hashCells vs kept n all)[4 + i]? = some (b2v kept[i]) := by
  unfold hashCells
  rw [List.getElem?_append_right (by simp [h1]), List.length_map, h1, Nat.add_sub_cancel_left, List.getElem?_append_left (by simpa using h)]; simp [h]
theorem hashCells_n {vs : List Int} {kept : List UInt8} {n all : Nat} (h1 : vs.length = 4) (h2 : kept.length = 32) : (hashCells vs kept n all)[36]? = some (.int .i64 (n : Int)) := by
  unfold hashCells
  rw [List.getElem?_append_right (by simp [h1]), List.length_map, h1, List.getElem?_append_right (by simp [h2]), List.length_map, h2]; rfl
theorem hashCells_all {vs : List Int} {kept : List UInt8} {n all : Nat} (h1 : vs.length = 4) (h2 : kept.length = 32) : (hashCells vs kept n all)[37]? = some (.int .u64 (all : Int)) := by
  unfold hashCells
  rw [List.getElem?_append_right (by simp [h1]), List.length_map, h1, List.getElem?_append_right (by simp [h2]), List.length_map, h2]; rfl
theorem hashCells_set_v {vs : List Int} {kept : List UInt8} {n all : Nat} (i : Nat) (x : Int) (h : i < vs.length) : (hashCells vs kept n all).set i (.int .u64 x) = hashCells (vs.set i x) kept n all := by
  unfold hashCells; rw [List.set_append_left _ _ (by simpa using h), List.map_set]
theorem hashCells_set_n {vs : List Int} {kept : List UInt8} {n all : Nat} (h1 : vs.length = 4) (h2 : kept.length = 32) (m : Nat) : (hashCells vs kept n all).set 36 (.int .i64 (m : Int)) = hashCells vs kept m all := by
  unfold hashCells
  rw [List.set_append_right _ _ (by simp [h1]), List.length_map, h1, List.set_append_right _ _ (by simp [h2]), List.length_map, h2]; rfl
theorem hashCells_set_all {vs : List Int} {kept : List UInt8} {n all : Nat} (h1 : vs.length = 4) (h2 : kept.length = 32) (m : Nat) : (hashCells vs kept n all).set 37 (.int .u64 (m : Int)) = hashCells vs kept n m := by
  unfold hashCells
  rw [List.set_append_right _ _ (by simp [h1]), List.length_map, h1, List.set_append_right _ _ (by simp [h2]), List.length_map, h2]; rfl
/-- bytes laid over others -/
def over (l : List UInt8) (o : Nat) (x : List UInt8) : List UInt8 := l.take o ++ x ++ l.drop (o + x.length)
theorem over_length {l : List UInt8} {o : Nat} {x : List UInt8} (h : o + x.length ≤ l.length) : (over l o x).length = l.length := by
  simp [over]; omega
theorem over_cons {l : List UInt8} {o : Nat} {c : UInt8} {x : List UInt8} (h : o + (x.length + 1) ≤ l.length) : over (l.set o c) (o + 1) x = over l o (c :: x) := by
  unfold over
  rw [List.take_set, List.drop_set_of_lt (by omega)]
  have e : (l.take (o + 1)).set o c = l.take o ++ [c] := by
    rw [List.take_succ_eq_append_getElem (by omega), List.set_append_right _ _ (by simp; omega)]
    simp only [List.length_take]
    rw [show o - min o l.length = 0 from by omega]; rfl
  rw [e]
  simp only [List.append_assoc, List.singleton_append, List.length_cons, List.cons_append, List.nil_append]
  rw [show o + 1 + x.length = o + (x.length + 1) from by omega]
theorem hashCells_over {vs : List Int} {n all : Nat} (h1 : vs.length = 4) : ∀ (x kept : List UInt8) (o : Nat), o + x.length ≤ kept.length →
    setAll (hashCells vs kept n all) (4 + o) (x.map b2v) = hashCells vs (over kept o x) n all := by
  intro x
  induction x with
  | nil => intro kept o _; simp [setAll, over]
  | cons c x ih =>
    intro kept o h
    rw [List.length_cons] at h
    have e : (hashCells vs kept n all).set (4 + o) (b2v c) = hashCells vs (kept.set o c) n all := by
      unfold hashCells
      rw [List.set_append_right _ _ (by simp [h1]), List.length_map, h1, Nat.add_sub_cancel_left, List.set_append_left _ _ (by simp; omega), List.map_set]
    rw [List.map_cons, setAll, e, Nat.add_assoc, ih _ _ (by simp; omega), over_cons (by omega)]

/-- block b holds the sum of the bytes L, but for their number, that is told to be all. -/
def HashA (w : World) (b : Nat) (L : List UInt8) (all : Nat) : Prop :=
  ∃ kept, kept.length = 32 ∧ kept.take (L.length % 32) = L.drop (32 * (L.length / 32)) ∧ Own w b (hashCells (accV (L.length / 32) L) kept (L.length % 32) all)
abbrev HashAt (w : World) (b : Nat) (L : List UInt8) : Prop := HashA w b L L.length

theorem new_c (w : World) : Does pg F_xxh_New #[] w (fun v w' => v = .pointer (some ⟨w.heap.size, 0, none⟩) ∧ HashAt w' w.heap.size [] ∧ Ext w w' nob) := by
  refine xxh_New_does ?_
  simp (disch := omega) only [xxh_New, xxh_New_p1, Stp, Same, stepR_value, stepR_skip, r_add, r_sub, r_mul, r_quo, r_rem, r_and, r_or, r_xor, r_andNot, r_shl, r_shr, r_eql, r_neq, r_lss, r_leq, r_gtr, r_geq, r_neg, r_cpl, r_not, r_pick, r_min, r_max, r_nil, x20, x21, x30, x31, x32, x40, x41, x42, x43, ldC_some, Result.ok.injEq, Next.value.injEq, true_and, and_true, w_i64, w_u64, w_i32, w_u32, w_u16, w_u8, Int.toNat_natCast, isB_tt, isB_tf, isB_ft, isB_ff, Gd_true, Gd_false, Cnd_true, Cnd_false, if_true, if_false, Bool.false_eq_true, Nat.zero_add, Option.isNone_some, Option.isNone_none, Bool.not_true, Bool.not_false, List.getElem?_cons_succ, List.getElem?_cons_zero, ln_sl_sl_uint8, ia_sl_sl_uint8, ld_sl_uint8, ln_sl_uint8, cv_uint16_int, cv_int_uint8, ia_sl_uint8, ln_sl_uint16, ia_sl_uint16, ld_uint16, sl_sl_uint8_lohi, sl_sl_uint8_hi, sl_sl_uint8_lo, cv_uint8_int, bd_ar4_uint64_0_1_2_3, bd_xxh_Hash_0, peql_p_xxh_Hash, fa_xxh_Hash_all, ld_uint64, cv_int_uint64, fa_xxh_Hash_kept, fa_xxh_Hash_n, ld_int, sl_ar32_uint8_lo, fa_xxh_Hash_v, ia_ar4_uint64, sl_ar32_uint8_lohi, sl_ar32_uint8_hi, ld_uint8, cv_uint8_uint64, ln_string, ix_string, cv_int_uint, bd_ar4_int_0_1_2_3, ix_ar4_int, ix_ar4_uint64, sl_string_lo, bd_lightermanref01_R_0, fa_lightermanref01_R_E, ld_api_Errno, fa_lightermanref01_R_B, ld_string, sl_string_hi]
  refine stp_box fun w1 o1 x1 s1 => ⟨rfl, ⟨List.replicate 32 0, rfl, rfl, ?_⟩, x1⟩
  exact o1

end Go.Proofs.Ytblljiohpcbieaa
