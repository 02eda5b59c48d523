/- Plain laws: bits of bytes, and the numbers that they are. -/
import Derived.Test.YtcbkdccobhkbpaaEnStr
import Derived.Test.YtcbkdccobhkbpaaPuF
namespace Go.Pu
open Go Go.En
set_option linter.unusedVariables false

/-- bits of bytes, the lowest of each first -/
def bits8 (c : UInt8) : List Bool := (List.range 8).map c.toNat.testBit
def bitsB : List UInt8 → List Bool
  | [] => []
  | c :: l => bits8 c ++ bitsB l
def numB : List Bool → Nat
  | [] => 0
  | b :: l => b.toNat + 2 * numB l

theorem bits8_length (c : UInt8) : (bits8 c).length = 8 := by simp [bits8]
theorem bitsB_length : ∀ l : List UInt8, (bitsB l).length = 8 * l.length
  | [] => rfl
  | c :: l => by rw [bitsB, List.length_append, bits8_length, bitsB_length l, List.length_cons]; omega
theorem bitsB_append : ∀ a b : List UInt8, bitsB (a ++ b) = bitsB a ++ bitsB b
  | [], b => rfl
  | c :: a, b => by rw [List.cons_append, bitsB, bitsB, bitsB_append a b, List.append_assoc]
theorem bits8_get (c : UInt8) {k : Nat} (h : k < 8) : (bits8 c)[k]? = some (c.toNat.testBit k) := by
  unfold bits8
  rw [List.getElem?_map, List.getElem?_range h]; rfl
theorem bitsB_get : ∀ (l : List UInt8) (i : Nat) (h : i < 8 * l.length), (bitsB l)[i]? = some ((l[i / 8]'(by omega)).toNat.testBit (i % 8))
  | [], i, h => by simp at h
  | c :: l, i, h => by
    rw [bitsB]
    rcases Nat.lt_or_ge i 8 with h8 | h8
    · rw [List.getElem?_append_left (by rw [bits8_length]; exact h8), bits8_get c h8]
      have e : i / 8 = 0 := by omega
      have e2 : i % 8 = i := by omega
      simp [e, e2]
    · rw [List.getElem?_append_right (by rw [bits8_length]; exact h8), bits8_length, bitsB_get l (i - 8) (by simp at h; omega)]
      have e : i / 8 = (i - 8) / 8 + 1 := by omega
      have e2 : (i - 8) % 8 = i % 8 := by omega
      simp [e, e2]

theorem numB_lt : ∀ l : List Bool, numB l < 2 ^ l.length
  | [] => by simp [numB]
  | b :: l => by
    have := numB_lt l
    rw [numB, List.length_cons, Nat.pow_succ]
    have : b.toNat ≤ 1 := Bool.toNat_le b
    omega
theorem numB_append : ∀ a b : List Bool, numB (a ++ b) = numB a + 2 ^ a.length * numB b
  | [], b => by simp [numB]
  | x :: a, b => by
    rw [List.cons_append, numB, numB, numB_append a b, List.length_cons, Nat.pow_succ, Nat.mul_add, ← Nat.mul_assoc, ← Nat.add_assoc, Nat.mul_comm 2 (2 ^ a.length)]
theorem numB_snoc (a : List Bool) (x : Bool) : numB (a ++ [x]) = numB a + 2 ^ a.length * x.toNat := by
  rw [numB_append]; simp [numB]

/-- the bits of a number -/
def bitsN (x : Nat) (n : Nat) : List Bool := (List.range n).map x.testBit
theorem bitsN_length (x n : Nat) : (bitsN x n).length = n := by simp [bitsN]
theorem bitsN_zero (x : Nat) : bitsN x 0 = [] := rfl
theorem bitsN_succ (x n : Nat) : bitsN x (n + 1) = bitsN x n ++ [x.testBit n] := by
  unfold bitsN; rw [List.range_succ, List.map_append]; rfl
theorem bitsN_cons (x n : Nat) : bitsN x (n + 1) = x.testBit 0 :: bitsN (x / 2) n := by
  unfold bitsN
  rw [List.range_succ_eq_map, List.map_cons, List.map_map]
  congr 1
  apply List.map_congr_left
  intro k _
  simp [Nat.testBit_succ]
theorem numB_bitsN : ∀ (n x : Nat), numB (bitsN x n) = x % 2 ^ n
  | 0, x => by simp [bitsN, numB, Nat.mod_one]
  | n + 1, x => by
    rw [bitsN_cons, numB, numB_bitsN n (x / 2), Nat.pow_succ, Nat.mul_comm (2 ^ n) 2, Nat.mod_mul]
    congr 1
    rw [Nat.testBit_zero]
    have : x % 2 = 0 ∨ x % 2 = 1 := by omega
    rcases this with h | h <;> simp [h]

theorem or_low {x i : Nat} (h : x < 2 ^ i) (b : Nat) : x ||| (b * 2 ^ i) = x + 2 ^ i * b := by
  rw [Nat.or_comm, Nat.mul_comm b, ← Nat.two_pow_add_eq_or_of_lt h b, Nat.add_comm]

theorem orI_nat {a b : Nat} (ha : a < 2 ^ 64) (hb : b < 2 ^ 64) : orI .u64 (a : Int) (b : Int) = ((a ||| b : Nat) : Int) := by
  have h := Nat.or_lt_two_pow ha hb
  unfold orI
  have e : IntKind.u64.bits = 64 := rfl
  rw [e, BitVec.ofInt_natCast, BitVec.ofInt_natCast, BitVec.toNat_or, BitVec.toNat_ofNat, BitVec.toNat_ofNat, Nat.mod_eq_of_lt ha, Nat.mod_eq_of_lt hb]
  exact w_u64 (by omega) (by have : ((a ||| b : Nat) : Int) < ((2 ^ 64 : Nat) : Int) := by exact_mod_cast h
                             omega)
theorem orI_nat8 {a b : Nat} (ha : a < 2 ^ 8) (hb : b < 2 ^ 8) : orI .u8 (a : Int) (b : Int) = ((a ||| b : Nat) : Int) := by
  have h := Nat.or_lt_two_pow ha hb
  unfold orI
  have e : IntKind.u8.bits = 8 := rfl
  rw [e, BitVec.ofInt_natCast, BitVec.ofInt_natCast, BitVec.toNat_or, BitVec.toNat_ofNat, BitVec.toNat_ofNat, Nat.mod_eq_of_lt ha, Nat.mod_eq_of_lt hb]
  exact w_u8 (by omega) (by have : ((a ||| b : Nat) : Int) < ((2 ^ 8 : Nat) : Int) := by exact_mod_cast h
                            omega)
theorem and1_u8 {a : Nat} (h : a < 2 ^ 8) : andI .u8 (a : Int) 1 = ((a % 2 : Nat) : Int) := by
  have : ∀ k : Fin 256, andI .u8 (k.val : Int) 1 = ((k.val % 2 : Nat) : Int) := by decide +kernel
  exact this ⟨a, h⟩
theorem and1_u64 {a : Nat} (h : a < 2 ^ 64) : andI .u64 (a : Int) 1 = ((a % 2 : Nat) : Int) := by
  unfold andI
  have e : IntKind.u64.bits = 64 := rfl
  rw [e, BitVec.ofInt_natCast, show (BitVec.ofInt 64 1) = BitVec.ofNat 64 1 from rfl, BitVec.toNat_and, BitVec.toNat_ofNat, BitVec.toNat_ofNat, Nat.mod_eq_of_lt h, show 1 % 2 ^ 64 = 1 from rfl, Nat.and_one_is_mod]
  exact w_u64 (by omega) (by omega)
theorem toNat_bit (x k : Nat) : (x.testBit k).toNat = x / 2 ^ k % 2 := by
  rw [Nat.testBit_eq_decide_div_mod_eq]
  have : x / 2 ^ k % 2 = 0 ∨ x / 2 ^ k % 2 = 1 := by omega
  rcases this with h | h <;> simp [h]

/-- the last bits of a row, as one number; those that lack are noughts -/
def lastN (L : List Bool) (n : Nat) : Nat := numB (L.drop (L.length - min n L.length)) * 2 ^ (n - min n L.length)
theorem lastN_lt (L : List Bool) (n : Nat) : lastN L n < 2 ^ n := by
  unfold lastN
  have h := numB_lt (L.drop (L.length - min n L.length))
  rw [List.length_drop, show L.length - (L.length - min n L.length) = min n L.length from by omega] at h
  calc _ < 2 ^ min n L.length * 2 ^ (n - min n L.length) := Nat.mul_lt_mul_of_pos_right h (Nat.two_pow_pos _)
    _ = 2 ^ n := by rw [← Nat.pow_add]; congr 1; omega

theorem take_succ_get {L : List Bool} {at' i : Nat} {b : Bool} (h : L[at' + i]? = some b) : (L.drop at').take (i + 1) = (L.drop at').take i ++ [b] := by
  rw [List.take_add_one, List.getElem?_drop, h]; rfl

/-- where the bits end that are read from the back -/
def endB (l : List UInt8) : Option Nat := match l.getLast? with
  | none => none
  | some c => if c.toNat = 0 then none else some (8 * (l.length - 1) + bl c.toNat - 1)
theorem endB_nil : endB [] = none := rfl
theorem endB_last {l : List UInt8} (h : 0 < l.length) : endB l = if (l[l.length - 1]'(by omega)).toNat = 0 then none else some (8 * (l.length - 1) + bl (l[l.length - 1]'(by omega)).toNat - 1) := by
  unfold endB
  rw [List.getLast?_eq_getElem?, List.getElem?_eq_getElem (by omega)]
theorem endB_some {l : List UInt8} {k : Nat} (h : endB l = some k) : 0 < l.length ∧ k < 8 * l.length ∧ 8 * (l.length - 1) ≤ k ∧ (bitsB l)[k]? = some true ∧ ∀ j, k < j → j < 8 * l.length → (bitsB l)[j]? = some false := by
  have h0 : 0 < l.length := by
    cases l with
    | nil => simp [endB] at h
    | cons x l => simp
  rw [endB_last h0] at h
  generalize hc : l[l.length - 1]'(by omega) = c at h
  split at h
  · cases h
  · rename_i hne
    have hk := Option.some.inj h
    have h1 := bl_pos hne
    have h2 : bl c.toNat ≤ 8 := bl_le_of (by have : c.toNat < 256 := UInt8.toNat_lt c
                                             omega)
    have h3 := bl_le hne
    have h4 := bl_lt c.toNat
    refine ⟨h0, by omega, by omega, ?_, ?_⟩
    · rw [bitsB_get l k (by omega)]
      have e : k / 8 = l.length - 1 := by omega
      have e2 : k % 8 = bl c.toNat - 1 := by omega
      simp only [e, hc, e2]
      rw [Nat.testBit_eq_decide_div_mod_eq]
      obtain ⟨m, hm⟩ : ∃ m, bl c.toNat = m + 1 := ⟨bl c.toNat - 1, by omega⟩
      rw [hm, Nat.add_sub_cancel] at h3 ⊢
      rw [hm, Nat.pow_succ] at h4
      have : c.toNat / 2 ^ m = 1 := by
        have hp := Nat.two_pow_pos m
        have := (Nat.le_div_iff_mul_le hp).2 (show 1 * 2 ^ m ≤ c.toNat by omega)
        have := (Nat.div_lt_iff_lt_mul hp).2 (show c.toNat < 2 * 2 ^ m by omega)
        omega
      simp [this]
    · intro j h5 h6
      rw [bitsB_get l j h6]
      have e : j / 8 = l.length - 1 := by omega
      simp only [e, hc]
      rw [Nat.testBit_lt_two_pow]
      exact Nat.lt_of_lt_of_le h4 (Nat.pow_le_pow_right (by omega) (by omega))
end Go.Pu
/- Plain laws: bits written. -/
namespace Go.Pu
open Go Go.En
set_option linter.unusedVariables false

/-- bytes that hold a row of bits, filled up with noughts -/
structure Held (B : List Bool) (l : List UInt8) : Prop where
  len : l.length = (B.length + 7) / 8
  bits : bitsB l = B ++ List.replicate (8 * l.length - B.length) false

theorem held_nil : Held [] [] := ⟨rfl, rfl⟩
theorem bits8_zero : bits8 0 = List.replicate 8 false := by decide

/-- room for one more bit -/
theorem held_room {B : List Bool} {l : List UInt8} (h : Held B l) (h8 : B.length % 8 = 0) : bitsB (l ++ [0]) = B ++ List.replicate (8 * (l.length + 1) - B.length) false ∧ (l ++ [(0 : UInt8)]).length = (B.length + 1 + 7) / 8 := by
  have hl := h.len
  refine ⟨?_, by rw [List.length_append, List.length_singleton]; omega⟩
  rw [bitsB_append, h.bits, bitsB, bitsB, bits8_zero, List.append_nil, List.append_assoc]
  congr 1
  rw [show 8 * l.length - B.length = 0 from by omega, show 8 * (l.length + 1) - B.length = 8 from by omega]
  rfl

theorem bits8_or (c : UInt8) (r : Nat) (hr : r < 8) (y : Bool) (h : c.toNat.testBit r = false) : bits8 (UInt8.ofNat (c.toNat + 2 ^ r * y.toNat)) = (bits8 c).set r y ∧ c.toNat + 2 ^ r * y.toNat < 256 ∧ c.toNat ||| (y.toNat * 2 ^ r) = c.toNat + 2 ^ r * y.toNat := by
  have key : ∀ (c : Fin 256) (r : Fin 8) (y : Bool), c.val.testBit r.val = false → bits8 (UInt8.ofNat (c.val + 2 ^ r.val * y.toNat)) = (bits8 (UInt8.ofNat c.val)).set r.val y ∧ c.val + 2 ^ r.val * y.toNat < 256 ∧ c.val ||| (y.toNat * 2 ^ r.val) = c.val + 2 ^ r.val * y.toNat := by decide +kernel
  have := key ⟨c.toNat, UInt8.toNat_lt c⟩ ⟨r, hr⟩ y h
  simpa using this

theorem bitsB_set : ∀ (l : List UInt8) (i r : Nat) (c : UInt8) (y : Bool) (hi : i < l.length), r < 8 → bits8 c = (bits8 l[i]).set r y → bitsB (l.set i c) = (bitsB l).set (8 * i + r) y
  | [], i, r, c, y, hi, hr, h => by simp at hi
  | x :: l, 0, r, c, y, hi, hr, h => by
    rw [List.set_cons_zero, bitsB, bitsB, h, List.set_append_left _ _ (by rw [bits8_length]; omega)]
    simp
  | x :: l, i + 1, r, c, y, hi, hr, h => by
    rw [List.set_cons_succ, bitsB, bitsB, List.set_append_right _ _ (by rw [bits8_length]; omega), bits8_length, bitsB_set l i r c y (by simpa using hi) hr (by simpa using h)]
    congr 2
    omega

/-- one more bit -/
theorem held_set {B : List Bool} {l : List UInt8} {y : Bool} (hb : bitsB l = B ++ List.replicate (8 * l.length - B.length) false) (hl : l.length = (B.length + 1 + 7) / 8) :
    ∃ hi : B.length / 8 < l.length, Held (B ++ [y]) (l.set (B.length / 8) (UInt8.ofNat ((l[B.length / 8]'hi).toNat + 2 ^ (B.length % 8) * y.toNat))) ∧
      (l[B.length / 8]'hi).toNat + 2 ^ (B.length % 8) * y.toNat < 256 ∧ (l[B.length / 8]'hi).toNat ||| (y.toNat * 2 ^ (B.length % 8)) = (l[B.length / 8]'hi).toNat + 2 ^ (B.length % 8) * y.toNat := by
  have hi : B.length / 8 < l.length := by omega
  have hbit := bitsB_get l B.length (by omega)
  rw [hb, List.getElem?_append_right (Nat.le_refl _), Nat.sub_self, List.getElem?_replicate, if_pos (by omega)] at hbit
  have hbit := (Option.some.inj hbit).symm
  obtain ⟨h1, h2, h3⟩ := bits8_or _ (B.length % 8) (by omega) y hbit
  refine ⟨hi, ⟨?_, ?_⟩, h2, h3⟩
  · rw [List.length_set, List.length_append, List.length_singleton]; exact hl
  · rw [bitsB_set l _ (B.length % 8) _ y hi (by omega) h1, hb, show 8 * (B.length / 8) + B.length % 8 = B.length from by omega, List.set_append_right _ _ (Nat.le_refl _), Nat.sub_self, List.length_set, List.length_append, List.length_singleton, List.append_assoc]
    congr 1
    rw [show 8 * l.length - B.length = (8 * l.length - (B.length + 1)) + 1 from by omega, List.replicate_succ, List.set_cons_zero]
    rfl

/-- closed by a bit that is set, they end there -/
theorem held_end {B : List Bool} {l : List UInt8} (h : Held (B ++ [true]) l) : endB l = some B.length ∧ (bitsB l).take B.length = B := by
  have hl := h.len
  have hb := h.bits
  rw [List.length_append, List.length_singleton] at hl hb
  have h0 : 0 < l.length := by omega
  have htop : (bitsB l)[B.length]? = some true := by
    rw [hb, List.append_assoc, List.getElem?_append_right (Nat.le_refl _), Nat.sub_self]; rfl
  have hoff : ∀ j, B.length < j → j < 8 * l.length → (bitsB l)[j]? = some false := by
    intro j h1 h2
    rw [hb, List.append_assoc, List.getElem?_append_right (by omega), List.singleton_append, List.getElem?_cons, if_neg (by omega), List.getElem?_replicate, if_pos (by omega)]
  refine ⟨?_, by rw [hb, List.append_assoc, List.take_left']; rfl⟩
  cases he : endB l with
  | none =>
    rw [endB_last h0] at he
    split at he
    · rename_i hz
      rw [bitsB_get l _ (by omega)] at htop
      have e : B.length / 8 = l.length - 1 := by omega
      simp only [e, hz] at htop
      simp at htop
    · cases he
  | some k =>
    obtain ⟨_, h1, _, h2, h3⟩ := endB_some he
    rcases Nat.lt_trichotomy k B.length with h | h | h
    · rw [h3 _ h (by omega)] at htop; simp at htop
    · rw [h]
    · rw [hoff _ h h1] at h2; simp at h2

theorem numB_inj {x n : Nat} (h : x < 2 ^ n) : numB (bitsN x n) = x := by rw [numB_bitsN, Nat.mod_eq_of_lt h]
theorem lastN_bits {B : List Bool} {x n : Nat} (h : x < 2 ^ n) : lastN (B ++ bitsN x n) n = x := by
  unfold lastN
  rw [List.length_append, bitsN_length, show min n (B.length + n) = n from by omega, Nat.sub_self, Nat.add_sub_cancel, List.drop_left, numB_inj h]; simp
end Go.Pu
/- Plain laws: counts, as bits describe them. -/
namespace Go.Pu
open Go Go.En
set_option linter.unusedVariables false

/-- n bits from a place on, as a number -/
def numAt (L : List Bool) (st n : Nat) : Nat := numB ((L.drop st).take n)
theorem numAt_lt (L : List Bool) (st n : Nat) : numAt L st n < 2 ^ n := by
  have h := numB_lt ((L.drop st).take n)
  have : ((L.drop st).take n).length ≤ n := by rw [List.length_take]; omega
  exact Nat.lt_of_lt_of_le h (Nat.pow_le_pow_right (by omega) this)
theorem numAt_mid (A : List Bool) (x n : Nat) (C : List Bool) (h : x < 2 ^ n) : numAt (A ++ (bitsN x n ++ C)) A.length n = x := by
  unfold numAt
  rw [List.drop_left, List.take_left' (bitsN_length x n), numB_inj h]

/-- the next symbol's number, and where the bits behind it stand -/
def valR (L : List Bool) (st left : Nat) : Option (Nat × Nat) :=
  let n := bl (left + 1)
  if L.length < st + (n - 1) then none
  else
    let low := numAt L st (n - 1)
    let free := 2 ^ n - 2 - left
    if low < free then some (low, st + (n - 1))
    else if L.length < st + (n - 1) + 1 then none
    else if numAt L (st + (n - 1)) 1 = 0 then some (low, st + (n - 1) + 1)
    else some (low + 2 ^ (n - 1) - free, st + (n - 1) + 1)

/-- how many symbols more have no part -/
def noR (L : List Bool) : Nat → Nat → Option (Nat × Nat)
  | 0, _ => none
  | f + 1, st => if L.length < st + 2 then none else if numAt L st 2 < 3 then some (numAt L st 2, st + 2) else match noR L f (st + 2) with
    | none => none
    | some (k, st') => some (3 + k, st')

/-- counts, from so many parts that are left on; errors as the program has them -/
def rdC (L : List Bool) (sym : Nat) : Nat → Nat → Nat → List Int → Except Int (List Int × Nat)
  | 0, _, _, _ => .error 10
  | f + 1, st, left, ps => if left = 0 then .ok (ps, st) else match valR L st left with
    | none => .error 10
    | some (v, st1) =>
      if v = 1 then match noR L (L.length + 1) st1 with
        | none => .error 10
        | some (k, st2) => if sym < ps.length + 1 + k then .error 11 else rdC L sym f st2 left (ps ++ 0 :: List.replicate k 0)
      else if sym < ps.length + 1 then .error 11 else rdC L sym f st1 (left - (partsI ((v : Int) - 1)).toNat) (ps ++ [(v : Int) - 1])

theorem valR_bd {L : List Bool} {st left v st1 : Nat} (h : valR L st left = some (v, st1)) (h0 : 0 < left) : st < st1 ∧ st1 ≤ L.length ∧ v ≤ left + 1 := by
  have hb1 := bl_pos (k := left + 1) (by omega)
  have hb2 := bl_le (k := left + 1) (by omega)
  have hb3 := bl_lt (left + 1)
  have hn : 2 ≤ bl (left + 1) := by
    rcases Nat.lt_or_ge (bl (left + 1)) 2 with h | h
    · have : bl (left + 1) = 1 := by omega
      rw [this] at hb3; omega
    · exact h
  unfold valR at h
  simp only at h
  generalize bl (left + 1) = n at *
  obtain ⟨m, rfl⟩ : ∃ m, n = m + 1 := ⟨n - 1, by omega⟩
  rw [Nat.add_sub_cancel] at *
  rw [Nat.pow_succ] at *
  have hl := numAt_lt L st m
  generalize 2 ^ m = q at *
  generalize numAt L st m = low at *
  split at h
  · cases h
  · split at h
    · obtain ⟨rfl, rfl⟩ := Prod.mk.inj (Option.some.inj h); omega
    · split at h
      · cases h
      · split at h
        · obtain ⟨rfl, rfl⟩ := Prod.mk.inj (Option.some.inj h); omega
        · obtain ⟨rfl, rfl⟩ := Prod.mk.inj (Option.some.inj h); omega

theorem noR_bd {L : List Bool} : ∀ {f st k st1 : Nat}, noR L f st = some (k, st1) → st < st1 ∧ st1 ≤ L.length ∧ 2 * k ≤ 3 * (st1 - st)
  | 0, st, k, st1, h => by cases h
  | f + 1, st, k, st1, h => by
    rw [noR] at h
    split at h
    · cases h
    · have hl := numAt_lt L st 2
      split at h
      · obtain ⟨rfl, rfl⟩ := Prod.mk.inj (Option.some.inj h); omega
      · cases hn : noR L f (st + 2) with
        | none => rw [hn] at h; cases h
        | some x =>
          obtain ⟨k', st'⟩ := x
          rw [hn] at h
          obtain ⟨rfl, rfl⟩ := Prod.mk.inj (Option.some.inj h)
          have := noR_bd hn
          omega
/-- more steps tell nothing else -/
theorem noR_fuel {L : List Bool} : ∀ {f g st : Nat}, L.length < 2 * f + st → L.length < 2 * g + st → noR L f st = noR L g st
  | 0, 0, st, _, _ => rfl
  | 0, g + 1, st, h1, h2 => by rw [noR, noR, if_pos (by omega)]
  | f + 1, 0, st, h1, h2 => by rw [noR, noR, if_pos (by omega)]
  | f + 1, g + 1, st, h1, h2 => by
    rw [noR, noR]
    split
    · rfl
    · rw [noR_fuel (f := f) (g := g) (by omega) (by omega)]

/-- what is read of counts -/
def readL (L : List Bool) (most : Int) (sym : Nat) : Except Int (Nat × List Int × Nat) :=
  if L.length < 4 then .error 10
  else
    let log := numAt L 0 4 + 5
    if most < log ∨ 15 < log then .error 12
    else match rdC L sym (L.length + 1) 4 (2 ^ log) [] with
      | .error e => .error e
      | .ok (ps, st) => .ok (log, ps, (st + 7) / 8)

theorem sumP_zeros : ∀ k : Nat, sumP (List.replicate k 0) = 0
  | 0 => rfl
  | k + 1 => by rw [List.replicate_succ, sumP_cons, sumP_zeros k]; rfl
/-- what is read may be -/
theorem rdC_sound {L : List Bool} {sym : Nat} {out : List Int} {stE : Nat} {tot : Int} : ∀ {f st left : Nat} {ps : List Int}, rdC L sym f st left ps = .ok (out, stE) → (∀ p ∈ ps, -1 ≤ p) → sumP ps + left = tot →
    (left = 0 → ps.length ≤ sym ∧ ps.getLast? ≠ some 0 ∧ 1 ≤ ps.length) → (∀ p ∈ out, -1 ≤ p) ∧ sumP out = tot ∧ out.length ≤ sym ∧ out.getLast? ≠ some 0 ∧ 1 ≤ out.length
  | 0, st, left, ps, h, _, _, _ => by cases h
  | f + 1, st, left, ps, h, hlo, hs, hz => by
    rw [rdC] at h
    split at h
    · rename_i h0
      cases h
      obtain ⟨z1, z2, z3⟩ := hz h0
      exact ⟨hlo, by omega, z1, z2, z3⟩
    · rename_i h0
      cases hv : valR L st left with
      | none => rw [hv] at h; cases h
      | some x =>
        obtain ⟨v, st1⟩ := x
        obtain ⟨v1, v2, v3⟩ := valR_bd hv (by omega)
        rw [hv] at h
        simp only at h
        split at h
        · rename_i hv1
          cases hn : noR L (L.length + 1) st1 with
          | none => rw [hn] at h; cases h
          | some y =>
            obtain ⟨k, st2⟩ := y
            rw [hn] at h
            simp only at h
            split at h
            · cases h
            · refine rdC_sound h ?_ ?_ (fun h => absurd h h0)
              · intro p hp
                rcases List.mem_append.1 hp with hp | hp
                · exact hlo p hp
                · rcases List.mem_cons.1 hp with rfl | hp
                  · omega
                  · rw [List.eq_of_mem_replicate hp]; omega
              · rw [sumP_append, sumP_cons]
                have e := sumP_zeros k
                rw [e]
                have : partsI 0 = 0 := rfl
                omega
        · rename_i hv1
          split at h
          · cases h
          · have hp1 : -1 ≤ (v : Int) - 1 := by omega
            have hpn := partsI_nonneg hp1
            have hpl : partsI ((v : Int) - 1) ≤ left := by unfold partsI; split <;> omega
            refine rdC_sound h ?_ ?_ ?_
            · intro p hp
              rcases List.mem_append.1 hp with hp | hp
              · exact hlo p hp
              · rw [List.mem_singleton.1 hp]; exact hp1
            · rw [sumP_append, sumP_cons]
              have e : sumP [] = 0 := rfl
              rw [e]; omega
            · intro _
              rw [List.length_append, List.length_singleton, List.getLast?_concat]
              refine ⟨by omega, ?_, by omega⟩
              intro e
              have := Option.some.inj e
              omega
end Go.Pu
/- Plain laws: counts, described by bits, are read as they were. -/
namespace Go.Pu
open Go Go.En
set_option linter.unusedVariables false

/-- the bits of a number, where so many parts are left -/
def valW (left v : Nat) : List Bool :=
  let n := bl (left + 1)
  let free := 2 ^ n - 2 - left
  if v < free then bitsN v (n - 1) else if v < 2 ^ (n - 1) then bitsN v n else bitsN (v + free) n
/-- how many symbols more have no part -/
def noW (k : Nat) : List Bool := if h : k < 3 then bitsN k 2 else bitsN 3 2 ++ noW (k - 3)
termination_by k

theorem numAt_in {L A C : List Bool} {x n : Nat} (hL : L = A ++ (bitsN x n ++ C)) (h : x < 2 ^ n) : numAt L A.length n = x := by rw [hL, numAt_mid A x n C h]

theorem bitsN_snoc (x n : Nat) : bitsN x (n + 1) = bitsN (x % 2 ^ n) n ++ bitsN (x / 2 ^ n % 2) 1 := by
  rw [bitsN_succ]
  congr 1
  · unfold bitsN
    apply List.map_congr_left
    intro k hk
    rw [Nat.testBit_mod_two_pow]
    simp [List.mem_range.1 hk]
  · rw [bitsN_succ, bitsN_zero, List.nil_append]
    congr 1
    rw [Nat.testBit_eq_decide_div_mod_eq, Nat.testBit_eq_decide_div_mod_eq, Nat.pow_zero, Nat.div_one, Nat.mod_mod]

theorem valW_R {L A C : List Bool} {left v : Nat} (hL : L = A ++ (valW left v ++ C)) (h0 : 0 < left) (hv : v ≤ left + 1) : valR L A.length left = some (v, A.length + (valW left v).length) := by
  have hb1 := bl_pos (k := left + 1) (by omega)
  have hb2 := bl_le (k := left + 1) (by omega)
  have hb3 := bl_lt (left + 1)
  unfold valW at hL ⊢
  unfold valR
  simp only at hL ⊢
  generalize bl (left + 1) = n at *
  obtain ⟨m, rfl⟩ : ∃ m, n = m + 1 := ⟨n - 1, by omega⟩
  rw [Nat.add_sub_cancel] at *
  have hp : 2 ^ (m + 1) = 2 * 2 ^ m := by rw [Nat.pow_succ, Nat.mul_comm]
  have hp0 := Nat.two_pow_pos m
  by_cases h1 : v < 2 ^ (m + 1) - 2 - left
  · rw [if_pos h1] at hL ⊢
    have hlen : L.length = A.length + (m + C.length) := by rw [hL, List.length_append, List.length_append, bitsN_length]
    rw [if_neg (by omega), numAt_in hL (by omega), if_pos h1, bitsN_length]
  · rw [if_neg h1] at hL ⊢
    -- two parts
    have key : ∀ y : Nat, y < 2 ^ (m + 1) → L = A ++ (bitsN y (m + 1) ++ C) → 2 ^ (m + 1) - 2 - left ≤ y % 2 ^ m → (if y / 2 ^ m = 0 then y % 2 ^ m else y % 2 ^ m + 2 ^ m - (2 ^ (m + 1) - 2 - left)) = v →
        (if L.length < A.length + m then none else if numAt L A.length m < 2 ^ (m + 1) - 2 - left then some (numAt L A.length m, A.length + m) else if L.length < A.length + m + 1 then none
          else if numAt L (A.length + m) 1 = 0 then some (numAt L A.length m, A.length + m + 1) else some (numAt L A.length m + 2 ^ m - (2 ^ (m + 1) - 2 - left), A.length + m + 1)) = some (v, A.length + (bitsN y (m + 1)).length) := by
      intro y hy hL hlow hval
      have hlen : L.length = A.length + (m + 1 + C.length) := by rw [hL, List.length_append, List.length_append, bitsN_length]
      have hq : y / 2 ^ m < 2 := (Nat.div_lt_iff_lt_mul hp0).2 (by omega)
      have e1 : numAt L A.length m = y % 2 ^ m := numAt_in (C := bitsN (y / 2 ^ m % 2) 1 ++ C) (by rw [hL, bitsN_snoc, List.append_assoc]) (Nat.mod_lt _ hp0)
      have e2 : numAt L (A.length + m) 1 = y / 2 ^ m := by
        have := numAt_in (L := L) (A := A ++ bitsN (y % 2 ^ m) m) (C := C) (x := y / 2 ^ m % 2) (n := 1) (by rw [hL, bitsN_snoc, List.append_assoc, List.append_assoc]) (by omega)
        rw [List.length_append, bitsN_length, Nat.mod_eq_of_lt hq] at this
        exact this
      rw [if_neg (by omega), e1, if_neg (by omega), if_neg (by omega), e2, bitsN_length]
      split
      · rename_i h
        rw [if_pos h] at hval
        rw [hval]; rfl
      · rename_i h
        rw [if_neg h] at hval
        rw [hval]; rfl
    by_cases h2 : v < 2 ^ m
    · rw [if_pos h2] at hL ⊢
      refine key v (by omega) hL ?_ ?_
      · rw [Nat.mod_eq_of_lt h2]; omega
      · rw [Nat.div_eq_of_lt h2, if_pos rfl, Nat.mod_eq_of_lt h2]
    · rw [if_neg h2] at hL ⊢
      have hd : (v + (2 ^ (m + 1) - 2 - left)) / 2 ^ m = 1 := Nat.div_eq_of_lt_le (by omega) (by omega)
      have hm : (v + (2 ^ (m + 1) - 2 - left)) % 2 ^ m = v + (2 ^ (m + 1) - 2 - left) - 2 ^ m := by
        rw [Nat.mod_eq_sub_mod (by omega), Nat.mod_eq_of_lt (by omega)]
      refine key _ (by omega) hL ?_ ?_
      · rw [hm]; omega
      · rw [hd, if_neg (by omega), hm]; omega

theorem noW_R {L C : List Bool} : ∀ {k : Nat} {A : List Bool} {f : Nat}, L = A ++ (noW k ++ C) → L.length < 2 * f + A.length → noR L f A.length = some (k, A.length + (noW k).length) := by
  intro k
  induction k using Nat.strongRecOn with
  | ind k ih =>
    intro A f hL hf
    rw [noW] at hL ⊢
    split at hL
    · rename_i hk
      have hlen : L.length = A.length + (2 + C.length) := by rw [hL, List.length_append, List.length_append, bitsN_length]
      obtain ⟨f, rfl⟩ : ∃ g, f = g + 1 := ⟨f - 1, by omega⟩
      have e := numAt_in hL (by omega)
      rw [noR, if_neg (by omega), e, if_pos hk, dif_pos hk, bitsN_length]
    · rename_i hk
      rw [List.append_assoc] at hL
      have hlen : L.length = A.length + (2 + ((noW (k - 3)).length + C.length)) := by rw [hL, List.length_append, List.length_append, List.length_append, bitsN_length]
      obtain ⟨f, rfl⟩ : ∃ g, f = g + 1 := ⟨f - 1, by omega⟩
      have e := numAt_in hL (by omega)
      have := ih (k - 3) (by omega) (A := A ++ bitsN 3 2) (f := f) (by rw [hL, List.append_assoc]) (by rw [List.length_append, bitsN_length]; omega)
      rw [List.length_append, bitsN_length] at this
      rw [noR, if_neg (by omega), e, if_neg (by omega), this, dif_neg hk, List.length_append, bitsN_length]
      simp only [Option.some.injEq, Prod.mk.injEq]
      omega

/-- the bits of counts -/
def wrC : Nat → Nat → List Int → List Bool
  | 0, _, _ => []
  | f + 1, left, ps => match ps with
    | [] => []
    | p :: ps => if p = 0 then
        let k := (ps.takeWhile (· == 0)).length
        valW left 1 ++ (noW k ++ wrC f left (ps.drop k))
      else valW left (p + 1).toNat ++ wrC f (left - (partsI p).toNat) ps

theorem takeWhile_rep (ps : List Int) : ps = List.replicate (ps.takeWhile (· == 0)).length 0 ++ ps.drop (ps.takeWhile (· == 0)).length := by
  induction ps with
  | nil => rfl
  | cons p ps ih =>
    rw [List.takeWhile_cons]
    by_cases h : p = 0
    · subst h
      simp only [beq_self_eq_true, if_true, List.length_cons, List.replicate_succ, List.drop_succ_cons, List.cons_append]
      rw [← ih]
    · have : (p == 0) = false := by simpa using h
      simp [this]

theorem wrC_R {L C : List Bool} {sym : Nat} : ∀ {g : Nat} {ps out : List Int} {left f : Nat} {A : List Bool}, ps.length ≤ g → (∀ p ∈ ps, -1 ≤ p) → sumP ps = left → ps.getLast? ≠ some 0 →
    L = A ++ (wrC g left ps ++ C) → L.length < f + A.length → out.length + ps.length ≤ sym →
    rdC L sym f A.length left out = .ok (out ++ ps, A.length + (wrC g left ps).length) := by
  intro g
  induction g with
  | zero =>
    intro ps out left f A hl hlo hs hlast hL hf hsym
    have : ps = [] := List.length_eq_zero_iff.1 (by omega)
    subst this
    obtain rfl : left = 0 := by have : sumP [] = 0 := rfl
                                omega
    have : A.length ≤ L.length := by rw [hL, List.length_append]; omega
    obtain ⟨f, rfl⟩ : ∃ g, f = g + 1 := ⟨f - 1, by omega⟩
    rw [rdC, if_pos rfl, wrC]; simp
  | succ g ih =>
    intro ps out left f A hl hlo hs hlast hL hf hsym
    have hAL : A.length ≤ L.length := by rw [hL, List.length_append]; omega
    obtain ⟨f, rfl⟩ : ∃ g, f = g + 1 := ⟨f - 1, by omega⟩
    cases ps with
    | nil =>
      obtain rfl : left = 0 := by have : sumP [] = 0 := rfl
                                  omega
      rw [rdC, if_pos rfl, wrC]; simp
    | cons p ps =>
      have hp := hlo p (List.mem_cons_self ..)
      have hlo' : ∀ p ∈ ps, -1 ≤ p := fun q hq => hlo q (List.mem_cons_of_mem _ hq)
      have hn := sumP_nonneg hlo'
      rw [sumP_cons] at hs
      have hpn := partsI_nonneg hp
      rw [List.length_cons] at hl hsym
      have hpos : 0 < left := by
        by_cases h0 : p = 0
        · -- something stands behind
          subst h0
          rcases Nat.eq_zero_or_pos left with h | h
          · exfalso
            subst h
            have hs0 : sumP ps = 0 := by have : partsI 0 = 0 := rfl
                                         omega
            have hz : ∀ q ∈ ps, q = 0 := fun q hq => by
              have h1 := part_le hlo' hq
              have h2 := hlo' q hq
              unfold partsI at h1
              split at h1 <;> omega
            cases ps with
            | nil => simp at hlast
            | cons q ps =>
              rw [List.getLast?_cons_cons] at hlast
              refine hlast ?_
              cases hg : (q :: ps).getLast? with
              | none => simp at hg
              | some y => rw [hz y (List.mem_of_getLast? hg)]
          · exact h
        · unfold partsI at hs; split at hs <;> omega
      have hpl : partsI p ≤ left := by omega
      by_cases h0 : p = 0
      · subst h0
        have hW : wrC (g + 1) left (0 :: ps) = valW left 1 ++ (noW (ps.takeWhile (· == 0)).length ++ wrC g left (ps.drop (ps.takeWhile (· == 0)).length)) := by rw [wrC, if_pos rfl]
        have hk := takeWhile_rep ps
        have hkl : (ps.takeWhile (· == 0)).length ≤ ps.length := (List.takeWhile_sublist _).length_le
        rw [hW] at hL ⊢
        generalize (ps.takeWhile (· == 0)).length = k at *
        have e1 := valW_R (L := L) (A := A) (C := noW k ++ wrC g left (ps.drop k) ++ C) (left := left) (v := 1) (by rw [hL]; simp [List.append_assoc]) hpos (by omega)
        obtain ⟨z1, z2, _⟩ := valR_bd e1 hpos
        have e2 := noW_R (L := L) (k := k) (A := A ++ valW left 1) (C := wrC g left (ps.drop k) ++ C) (f := L.length + 1) (by rw [hL]; simp [List.append_assoc]) (by omega)
        obtain ⟨y1, y2, _⟩ := noR_bd e2
        have hlast' : (ps.drop k).getLast? ≠ some 0 := by
          intro h
          apply hlast
          have e : (0 :: ps : List Int) = (0 :: ps.take k) ++ ps.drop k := by rw [List.cons_append, List.take_append_drop]
          rw [e, List.getLast?_append, h]; rfl
        have hsum' : sumP (ps.drop k) = left := by
          have : sumP ps = sumP (List.replicate k 0) + sumP (ps.drop k) := by
            conv => lhs; rw [hk]
            rw [sumP_append]
          rw [sumP_zeros] at this
          have e0 : partsI 0 = 0 := rfl
          omega
        have hlen2 : (A ++ valW left 1 ++ noW k).length = A.length + (valW left 1).length + (noW k).length := by rw [List.length_append, List.length_append]
        rw [List.length_append] at e2 y1
        have e3 := ih (ps := ps.drop k) (out := out ++ 0 :: List.replicate k 0) (left := left) (f := f) (A := A ++ valW left 1 ++ noW k) (by rw [List.length_drop]; omega) (fun q hq => hlo' q (List.mem_of_mem_drop hq)) hsum' hlast'
          (by rw [hL]; simp [List.append_assoc]) (by rw [hlen2]; omega) (by rw [List.length_append, List.length_cons, List.length_replicate, List.length_drop]; omega)
        rw [hlen2] at e3
        rw [rdC, if_neg (by omega), e1]
        simp only [if_true]
        rw [e2]
        simp only
        rw [if_neg (by omega), e3]
        congr 2
        · rw [List.append_assoc, List.cons_append, ← hk]
        · simp only [List.length_append]; omega
      · have hW : wrC (g + 1) left (p :: ps) = valW left (p + 1).toNat ++ wrC g (left - (partsI p).toNat) ps := by rw [wrC, if_neg h0]
        have hle : p ≤ partsI p := by unfold partsI; split <;> omega
        rw [hW] at hL ⊢
        obtain ⟨v, hv⟩ : ∃ v : Nat, (p + 1).toNat = v := ⟨_, rfl⟩
        have hvp : (v : Int) - 1 = p := by omega
        rw [hv] at hL ⊢
        have e1 := valW_R (L := L) (A := A) (C := wrC g (left - (partsI p).toNat) ps ++ C) (left := left) (v := v) (by rw [hL]; simp [List.append_assoc]) hpos (by omega)
        obtain ⟨z1, z2, _⟩ := valR_bd e1 hpos
        have hlast' : ps.getLast? ≠ some 0 := by
          intro h
          apply hlast
          cases ps with
          | nil => simp at h
          | cons q ps => rw [List.getLast?_cons_cons]; exact h
        have hlen2 : (A ++ valW left v).length = A.length + (valW left v).length := List.length_append
        have e3 := ih (ps := ps) (out := out ++ [p]) (left := left - (partsI p).toNat) (f := f) (A := A ++ valW left v) (by omega) hlo' (by omega) hlast'
          (by rw [hL]; simp [List.append_assoc]) (by rw [hlen2]; omega) (by rw [List.length_append, List.length_singleton]; omega)
        rw [hlen2] at e3
        rw [rdC, if_neg (by omega), e1]
        simp only
        rw [if_neg (by omega), if_neg (by omega), hvp, e3]
        congr 2
        · rw [List.append_assoc]; rfl
        · simp only [List.length_append]; omega

/-- a description -/
def descW (log : Nat) (ps : List Int) : List Bool := bitsN (log - 5) 4 ++ wrC ps.length (2 ^ log) ps

/-- it is read as it was -/
theorem descW_R {log : Nat} {ps : List Int} {C : List Bool} (hm : May log ps) {most : Int} (hmo : (log : Int) ≤ most) {sym : Nat} (hs : ps.length ≤ sym) :
    readL (descW log ps ++ C) most sym = .ok (log, ps, ((descW log ps).length + 7) / 8) := by
  have h5 := hm.log5
  have h15 := hm.log15
  have hlen : 4 ≤ (descW log ps ++ C).length := by unfold descW; rw [List.length_append, List.length_append, bitsN_length]; omega
  have e0 : numAt (descW log ps ++ C) 0 4 = log - 5 := by
    unfold descW
    have := numAt_mid [] (log - 5) 4 (wrC ps.length (2 ^ log) ps ++ C) (by omega)
    rw [List.nil_append, List.length_nil, ← List.append_assoc] at this
    exact this
  have hpow : ((2 ^ log : Nat) : Int) = (2 : Int) ^ log := by simp
  have e1 := wrC_R (L := descW log ps ++ C) (C := C) (sym := sym) (g := ps.length) (ps := ps) (out := []) (left := 2 ^ log) (f := (descW log ps ++ C).length + 1) (A := bitsN (log - 5) 4) (Nat.le_refl _) hm.low
    (by rw [hm.sum, hpow]) hm.last (by unfold descW; rw [List.append_assoc]) (by omega) (by rw [List.length_nil]; omega)
  rw [bitsN_length, List.nil_append] at e1
  unfold readL
  simp only
  rw [if_neg (by omega), e0, show log - 5 + 5 = log from by omega, if_neg (by omega), e1]
  simp only
  congr 4
  unfold descW
  rw [List.length_append, bitsN_length]
end Go.Pu
/- Plain laws: how long a description is. -/
namespace Go.Pu
open Go Go.En
set_option linter.unusedVariables false

theorem sum_pos {ps : List Int} (hlo : ∀ p ∈ ps, -1 ≤ p) (hne : ps ≠ []) (hlast : ps.getLast? ≠ some 0) : 0 < sumP ps := by
  have h0 := sumP_nonneg hlo
  rcases Int.lt_or_eq_of_le h0 with h | h
  · exact h
  · exfalso
    have hz : ∀ q ∈ ps, q = 0 := fun q hq => by
      have h1 := part_le hlo hq
      have h2 := hlo q hq
      unfold partsI at h1
      split at h1 <;> omega
    refine hlast ?_
    cases hg : ps.getLast? with
    | none => simp at hg; exact absurd hg hne
    | some y => rw [hz y (List.mem_of_getLast? hg)]

theorem valW_len {left v : Nat} (h : left ≤ 32768) : (valW left v).length ≤ 17 := by
  have hb := bl_le_of (k := left + 1) (n := 17) (by omega)
  unfold valW
  simp only
  split
  · rw [bitsN_length]; omega
  · split <;> rw [bitsN_length] <;> omega
theorem noW_len : ∀ k : Nat, (noW k).length ≤ 2 * k + 2 := by
  intro k
  induction k using Nat.strongRecOn with
  | ind k ih =>
    rw [noW]
    split
    · rw [bitsN_length]; omega
    · have := ih (k - 3) (by omega)
      rw [List.length_append, bitsN_length]; omega
theorem wrC_len : ∀ (g left : Nat) (ps : List Int), left ≤ 32768 → (wrC g left ps).length ≤ 20 * ps.length
  | 0, left, ps, h => by simp [wrC]
  | g + 1, left, [], h => by simp [wrC]
  | g + 1, left, p :: ps, h => by
    rw [wrC]
    have hk : (ps.takeWhile (· == 0)).length ≤ ps.length := (List.takeWhile_sublist _).length_le
    split
    · have h1 := valW_len (v := 1) h
      have h2 := noW_len (ps.takeWhile (· == 0)).length
      have h3 := wrC_len g left (ps.drop (ps.takeWhile (· == 0)).length) h
      rw [List.length_drop] at h3
      simp only [List.length_append, List.length_cons]
      omega
    · have h1 := valW_len (v := (p + 1).toNat) h
      have h3 := wrC_len g (left - (partsI p).toNat) ps (by omega)
      simp only [List.length_append, List.length_cons]
      omega
theorem descW_len {log : Nat} {ps : List Int} (hm : May log ps) : (descW log ps).length ≤ 6000 := by
  have h15 := hm.log15
  have hp : 2 ^ log ≤ 2 ^ 15 := Nat.pow_le_pow_right (by omega) h15
  have := wrC_len ps.length (2 ^ log) ps (by omega)
  have := hm.len256
  unfold descW
  rw [List.length_append, bitsN_length]
  omega

/-- the noughts at the head -/
theorem zeros_lt : ∀ {ps : List Int} {j : Nat}, j < (ps.takeWhile (· == 0)).length → ps[j]? = some 0
  | [], j, h => by simp at h
  | p :: ps, j, h => by
    rw [List.takeWhile_cons] at h
    by_cases hp : (p == 0) = true
    · rw [if_pos hp] at h
      cases j with
      | zero => simpa using hp
      | succ j => simpa using zeros_lt (ps := ps) (j := j) (by simpa using h)
    · rw [if_neg hp] at h; simp at h
theorem zeros_end : ∀ {ps : List Int} {y : Int}, ps[(ps.takeWhile (· == 0)).length]? = some y → y ≠ 0
  | [], y, h => by simp at h
  | p :: ps, y, h => by
    rw [List.takeWhile_cons] at h
    by_cases hp : (p == 0) = true
    · rw [if_pos hp] at h
      exact zeros_end (ps := ps) (by simpa using h)
    · rw [if_neg hp] at h
      simp at h hp
      rw [← h]; exact hp
theorem zeros_in {ps : List Int} (hlast : ps.getLast? ≠ some 0) (hne : ps ≠ []) : (ps.takeWhile (· == 0)).length < ps.length := by
  have hk : (ps.takeWhile (· == 0)).length ≤ ps.length := (List.takeWhile_sublist _).length_le
  rcases Nat.lt_or_ge (ps.takeWhile (· == 0)).length ps.length with h | h
  · exact h
  · exfalso
    have hl : 0 < ps.length := List.length_pos_iff.2 hne
    have := zeros_lt (ps := ps) (j := ps.length - 1) (by omega)
    apply hlast
    rw [List.getLast?_eq_getElem?, this]
end Go.Pu
/- Plain laws: counts made of how often symbols are. -/
namespace Go.Pu
set_option linter.unusedVariables false

def partN (R S n : Nat) : Nat := if n = 0 then 0 else 1 + n * R / S
def moreN (R S n : Nat) : Nat := n * R / S
def isOn (n : Nat) : Bool := decide (0 < n)
/-- the last one that is, of the first i -/
def LastI (ns : List Nat) (i last : Nat) : Prop := (last = 0 ∧ ∀ j, j < i → ns.getD j 0 = 0) ∨ (last < i ∧ 0 < ns.getD last 0 ∧ ∀ j, last < j → j < i → ns.getD j 0 = 0)
theorem LastI.step {ns : List Nat} {i last : Nat} (h : LastI ns i last) : LastI ns (i + 1) (if 0 < ns.getD i 0 then i else last) := by
  split
  · rename_i h0
    exact .inr ⟨by omega, h0, fun j h1 h2 => by omega⟩
  · rename_i h0
    rcases h with ⟨rfl, h⟩ | ⟨h1, h2, h3⟩
    · refine .inl ⟨rfl, fun j hj => ?_⟩
      rcases Nat.lt_or_ge j i with h' | h'
      · exact h j h'
      · have : j = i := by omega
        subst this; omega
    · refine .inr ⟨by omega, h2, fun j hj hj2 => ?_⟩
      rcases Nat.lt_or_ge j i with h' | h'
      · exact h3 j hj h'
      · have : j = i := by omega
        subst this; omega
theorem LastI.one {ns : List Nat} {i a b : Nat} (ha : LastI ns i a) (hb : LastI ns i b) : a = b := by
  rcases ha with ⟨rfl, h⟩ | ⟨h1, h2, h3⟩
  · rcases hb with ⟨rfl, _⟩ | ⟨k1, k2, _⟩
    · rfl
    · have := h b k1; omega
  · rcases hb with ⟨rfl, k⟩ | ⟨k1, k2, k3⟩
    · have := k a h1; omega
    · rcases Nat.lt_trichotomy a b with h | h | h
      · have := h3 b h k1; omega
      · exact h
      · have := k3 a h h1; omega

theorem getD_at {ns : List Nat} {i : Nat} (h : i < ns.length) : ns.getD i 0 = ns[i] := by rw [List.getD_eq_getElem?_getD, List.getElem?_eq_getElem h]; rfl
theorem take_snoc {α : Type} {ns : List α} {i : Nat} (h : i < ns.length) : ns.take (i + 1) = ns.take i ++ [ns[i]] := by
  rw [List.take_add_one, List.getElem?_eq_getElem h]; rfl
theorem take_snocD {ns : List Nat} {i : Nat} (h : i < ns.length) : ns.take (i + 1) = ns.take i ++ [ns.getD i 0] := by rw [take_snoc h, getD_at h]

theorem zeros_sum : ∀ {l : List Nat}, (∀ n ∈ l, n = 0) → l.sum = 0
  | [], _ => rfl
  | n :: l, h => by rw [List.sum_cons, h n (List.mem_cons_self ..), zeros_sum fun m hm => h m (List.mem_cons_of_mem _ hm)]
theorem zeros_cnt : ∀ {l : List Nat}, (∀ n ∈ l, n = 0) → l.countP isOn = 0
  | [], _ => rfl
  | n :: l, h => by
    rw [List.countP_cons, h n (List.mem_cons_self ..), zeros_cnt fun m hm => h m (List.mem_cons_of_mem _ hm)]; rfl

theorem div_add_le (a b S : Nat) : a / S + b / S ≤ (a + b) / S := by
  rcases Nat.eq_zero_or_pos S with h | h
  · subst h; simp
  · rw [Nat.le_div_iff_mul_le h, Nat.add_mul]
    have := Nat.div_mul_le_self a S
    have := Nat.div_mul_le_self b S
    omega
theorem sum_more (R S : Nat) : ∀ l : List Nat, (l.map (moreN R S)).sum ≤ l.sum * R / S
  | [] => by simp
  | n :: l => by
    rw [List.map_cons, List.sum_cons, List.sum_cons, Nat.add_mul]
    have := sum_more R S l
    have h2 := div_add_le (n * R) (l.sum * R) S
    unfold moreN at *
    omega
theorem sum_more_le {R S : Nat} {l : List Nat} (h : l.sum ≤ S) (hS : 0 < S) : (l.map (moreN R S)).sum ≤ R := by
  have h1 := sum_more R S l
  have h2 : l.sum * R / S ≤ S * R / S := Nat.div_le_div_right (Nat.mul_le_mul_right _ h)
  rw [Nat.mul_div_cancel_left _ hS] at h2
  omega
theorem sum_part (R S : Nat) : ∀ l : List Nat, (l.map (partN R S)).sum = l.countP isOn + (l.map (moreN R S)).sum
  | [] => by simp
  | n :: l => by
    rw [List.map_cons, List.sum_cons, List.map_cons, List.sum_cons, List.countP_cons, sum_part R S l]
    by_cases h : n = 0
    · subst h
      simp [partN, moreN, isOn]
    · have : isOn n = true := by unfold isOn; simpa using (by omega : 0 < n)
      rw [this]
      simp only [partN, moreN, if_neg h, if_true]
      omega
theorem sum_set : ∀ {l : List Nat} {i : Nat} (y : Nat) (h : i < l.length), (l.set i (l[i] + y)).sum = l.sum + y
  | [], i, y, h => by simp at h
  | n :: l, 0, y, h => by simp only [List.set_cons_zero, List.getElem_cons_zero, List.sum_cons]; omega
  | n :: l, i + 1, y, h => by
    simp only [List.set_cons_succ, List.getElem_cons_succ, List.sum_cons]
    rw [sum_set y (by simpa using h)]; omega
theorem sumP_nat : ∀ l : List Nat, sumP (l.map fun (n : Nat) => (n : Int)) = (l.sum : Nat)
  | [] => rfl
  | n :: l => by
    rw [List.map_cons, sumP_cons, sumP_nat l, List.sum_cons]
    have : partsI (n : Int) = n := by unfold partsI; rw [if_neg (by omega)]
    rw [this]; simp

theorem getD_set {P : List Nat} {gr i : Nat} (x : Nat) (hg : gr < P.length) (hi : i < P.length) : (P.set gr x).getD i 0 = if i = gr then x else P.getD i 0 := by
  rw [List.getD_eq_getElem?_getD, List.getD_eq_getElem?_getD, List.getElem?_set]
  by_cases h : i = gr
  · subst h; simp [hi]
  · rw [if_neg (fun e => h e.symm), if_neg h]

/-- what Of makes -/
def ofParts (log there S last gr left : Nat) (ns : List Nat) : List Nat :=
  ((ns.take (last + 1)).map (partN (2 ^ log - there) S)).set gr (((ns.take (last + 1)).map (partN (2 ^ log - there) S)).getD gr 0 + left)

theorem of_may {log there last gr left : Nat} {ns : List Nat} (h5 : 5 ≤ log) (h15 : log ≤ 15) (hlen : ns.length ≤ 256) (hth : there = ns.countP isOn) (h2 : 2 ≤ there) (h3 : there ≤ 2 ^ log) (hl : LastI ns ns.length last) (hgr : gr ≤ last) (hgr2 : 0 < ns.getD gr 0)
    (hleft : left + ((ns.take (last + 1)).map (moreN (2 ^ log - there) ns.sum)).sum = 2 ^ log - there) :
    May log ((ofParts log there ns.sum last gr left ns).map fun (n : Nat) => (n : Int)) ∧ (ofParts log there ns.sum last gr left ns).length = last + 1 ∧ last < ns.length ∧ ∀ i, i < last + 1 → (0 < (ofParts log there ns.sum last gr left ns).getD i 0 ↔ 0 < ns.getD i 0) := by
  have hlast : last < ns.length ∧ 0 < ns.getD last 0 ∧ ∀ j, last < j → j < ns.length → ns.getD j 0 = 0 := by
    rcases hl with ⟨rfl, h⟩ | h
    · exfalso
      have : ns.countP isOn = 0 := zeros_cnt fun n hn => by
        obtain ⟨i, hi, rfl⟩ := List.getElem_of_mem hn
        rw [← getD_at hi]; exact h i hi
      omega
    · exact h
  obtain ⟨l1, l2, l3⟩ := hlast
  have hz : ∀ n ∈ ns.drop (last + 1), n = 0 := fun n hn => by
    obtain ⟨i, hi, rfl⟩ := List.getElem_of_mem hn
    rw [List.length_drop] at hi
    rw [List.getElem_drop, ← getD_at (by omega)]
    exact l3 _ (by omega) (by omega)
  have hcnt : (ns.take (last + 1)).countP isOn = there := by
    have : ns.countP isOn = (ns.take (last + 1) ++ ns.drop (last + 1)).countP isOn := by rw [List.take_append_drop]
    rw [List.countP_append, zeros_cnt hz] at this
    omega
  have hpl : ((ns.take (last + 1)).map (partN (2 ^ log - there) ns.sum)).length = last + 1 := by rw [List.length_map, List.length_take]; omega
  have hpart : ∀ i, i < last + 1 → ((ns.take (last + 1)).map (partN (2 ^ log - there) ns.sum)).getD i 0 = partN (2 ^ log - there) ns.sum (ns.getD i 0) := fun i hi => by
    rw [getD_at (by omega), List.getElem_map, List.getElem_take, getD_at (by omega)]
  have hsum := sum_part (2 ^ log - there) ns.sum (ns.take (last + 1))
  rw [hcnt] at hsum
  have hl' : (ofParts log there ns.sum last gr left ns).length = last + 1 := by unfold ofParts; rw [List.length_set, hpl]
  have hon : ∀ n, 0 < partN (2 ^ log - there) ns.sum n ↔ 0 < n := fun n => by
    unfold partN
    split
    · omega
    · generalize n * (2 ^ log - there) / ns.sum = q
      constructor <;> intro <;> omega
  have hget : ∀ i, i < last + 1 → (ofParts log there ns.sum last gr left ns).getD i 0 = if i = gr then partN (2 ^ log - there) ns.sum (ns.getD gr 0) + left else partN (2 ^ log - there) ns.sum (ns.getD i 0) := fun i hi => by
    unfold ofParts
    rw [getD_set _ (by omega) (by omega), hpart gr (by omega), hpart i hi]
  have hiff : ∀ i, i < last + 1 → (0 < (ofParts log there ns.sum last gr left ns).getD i 0 ↔ 0 < ns.getD i 0) := fun i hi => by
    rw [hget i hi]
    split
    · rename_i h
      subst h
      have := (hon (ns.getD i 0)).2 hgr2
      constructor <;> intro <;> omega
    · exact hon _
  refine ⟨⟨h5, h15, by rw [List.length_map, hl']; omega, by rw [List.length_map, hl']; omega, ?_, ?_, ?_⟩, hl', l1, hiff⟩
  · intro h
    rw [List.getLast?_eq_getElem?, List.length_map, hl', List.getElem?_map, Nat.add_sub_cancel] at h
    have h1 := (hiff last (by omega)).2 l2
    rw [getD_at (by omega)] at h1
    rw [List.getElem?_eq_getElem (by omega)] at h
    have h2 := Option.some.inj h
    simp only at h2
    omega
  · intro p hp
    obtain ⟨n, _, rfl⟩ := List.mem_map.1 hp
    omega
  · rw [sumP_nat]
    have : (ofParts log there ns.sum last gr left ns).sum = 2 ^ log := by
      unfold ofParts
      rw [getD_at (show gr < ((ns.take (last + 1)).map (partN (2 ^ log - there) ns.sum)).length by omega), sum_set _ (by omega), hsum]
      omega
    rw [this]; simp
end Go.Pu
/- Plain laws: a description that is cut, or has bytes behind; counts of one symbol, and of rare ones. -/
namespace Go.Pu
open Go Go.En
set_option linter.unusedVariables false

theorem numAt_take {L : List Bool} {q st n : Nat} (h : st + n ≤ q) : numAt (L.take q) st n = numAt L st n := by
  unfold numAt
  rw [List.drop_take, List.take_take, Nat.min_eq_left (by omega)]

theorem valR_take {L : List Bool} {q st left v st1 : Nat} (h : valR L st left = some (v, st1)) (hq : q ≤ L.length) : valR (L.take q) st left = if st1 ≤ q then some (v, st1) else none := by
  have hl : (L.take q).length = q := by rw [List.length_take]; omega
  unfold valR at h ⊢
  simp only at h ⊢
  generalize bl (left + 1) = n at *
  rw [hl]
  split at h
  · cases h
  · rename_i h1
    by_cases h2 : q < st + (n - 1)
    · rw [if_pos h2]
      have : st + (n - 1) ≤ st1 := by
        split at h
        · obtain ⟨rfl, rfl⟩ := Prod.mk.inj (Option.some.inj h); omega
        · split at h
          · cases h
          · split at h <;> (obtain ⟨rfl, rfl⟩ := Prod.mk.inj (Option.some.inj h); omega)
      rw [if_neg (by omega)]
    · rw [if_neg h2, numAt_take (by omega)]
      split at h
      · rename_i h3
        rw [if_pos h3]
        obtain ⟨rfl, rfl⟩ := Prod.mk.inj (Option.some.inj h)
        rw [if_pos (by omega)]
      · rename_i h3
        rw [if_neg h3]
        split at h
        · cases h
        · by_cases h4 : q < st + (n - 1) + 1
          · rw [if_pos h4]
            have : st1 = st + (n - 1) + 1 := by split at h <;> (obtain ⟨rfl, rfl⟩ := Prod.mk.inj (Option.some.inj h); rfl)
            rw [if_neg (by omega)]
          · rw [if_neg h4, numAt_take (by omega)]
            have : st1 = st + (n - 1) + 1 := by split at h <;> (obtain ⟨rfl, rfl⟩ := Prod.mk.inj (Option.some.inj h); rfl)
            rw [if_pos (show st1 ≤ q by omega)]
            exact h

theorem noR_take {L : List Bool} {q : Nat} (hq : q ≤ L.length) : ∀ {f st k st1 : Nat}, noR L f st = some (k, st1) → noR (L.take q) f st = if st1 ≤ q then some (k, st1) else none
  | 0, st, k, st1, h => by cases h
  | f + 1, st, k, st1, h => by
    have hl : (L.take q).length = q := by rw [List.length_take]; omega
    have hb := noR_bd h
    rw [noR] at h ⊢
    rw [hl]
    split at h
    · cases h
    · by_cases h2 : q < st + 2
      · rw [if_pos h2]
        have : st + 2 ≤ st1 := by
          split at h
          · obtain ⟨rfl, rfl⟩ := Prod.mk.inj (Option.some.inj h); omega
          · cases hn : noR L f (st + 2) with
            | none => rw [hn] at h; cases h
            | some x =>
              obtain ⟨k', st'⟩ := x
              rw [hn] at h
              obtain ⟨rfl, rfl⟩ := Prod.mk.inj (Option.some.inj h)
              have := noR_bd hn
              omega
        rw [if_neg (by omega)]
      · rw [if_neg h2, numAt_take (by omega)]
        split at h
        · rename_i h3
          rw [if_pos h3]
          obtain ⟨rfl, rfl⟩ := Prod.mk.inj (Option.some.inj h)
          rw [if_pos (by omega)]
        · rename_i h3
          rw [if_neg h3]
          cases hn : noR L f (st + 2) with
          | none => rw [hn] at h; cases h
          | some x =>
            obtain ⟨k', st'⟩ := x
            rw [hn] at h
            obtain ⟨rfl, rfl⟩ := Prod.mk.inj (Option.some.inj h)
            rw [noR_take hq hn]
            by_cases h5 : st' ≤ q
            · rw [if_pos h5, if_pos h5]
            · rw [if_neg h5, if_neg h5]

theorem rdC_cut {L : List Bool} {q sym : Nat} {out : List Int} {stE : Nat} (hq : q ≤ L.length) (hE : q < stE) : ∀ {f g st left : Nat} {ps : List Int}, st ≤ q → rdC L sym f st left ps = .ok (out, stE) → rdC (L.take q) sym g st left ps = .error 10
  | 0, g, st, left, ps, hst, h => by cases h
  | f + 1, 0, st, left, ps, hst, h => rfl
  | f + 1, g + 1, st, left, ps, hst, h => by
    have hl : (L.take q).length = q := by rw [List.length_take]; omega
    rw [rdC] at h ⊢
    split at h
    · cases h; omega
    · rename_i h0
      rw [if_neg h0]
      cases hv : valR L st left with
      | none => rw [hv] at h; cases h
      | some x =>
        obtain ⟨v, st1⟩ := x
        rw [hv] at h
        simp only at h
        rw [valR_take hv hq]
        by_cases h1 : st1 ≤ q
        · rw [if_pos h1]
          simp only
          split at h
          · rename_i hv1
            rw [if_pos hv1]
            cases hn : noR L (L.length + 1) st1 with
            | none => rw [hn] at h; cases h
            | some y =>
              obtain ⟨k, st2⟩ := y
              rw [hn] at h
              simp only at h
              rw [noR_fuel (f := (L.take q).length + 1) (g := L.length + 1) (by omega) (by omega), noR_take hq hn]
              by_cases h2 : st2 ≤ q
              · rw [if_pos h2]
                simp only
                split at h
                · cases h
                · rename_i h3
                  rw [if_neg h3]
                  exact rdC_cut hq hE h2 h
              · rw [if_neg h2]
          · rename_i hv1
            rw [if_neg hv1]
            split at h
            · cases h
            · rename_i h3
              rw [if_neg h3]
              exact rdC_cut hq hE h1 h
        · rw [if_neg h1]

theorem bitsB_take : ∀ (l : List UInt8) (k : Nat), k ≤ l.length → bitsB (l.take k) = (bitsB l).take (8 * k)
  | l, 0, _ => by simp [bitsB]
  | [], k + 1, h => by simp at h
  | c :: l, k + 1, h => by
    rw [List.take_succ_cons, bitsB, bitsB, bitsB_take l k (by simpa using h), show 8 * (k + 1) = (bits8 c).length + 8 * k from by rw [bits8_length]; omega, List.take_length_add_append]

/-- a description that is cut is too short -/
theorem cut_short {log : Nat} {ps : List Int} {bytes : List UInt8} {k : Nat} (hm : May log ps) (hh : Held (descW log ps) bytes) (hk : k < bytes.length) : readL (bitsB (bytes.take k)) 15 256 = .error 10 := by
  have hlen := hh.len
  have h15 := hm.log15
  have h5 := hm.log5
  have hbl := bitsB_length bytes
  rw [bitsB_take _ _ (by omega)]
  have hq : 8 * k ≤ (bitsB bytes).length := by omega
  have hl : ((bitsB bytes).take (8 * k)).length = 8 * k := by rw [List.length_take]; omega
  have hr := descW_R (C := List.replicate (8 * bytes.length - (descW log ps).length) false) hm (most := 15) (by omega) (sym := 256) hm.len256
  rw [← hh.bits] at hr
  have hD : 8 * k < (descW log ps).length := by omega
  unfold readL at hr ⊢
  simp only at hr ⊢
  rw [hl]
  split at hr
  · cases hr
  · by_cases h0 : 8 * k < 4
    · rw [if_pos h0]
    · rw [if_neg h0, numAt_take (by omega)]
      split at hr
      · cases hr
      · rename_i h2
        rw [if_neg h2]
        cases hrd : rdC (bitsB bytes) 256 ((bitsB bytes).length + 1) 4 (2 ^ (numAt (bitsB bytes) 0 4 + 5)) [] with
        | error e => rw [hrd] at hr; cases hr
        | ok x =>
          obtain ⟨out, stE⟩ := x
          rw [hrd] at hr
          simp only [Except.ok.injEq, Prod.mk.injEq] at hr
          obtain ⟨hr1, hr2, hr3⟩ := hr
          have hE : 8 * k < stE := by omega
          rw [rdC_cut hq hE (by omega) hrd]

/-- bytes behind change nothing -/
theorem more_same {log : Nat} {ps : List Int} {bytes more : List UInt8} (hm : May log ps) (hh : Held (descW log ps) bytes) : readL (bitsB (bytes ++ more)) 15 256 = .ok (log, ps, bytes.length) := by
  have h15 := hm.log15
  rw [bitsB_append, hh.bits, List.append_assoc, descW_R hm (by omega) hm.len256, hh.len]

theorem may_alone {k m : Nat} (h5 : 5 ≤ k) (h15 : k ≤ 15) (hm : m ≤ 255) : May k (List.replicate m 0 ++ [((2 ^ k : Nat) : Int)]) := by
  have hp := Nat.two_pow_pos k
  refine ⟨h5, h15, by simp, by simp; omega, ?_, ?_, ?_⟩
  · rw [List.getLast?_concat]
    intro h
    have := Option.some.inj h
    omega
  · intro p hp'
    rcases List.mem_append.1 hp' with h | h
    · rw [List.eq_of_mem_replicate h]; omega
    · rw [List.mem_singleton.1 h]; omega
  · rw [sumP_append, sumP_zeros, sumP_cons]
    have e : sumP [] = 0 := rfl
    have e2 : partsI ((2 ^ k : Nat) : Int) = ((2 ^ k : Nat) : Int) := by unfold partsI; rw [if_neg (by omega)]
    rw [e, e2]; simp
theorem sumP_rare : ∀ n : Nat, sumP (List.replicate n (-1)) = n
  | 0 => rfl
  | n + 1 => by
    rw [List.replicate_succ, sumP_cons, sumP_rare n]
    have : partsI (-1) = 1 := rfl
    rw [this]; omega
theorem may_rare {k : Nat} (h5 : 5 ≤ k) (h8 : k ≤ 8) : May k (List.replicate (2 ^ k) (-1)) := by
  have hp := Nat.two_pow_pos k
  have hp8 : 2 ^ k ≤ 2 ^ 8 := Nat.pow_le_pow_right (by omega) h8
  refine ⟨h5, by omega, by simp; omega, by simp; omega, ?_, ?_, ?_⟩
  · intro h
    have := List.mem_of_getLast? h
    have := List.eq_of_mem_replicate this
    omega
  · intro p hp'
    rw [List.eq_of_mem_replicate hp']; omega
  · rw [sumP_rare]; simp
end Go.Pu
