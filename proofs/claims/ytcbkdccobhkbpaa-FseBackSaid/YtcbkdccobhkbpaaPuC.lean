/- Plain laws: bits of bytes, and the numbers that they are. -/
import Derived.Test.YtcbkdccobhkbpaaEnStr
import Derived.Test.YtcbkdccobhkbpaaPuF
namespace Go.Pu
open Go Go.En
set_option linter.unusedVariables false

/-- bits of bytes, the lowest of each first -/
def bits8 (c : UInt8) : List Bool := (List.range 8).map c.toNat.testBit
def bitsB : List UInt8 → List Bool
  | [] => []
  | c :: l => bits8 c ++ bitsB l
def numB : List Bool → Nat
  | [] => 0
  | b :: l => b.toNat + 2 * numB l

theorem bits8_length (c : UInt8) : (bits8 c).length = 8 := by simp [bits8]
theorem bitsB_length : ∀ l : List UInt8, (bitsB l).length = 8 * l.length
  | [] => rfl
  | c :: l => by rw [bitsB, List.length_append, bits8_length, bitsB_length l, List.length_cons]; omega
theorem bitsB_append : ∀ a b : List UInt8, bitsB (a ++ b) = bitsB a ++ bitsB b
  | [], b => rfl
  | c :: a, b => by rw [List.cons_append, bitsB, bitsB, bitsB_append a b, List.append_assoc]
theorem bits8_get (c : UInt8) {k : Nat} (h : k < 8) : (bits8 c)[k]? = some (c.toNat.testBit k) := by
  unfold bits8
  rw [List.getElem?_map, List.getElem?_range h]; rfl
theorem bitsB_get : ∀ (l : List UInt8) (i : Nat) (h : i < 8 * l.length), (bitsB l)[i]? = some ((l[i / 8]'(by omega)).toNat.testBit (i % 8))
  | [], i, h => by simp at h
  | c :: l, i, h => by
    rw [bitsB]
    rcases Nat.lt_or_ge i 8 with h8 | h8
    · rw [List.getElem?_append_left (by rw [bits8_length]; exact h8), bits8_get c h8]
      have e : i / 8 = 0 := by omega
      have e2 : i % 8 = i := by omega
      simp [e, e2]
    · rw [List.getElem?_append_right (by rw [bits8_length]; exact h8), bits8_length, bitsB_get l (i - 8) (by simp at h; omega)]
      have e : i / 8 = (i - 8) / 8 + 1 := by omega
      have e2 : (i - 8) % 8 = i % 8 := by omega
      simp [e, e2]

theorem numB_lt : ∀ l : List Bool, numB l < 2 ^ l.length
  | [] => by simp [numB]
  | b :: l => by
    have := numB_lt l
    rw [numB, List.length_cons, Nat.pow_succ]
    have : b.toNat ≤ 1 := Bool.toNat_le b
    omega
theorem numB_append : ∀ a b : List Bool, numB (a ++ b) = numB a + 2 ^ a.length * numB b
  | [], b => by simp [numB]
  | x :: a, b => by
    rw [List.cons_append, numB, numB, numB_append a b, List.length_cons, Nat.pow_succ, Nat.mul_add, ← Nat.mul_assoc, ← Nat.add_assoc, Nat.mul_comm 2 (2 ^ a.length)]
theorem numB_snoc (a : List Bool) (x : Bool) : numB (a ++ [x]) = numB a + 2 ^ a.length * x.toNat := by
  rw [numB_append]; simp [numB]

/-- the bits of a number -/
def bitsN (x : Nat) (n : Nat) : List Bool := (List.range n).map x.testBit
theorem bitsN_length (x n : Nat) : (bitsN x n).length = n := by simp [bitsN]
theorem bitsN_zero (x : Nat) : bitsN x 0 = [] := rfl
theorem bitsN_succ (x n : Nat) : bitsN x (n + 1) = bitsN x n ++ [x.testBit n] := by
  unfold bitsN; rw [List.range_succ, List.map_append]; rfl
theorem bitsN_cons (x n : Nat) : bitsN x (n + 1) = x.testBit 0 :: bitsN (x / 2) n := by
  unfold bitsN
  rw [List.range_succ_eq_map, List.map_cons, List.map_map]
  congr 1
  apply List.map_congr_left
  intro k _
  simp [Nat.testBit_succ]
theorem numB_bitsN : ∀ (n x : Nat), numB (bitsN x n) = x % 2 ^ n
  | 0, x => by simp [bitsN, numB, Nat.mod_one]
  | n + 1, x => by
    rw [bitsN_cons, numB, numB_bitsN n (x / 2), Nat.pow_succ, Nat.mul_comm (2 ^ n) 2, Nat.mod_mul]
    congr 1
    rw [Nat.testBit_zero]
    have : x % 2 = 0 ∨ x % 2 = 1 := by omega
    rcases this with h | h <;> simp [h]

theorem or_low {x i : Nat} (h : x < 2 ^ i) (b : Nat) : x ||| (b * 2 ^ i) = x + 2 ^ i * b := by
  rw [Nat.or_comm, Nat.mul_comm b, ← Nat.two_pow_add_eq_or_of_lt h b, Nat.add_comm]

theorem orI_nat {a b : Nat} (ha : a < 2 ^ 64) (hb : b < 2 ^ 64) : orI .u64 (a : Int) (b : Int) = ((a ||| b : Nat) : Int) := by
  have h := Nat.or_lt_two_pow ha hb
  unfold orI
  have e : IntKind.u64.bits = 64 := rfl
  rw [e, BitVec.ofInt_natCast, BitVec.ofInt_natCast, BitVec.toNat_or, BitVec.toNat_ofNat, BitVec.toNat_ofNat, Nat.mod_eq_of_lt ha, Nat.mod_eq_of_lt hb]
  exact w_u64 (by omega) (by have : ((a ||| b : Nat) : Int) < ((2 ^ 64 : Nat) : Int) := by exact_mod_cast h
                             omega)
theorem orI_nat8 {a b : Nat} (ha : a < 2 ^ 8) (hb : b < 2 ^ 8) : orI .u8 (a : Int) (b : Int) = ((a ||| b : Nat) : Int) := by
  have h := Nat.or_lt_two_pow ha hb
  unfold orI
  have e : IntKind.u8.bits = 8 := rfl
  rw [e, BitVec.ofInt_natCast, BitVec.ofInt_natCast, BitVec.toNat_or, BitVec.toNat_ofNat, BitVec.toNat_ofNat, Nat.mod_eq_of_lt ha, Nat.mod_eq_of_lt hb]
  exact w_u8 (by omega) (by have : ((a ||| b : Nat) : Int) < ((2 ^ 8 : Nat) : Int) := by exact_mod_cast h
                            omega)
theorem and1_u8 {a : Nat} (h : a < 2 ^ 8) : andI .u8 (a : Int) 1 = ((a % 2 : Nat) : Int) := by
  have : ∀ k : Fin 256, andI .u8 (k.val : Int) 1 = ((k.val % 2 : Nat) : Int) := by decide +kernel
  exact this ⟨a, h⟩
theorem and1_u64 {a : Nat} (h : a < 2 ^ 64) : andI .u64 (a : Int) 1 = ((a % 2 : Nat) : Int) := by
  unfold andI
  have e : IntKind.u64.bits = 64 := rfl
  rw [e, BitVec.ofInt_natCast, show (BitVec.ofInt 64 1) = BitVec.ofNat 64 1 from rfl, BitVec.toNat_and, BitVec.toNat_ofNat, BitVec.toNat_ofNat, Nat.mod_eq_of_lt h, show 1 % 2 ^ 64 = 1 from rfl, Nat.and_one_is_mod]
  exact w_u64 (by omega) (by omega)
theorem toNat_bit (x k : Nat) : (x.testBit k).toNat = x / 2 ^ k % 2 := by
  rw [Nat.testBit_eq_decide_div_mod_eq]
  have : x / 2 ^ k % 2 = 0 ∨ x / 2 ^ k % 2 = 1 := by omega
  rcases this with h | h <;> simp [h]

/-- the last bits of a row, as one number; those that lack are noughts -/
def lastN (L : List Bool) (n : Nat) : Nat := numB (L.drop (L.length - min n L.length)) * 2 ^ (n - min n L.length)
theorem lastN_lt (L : List Bool) (n : Nat) : lastN L n < 2 ^ n := by
  unfold lastN
  have h := numB_lt (L.drop (L.length - min n L.length))
  rw [List.length_drop, show L.length - (L.length - min n L.length) = min n L.length from by omega] at h
  calc _ < 2 ^ min n L.length * 2 ^ (n - min n L.length) := Nat.mul_lt_mul_of_pos_right h (Nat.two_pow_pos _)
    _ = 2 ^ n := by rw [← Nat.pow_add]; congr 1; omega

theorem take_succ_get {L : List Bool} {at' i : Nat} {b : Bool} (h : L[at' + i]? = some b) : (L.drop at').take (i + 1) = (L.drop at').take i ++ [b] := by
  rw [List.take_add_one, List.getElem?_drop, h]; rfl

/-- where the bits end that are read from the back -/
def endB (l : List UInt8) : Option Nat := match l.getLast? with
  | none => none
  | some c => if c.toNat = 0 then none else some (8 * (l.length - 1) + bl c.toNat - 1)
theorem endB_nil : endB [] = none := rfl
theorem endB_last {l : List UInt8} (h : 0 < l.length) : endB l = if (l[l.length - 1]'(by omega)).toNat = 0 then none else some (8 * (l.length - 1) + bl (l[l.length - 1]'(by omega)).toNat - 1) := by
  unfold endB
  rw [List.getLast?_eq_getElem?, List.getElem?_eq_getElem (by omega)]
theorem endB_some {l : List UInt8} {k : Nat} (h : endB l = some k) : 0 < l.length ∧ k < 8 * l.length ∧ 8 * (l.length - 1) ≤ k ∧ (bitsB l)[k]? = some true ∧ ∀ j, k < j → j < 8 * l.length → (bitsB l)[j]? = some false := by
  have h0 : 0 < l.length := by
    cases l with
    | nil => simp [endB] at h
    | cons x l => simp
  rw [endB_last h0] at h
  generalize hc : l[l.length - 1]'(by omega) = c at h
  split at h
  · cases h
  · rename_i hne
    have hk := Option.some.inj h
    have h1 := bl_pos hne
    have h2 : bl c.toNat ≤ 8 := bl_le_of (by have : c.toNat < 256 := UInt8.toNat_lt c
                                             omega)
    have h3 := bl_le hne
    have h4 := bl_lt c.toNat
    refine ⟨h0, by omega, by omega, ?_, ?_⟩
    · rw [bitsB_get l k (by omega)]
      have e : k / 8 = l.length - 1 := by omega
      have e2 : k % 8 = bl c.toNat - 1 := by omega
      simp only [e, hc, e2]
      rw [Nat.testBit_eq_decide_div_mod_eq]
      obtain ⟨m, hm⟩ : ∃ m, bl c.toNat = m + 1 := ⟨bl c.toNat - 1, by omega⟩
      rw [hm, Nat.add_sub_cancel] at h3 ⊢
      rw [hm, Nat.pow_succ] at h4
      have : c.toNat / 2 ^ m = 1 := by
        have hp := Nat.two_pow_pos m
        have := (Nat.le_div_iff_mul_le hp).2 (show 1 * 2 ^ m ≤ c.toNat by omega)
        have := (Nat.div_lt_iff_lt_mul hp).2 (show c.toNat < 2 * 2 ^ m by omega)
        omega
      simp [this]
    · intro j h5 h6
      rw [bitsB_get l j h6]
      have e : j / 8 = l.length - 1 := by omega
      simp only [e, hc]
      rw [Nat.testBit_lt_two_pow]
      exact Nat.lt_of_lt_of_le h4 (Nat.pow_le_pow_right (by omega) (by omega))
end Go.Pu
/- Plain laws: bits written. -/
namespace Go.Pu
open Go Go.En
set_option linter.unusedVariables false

/-- bytes that hold a row of bits, filled up with noughts -/
structure Held (B : List Bool) (l : List UInt8) : Prop where
  len : l.length = (B.length + 7) / 8
  bits : bitsB l = B ++ List.replicate (8 * l.length - B.length) false

theorem held_nil : Held [] [] := ⟨rfl, rfl⟩
theorem bits8_zero : bits8 0 = List.replicate 8 false := by decide

/-- room for one more bit -/
theorem held_room {B : List Bool} {l : List UInt8} (h : Held B l) (h8 : B.length % 8 = 0) : bitsB (l ++ [0]) = B ++ List.replicate (8 * (l.length + 1) - B.length) false ∧ (l ++ [(0 : UInt8)]).length = (B.length + 1 + 7) / 8 := by
  have hl := h.len
  refine ⟨?_, by rw [List.length_append, List.length_singleton]; omega⟩
  rw [bitsB_append, h.bits, bitsB, bitsB, bits8_zero, List.append_nil, List.append_assoc]
  congr 1
  rw [show 8 * l.length - B.length = 0 from by omega, show 8 * (l.length + 1) - B.length = 8 from by omega]
  rfl

theorem bits8_or (c : UInt8) (r : Nat) (hr : r < 8) (y : Bool) (h : c.toNat.testBit r = false) : bits8 (UInt8.ofNat (c.toNat + 2 ^ r * y.toNat)) = (bits8 c).set r y ∧ c.toNat + 2 ^ r * y.toNat < 256 ∧ c.toNat ||| (y.toNat * 2 ^ r) = c.toNat + 2 ^ r * y.toNat := by
  have key : ∀ (c : Fin 256) (r : Fin 8) (y : Bool), c.val.testBit r.val = false → bits8 (UInt8.ofNat (c.val + 2 ^ r.val * y.toNat)) = (bits8 (UInt8.ofNat c.val)).set r.val y ∧ c.val + 2 ^ r.val * y.toNat < 256 ∧ c.val ||| (y.toNat * 2 ^ r.val) = c.val + 2 ^ r.val * y.toNat := by decide +kernel
  have := key ⟨c.toNat, UInt8.toNat_lt c⟩ ⟨r, hr⟩ y h
  simpa using this

theorem bitsB_set : ∀ (l : List UInt8) (i r : Nat) (c : UInt8) (y : Bool) (hi : i < l.length), r < 8 → bits8 c = (bits8 l[i]).set r y → bitsB (l.set i c) = (bitsB l).set (8 * i + r) y
  | [], i, r, c, y, hi, hr, h => by simp at hi
  | x :: l, 0, r, c, y, hi, hr, h => by
    rw [List.set_cons_zero, bitsB, bitsB, h, List.set_append_left _ _ (by rw [bits8_length]; omega)]
    simp
  | x :: l, i + 1, r, c, y, hi, hr, h => by
    rw [List.set_cons_succ, bitsB, bitsB, List.set_append_right _ _ (by rw [bits8_length]; omega), bits8_length, bitsB_set l i r c y (by simpa using hi) hr (by simpa using h)]
    congr 2
    omega

/-- one more bit -/
theorem held_set {B : List Bool} {l : List UInt8} {y : Bool} (hb : bitsB l = B ++ List.replicate (8 * l.length - B.length) false) (hl : l.length = (B.length + 1 + 7) / 8) :
    ∃ hi : B.length / 8 < l.length, Held (B ++ [y]) (l.set (B.length / 8) (UInt8.ofNat ((l[B.length / 8]'hi).toNat + 2 ^ (B.length % 8) * y.toNat))) ∧
      (l[B.length / 8]'hi).toNat + 2 ^ (B.length % 8) * y.toNat < 256 ∧ (l[B.length / 8]'hi).toNat ||| (y.toNat * 2 ^ (B.length % 8)) = (l[B.length / 8]'hi).toNat + 2 ^ (B.length % 8) * y.toNat := by
  have hi : B.length / 8 < l.length := by omega
  have hbit := bitsB_get l B.length (by omega)
  rw [hb, List.getElem?_append_right (Nat.le_refl _), Nat.sub_self, List.getElem?_replicate, if_pos (by omega)] at hbit
  have hbit := (Option.some.inj hbit).symm
  obtain ⟨h1, h2, h3⟩ := bits8_or _ (B.length % 8) (by omega) y hbit
  refine ⟨hi, ⟨?_, ?_⟩, h2, h3⟩
  · rw [List.length_set, List.length_append, List.length_singleton]; exact hl
  · rw [bitsB_set l _ (B.length % 8) _ y hi (by omega) h1, hb, show 8 * (B.length / 8) + B.length % 8 = B.length from by omega, List.set_append_right _ _ (Nat.le_refl _), Nat.sub_self, List.length_set, List.length_append, List.length_singleton, List.append_assoc]
    congr 1
    rw [show 8 * l.length - B.length = (8 * l.length - (B.length + 1)) + 1 from by omega, List.replicate_succ, List.set_cons_zero]
    rfl

/-- closed by a bit that is set, they end there -/
theorem held_end {B : List Bool} {l : List UInt8} (h : Held (B ++ [true]) l) : endB l = some B.length ∧ (bitsB l).take B.length = B := by
  have hl := h.len
  have hb := h.bits
  rw [List.length_append, List.length_singleton] at hl hb
  have h0 : 0 < l.length := by omega
  have htop : (bitsB l)[B.length]? = some true := by
    rw [hb, List.append_assoc, List.getElem?_append_right (Nat.le_refl _), Nat.sub_self]; rfl
  have hoff : ∀ j, B.length < j → j < 8 * l.length → (bitsB l)[j]? = some false := by
    intro j h1 h2
    rw [hb, List.append_assoc, List.getElem?_append_right (by omega), List.singleton_append, List.getElem?_cons, if_neg (by omega), List.getElem?_replicate, if_pos (by omega)]
  refine ⟨?_, by rw [hb, List.append_assoc, List.take_left']; rfl⟩
  cases he : endB l with
  | none =>
    rw [endB_last h0] at he
    split at he
    · rename_i hz
      rw [bitsB_get l _ (by omega)] at htop
      have e : B.length / 8 = l.length - 1 := by omega
      simp only [e, hz] at htop
      simp at htop
    · cases he
  | some k =>
    obtain ⟨_, h1, _, h2, h3⟩ := endB_some he
    rcases Nat.lt_trichotomy k B.length with h | h | h
    · rw [h3 _ h (by omega)] at htop; simp at htop
    · rw [h]
    · rw [hoff _ h h1] at h2; simp at h2

theorem numB_inj {x n : Nat} (h : x < 2 ^ n) : numB (bitsN x n) = x := by rw [numB_bitsN, Nat.mod_eq_of_lt h]
theorem lastN_bits {B : List Bool} {x n : Nat} (h : x < 2 ^ n) : lastN (B ++ bitsN x n) n = x := by
  unfold lastN
  rw [List.length_append, bitsN_length, show min n (B.length + n) = n from by omega, Nat.sub_self, Nat.add_sub_cancel, List.drop_left, numB_inj h]; simp
end Go.Pu
/- Plain laws: symbols written as states, one behind the other. -/
namespace Go.Pu
open Go Go.En
set_option linter.unusedVariables false

/-- from a state the bits tell just these symbols; the last bits of the row are read first -/
inductive Chain (L : List (Int × Int × Int)) : List Int → Nat → List Bool → Prop
  | one {s : Nat} {e : Int × Int × Int} : L[s]? = some e → Chain L [e.1] s []
  | cons {s : Nat} {e : Int × Int × Int} {n x s' : Nat} {rest : List Int} {B : List Bool} : L[s]? = some e → e.2.1 = n → x < 2 ^ n → e.2.2 + (x : Int) = (s' : Int) → Chain L rest s' B → Chain L (e.1 :: rest) s (B ++ bitsN x n)

theorem Chain.lt {L : List (Int × Int × Int)} {l : List Int} {s : Nat} {B : List Bool} (h : Chain L l s B) : s < L.length := by
  have aux : ∀ {e : Int × Int × Int}, L[s]? = some e → s < L.length := fun {e} h => by
    rcases Nat.lt_or_ge s L.length with h' | h'
    · exact h'
    · rw [List.getElem?_eq_none h'] at h; cases h
  cases h with
  | one h => exact aux h
  | cons h _ _ _ _ => exact aux h
theorem Chain.get {L : List (Int × Int × Int)} {l : List Int} {s : Nat} {B : List Bool} (h : Chain L l s B) : ∃ y rest e, l = y :: rest ∧ L[s]? = some e ∧ e.1 = y := by
  cases h with
  | one h => exact ⟨_, _, _, rfl, h, rfl⟩
  | cons h _ _ _ _ => exact ⟨_, _, _, rfl, h, rfl⟩
/-- one step -/
theorem Chain.step {L : List (Int × Int × Int)} {y z : Int} {l : List Int} {s : Nat} {B : List Bool} (h : Chain L (y :: z :: l) s B) :
    ∃ (e : Int × Int × Int) (n x s' : Nat) (B' : List Bool), L[s]? = some e ∧ e.2.1 = n ∧ x < 2 ^ n ∧ e.2.2 + (x : Int) = (s' : Int) ∧ B = B' ++ bitsN x n ∧ Chain L (z :: l) s' B' := by
  cases h with
  | cons h1 h2 h3 h4 h5 => exact ⟨_, _, _, _, _, h1, h2, h3, h4, rfl, h5⟩
theorem Chain.one_nil {L : List (Int × Int × Int)} {y : Int} {s : Nat} {B : List Bool} (h : Chain L [y] s B) : B = [] := by
  cases h with
  | one h => rfl
  | cons _ _ _ _ h => cases h
end Go.Pu
