/- Parts of the proof of WeightsReads: merged and given short names by a program of ours. -/
import Derived.WalkKit
import Derived.ProofKit
import Derived.OpenShut
import Derived.Deep.Matrix
import Derived.Test.YtoepfjgekpdddaaZC
namespace Go.Proofs.Ytoepfjgekpdddaa
open Go Go.En Go.Pu
set_option maxRecDepth 4000
set_option linter.unusedSimpArgs false
set_option linter.unusedVariables false
theorem WS {left : Nat} (h0 : 0 < left) (h1 : left ≤ 32768) : ∃ m, bl (left + 1) = m + 1 ∧ 1 ≤ m ∧ m ≤ 16 ∧ left + 1 < 2 ^ (m + 1) ∧ 2 ^ m ≤ left + 1 ∧ 2 ^ (m + 1) = 2 * 2 ^ m := by
  have hb2 := Q5 (k := left + 1) (by omega)
  have hb3 := MM (left + 1)
  have hb4 := lR (k := left + 1) (n := 17) (by omega)
  have hn : 2 ≤ bl (left + 1) := by
    rcases Nat.lt_or_ge (bl (left + 1)) 2 with h | h
    · have hb1 := Hb (k := left + 1) (by omega)
      have : bl (left + 1) = 1 := by omega
      rw [this] at hb3; omega
    · exact h
  obtain ⟨m, hm⟩ : ∃ m, bl (left + 1) = m + 1 := ⟨bl (left + 1) - 1, by omega⟩
  rw [hm] at hb2 hb3 hb4 hn ⊢
  exact ⟨m, rfl, by omega, by omega, hb3, hb2, by rw [Nat.pow_succ, Nat.mul_comm]⟩
theorem X1 (L : List Bool) (f st : Nat) : Wp L (f + 1) st = if L.length < st + 2 then none else if jG L st 2 < 3 then some (jG L st 2, st + 2) else match Wp L f (st + 2) with
    | none => none
    | some (k, st') => some (3 + k, st') := by rw [Wp]; rfl
def ahA (w : World) (lo hi : Nat) (l : List UInt8) (o : Option (Nat × Nat)) (r : Value) : Prop := match o with
  | none => r = .tuple #[.int .i64 0, .int .i64 10]
  | some (v, st) => r = .tuple #[.int .i64 v, .int .i64 0] ∧ YR w lo hi l st
theorem agG {l : List UInt8} {lo hi st left : Nat} {w : World} (h : YR w lo hi l st) (hlh : lo ≤ hi) (hst : st ≤ 8 * l.length) (hl : l.length ≤ 1000000) (h0 : 0 < left) (h1 : left ≤ 32768) :
    cC pg AT #[.pointer (some ⟨hi, 0, none⟩), .int .i64 left] w (fun r w' => ahA w' lo hi l (P0 (bS l) st left) r ∧ bZ w w' (fun y => y = hi)) := by
  refine Pm ?_
  obtain ⟨m, hm, hm1, hm2, hf1, hf2, hf3⟩ := WS h0 h1
  unfold PY Dv
  have e1 : (left : Int) + 1 = ((left + 1 : Nat) : Int) := by omega
  simp (disch := omega) only [aD, bY, e1, bD, aB, fZ, lF]
  refine (Yt (x := left + 1) (by omega) w).mono ?_
  rintro r w1 ⟨rfl, rfl⟩
  rw [hm]
  have e2 : ((m + 1 : Nat) : Int) - 1 = (m : Int) := by omega
  simp (disch := omega) only [dY, e2, bD, lH, Int.toNat_natCast, aB]
  refine (LQ (n := m) h hlh (by omega) hst hl).mono ?_
  have hbl := gS l
  unfold P0
  simp only [hm, Nat.add_sub_cancel]
  rintro r w2 (⟨hsh, rfl, hf, x2⟩ | ⟨hsh, rfl, hf, x2⟩)
  · have n1 : ((10 : Int) != 0) = true := rfl
    rw [if_pos (by omega)]
    simp (disch := omega) only [vU, wU, aB, fP, n1, aK]
    exact ⟨rfl, x2.mono fun _ _ h => h.elim⟩
  · have n1 : ((0 : Int) != 0) = false := rfl
    rw [if_neg (by omega)]
    have hlt := zQ (bS l) st m
    have hnum : qC (((bS l).drop st).take m) = jG (bS l) st m := rfl
    rw [hnum]
    have hsh1 := Ww (n := m + 1) (by omega)
    have hsh0 := Ww (n := m) (by omega)
    have hp : 2 ^ m ≤ 2 ^ 16 := Nat.pow_le_pow_right (by omega) hm2
    generalize jG (bS l) st m = low at *
    rw [hf3] at *
    generalize hq : 2 ^ m = q at *
    have e3 : ((2 * q : Nat) : Int) - 2 - (left : Int) = ((2 * q - 2 - left : Nat) : Int) := by omega
    by_cases hfr : low < 2 * q - 2 - left
    · have d1 : decide ((low : Int) < ((2 * q - 2 - left : Nat) : Int)) = true := by simp only [decide_eq_true_eq]; omega
      rw [if_pos hfr]
      simp (disch := omega) only [vU, wU, hsh1, bD, e3, aB, fP, n1, aJ, gN, bY, dY, bN, d1, aK]
      exact ⟨⟨rfl, hf⟩, x2⟩
    · have d1 : decide ((low : Int) < ((2 * q - 2 - left : Nat) : Int)) = false := by simp only [decide_eq_false_iff_not]; omega
      rw [if_neg hfr]
      simp (disch := omega) only [vU, wU, hsh1, bD, e3, aB, fP, n1, aJ, gN, bY, dY, bN, d1]
      refine (LQ (n := 1) hf hlh (by omega) hsh hl).mono ?_
      rintro r w3 (⟨hs3, rfl, hf3, x3⟩ | ⟨hs3, rfl, hf3, x3⟩)
      · have n1 : ((10 : Int) != 0) = true := rfl
        rw [if_pos (by omega)]
        simp (disch := omega) only [vU, wU, aB, fP, n1, aK]
        exact ⟨rfl, x2.seq (x3.mono fun _ _ h => h.elim)⟩
      · rw [if_neg (by omega)]
        have hnum : qC (((bS l).drop (st + m)).take 1) = jG (bS l) (st + m) 1 := rfl
        rw [hnum]
        by_cases hz : jG (bS l) (st + m) 1 = 0
        · have n2 : (((jG (bS l) (st + m) 1 : Nat) : Int) == 0) = true := by rw [hz]; rfl
          rw [if_pos hz]
          simp (disch := omega) only [vU, wU, aB, fP, n1, aJ, gY, n2, aK]
          exact ⟨⟨rfl, hf3⟩, x2.seq x3⟩
        · have n2 : (((jG (bS l) (st + m) 1 : Nat) : Int) == 0) = false := beq_eq_false_iff_ne.2 (by omega)
          have e4 : (low : Int) + (q : Int) - ((2 * q - 2 - left : Nat) : Int) = ((low + q - (2 * q - 2 - left) : Nat) : Int) := by omega
          rw [if_neg hz]
          simp (disch := omega) only [vU, wU, hsh0, e4, aB, fP, n1, aJ, gY, n2]
          exact ⟨⟨rfl, hf3⟩, x2.seq x3⟩
theorem aaZ {l : List UInt8} {lo hi st : Nat} {w : World} (h : YR w lo hi l st) (hlh : lo ≤ hi) (hst : st ≤ 8 * l.length) (hl : l.length ≤ 1000000) :
    cC pg tC #[.pointer (some ⟨hi, 0, none⟩)] w (fun r w' => ahA w' lo hi l (Wp (bS l) ((bS l).length + 1) st) r ∧ bZ w w' (fun y => y = hi)) := by
  refine MA ?_
  have hbl := gS l
  unfold LB yB A5 rH Aj yX rC Aw AQ
  refine cV.rule (fun m (t : Value) w' => ∃ k0 st' : Nat, t = .int .i64 k0 ∧ Wp (bS l) ((bS l).length + 1) st = (match Wp (bS l) m st' with | none => none | some (k, s) => some (k0 + k, s)) ∧ (bS l).length < 2 * m + st' ∧ st' ≤ 8 * l.length ∧ k0 ≤ 3 * st' ∧ YR w' lo hi l st' ∧ bZ w w' (fun y => y = hi)) ((bS l).length + 1)
    ⟨0, st, rfl, by cases Wp (bS l) ((bS l).length + 1) st with
      | none => rfl
      | some x => simp, by omega, hst, by omega, h, bZ.refl _ _⟩ ?_
  rintro m t w1 ⟨k0, st', rfl, hr, hm, hs', hk0, hf, x1⟩
  obtain ⟨m, rfl⟩ : ∃ m', m = m' + 1 := ⟨m - 1, by omega⟩
  unfold qW
  refine (LQ (n := 2) hf hlh (by omega) hs' hl).mono ?_
  rw [X1 (bS l) m st'] at hr
  rintro r w2 (⟨hsh, rfl, hf2, x2⟩ | ⟨hsh, rfl, hf2, x2⟩)
  · have n1 : ((10 : Int) != 0) = true := rfl
    rw [if_pos (by omega)] at hr
    rw [hr]
    simp (disch := omega) only [aD, vU, wU, aB, fP, n1, aK]
    exact ⟨rfl, x1.seq (x2.mono fun _ _ h => h.elim)⟩
  · have n1 : ((0 : Int) != 0) = false := rfl
    rw [if_neg (by omega)] at hr
    have hlt := zQ (bS l) st' 2
    have hnum : qC (((bS l).drop st').take 2) = jG (bS l) st' 2 := rfl
    rw [hnum]
    generalize jG (bS l) st' 2 = x at *
    have e1 : (k0 : Int) + (x : Int) = ((k0 + x : Nat) : Int) := by omega
    by_cases h3 : x < 3
    · have d1 : decide ((x : Int) < 3) = true := by simp; omega
      rw [if_pos h3] at hr
      rw [hr]
      unfold rK
      simp (disch := omega) only [aD, vU, wU, aB, fP, n1, aJ, gN, bD, bN, d1, aK, bY, e1]
      exact ⟨⟨rfl, hf2⟩, x1.seq x2⟩
    · have d1 : decide ((x : Int) < 3) = false := by simp; omega
      rw [if_neg h3] at hr
      simp (disch := omega) only [aD, vU, wU, aB, fP, n1, aJ, gN, bD, bN, d1, bY, e1]
      refine ⟨m, by omega, k0 + x, st' + 2, rfl, ?_, by omega, by omega, by omega, hf2, x1.seq x2⟩
      rw [hr]
      cases Wp (bS l) m (st' + 2) with
      | none => rfl
      | some y =>
        obtain ⟨k, s⟩ := y
        have : x = 3 := by omega
        subst this
        simp; omega
def ZH (v : Value) (o : Option (Nat × Nat)) (r : Value) : Prop := match o with
  | none => ∃ st' : Nat, r = .tuple #[.agg #[v, .int .i64 st'], .int .i64 0, .int .i64 10]
  | some (x, st) => r = .tuple #[.agg #[v, .int .i64 st], .int .i64 x, .int .i64 0]
theorem abP {v : Value} {L : List Bool} {st left : Nat} {w : World} (hs : Bl w v L) (hst : st ≤ L.length) (hl : L.length ≤ 10000000) (h0 : 0 < left) (h1 : left ≤ 32768) :
    cC pg DK #[.agg #[v, .int .i64 st], .int .i64 left] w (fun r w' => ZH v (P0 L st left) r ∧ bZ w w' fN) := by
  refine Um ?_
  obtain ⟨m, hm, hm1, hm2, hf1, hf2, hf3⟩ := WS h0 h1
  obtain ⟨a, c, rfl, hc⟩ := Br hs
  unfold VX Gr
  refine kT fun w1 o1 x1 s1 => ?_
  refine sF fun w2 o2 x2 s2 => ?_
  simp only [Value.cells] at o1
  have o1 := o1.ext x2 (fun h => h)
  have l1 := eU (off := 0) o1 (by simp)
  simp only [List.drop_zero, List.take_succ_cons, List.take_zero] at l1
  have x02 : bZ w w2 fN := x1.seq x2
  have e1 : (left : Int) + 1 = ((left + 1 : Nat) : Int) := by omega
  have hw1 : w.heap.size ≤ w.heap.size := Nat.le_refl _
  have hw2 : w.heap.size ≤ w1.heap.size := x1.size
  have hne : w.heap.size ≠ w1.heap.size := by omega
  obtain ⟨p1, hp1⟩ : ∃ p1, p1 = w.heap.size := ⟨_, rfl⟩
  obtain ⟨p2, hp2⟩ : ∃ p2, p2 = w1.heap.size := ⟨_, rfl⟩
  rw [← hp1, ← hp2] at hne
  rw [← hp1] at o1 l1 ⊢
  rw [← hp2] at o2 hw2 ⊢
  simp (disch := omega) only [aD, bY, e1, bD, aB]
  refine (afS (x := left + 1) (by omega) w2).mono ?_
  rintro r w3 ⟨rfl, rfl⟩
  rw [hm]
  have e2 : ((m + 1 : Nat) : Int) - 1 = (m : Int) := by omega
  simp (disch := omega) only [l1, dY, e2, bD, aB]
  unfold P0
  simp only [hm, Nat.add_sub_cancel]
  refine (LX (n := m) (hs.ext x02 (eI _)) (by omega) hst hl).mono ?_
  have fin : ∀ (st' : Nat) (xv : Int) (ev : Int) (w' : World) (RR : Value → World → Prop), fA w' p1 [.slice a L.length c, .int .i64 st'] → fA w' p2 [.slice none 0 0, .int .i64 0] → bZ w w' fN →
      (∀ w'', bZ w w'' fN → RR (.tuple #[.agg #[.slice a L.length c, .int .i64 st'], .int .i64 xv, .int .i64 ev]) w'') →
      aD pg (aW 121 (.pointer (some ⟨p1, 0, none⟩))) w' fun t15 w => aD pg (cB 121 (.pointer (some ⟨p2, 0, none⟩)) t15) w fun _u w => F1 pg 121 (.pointer (some ⟨p2, 0, none⟩)) w fun r0 => RR (.tuple #[r0, .int .i64 xv, .int .i64 ev]) w := by
    intro st' xv ev w' RR q1 q2 qx qk
    have l1 := eU (off := 0) q1 (by simp)
    simp only [List.drop_zero, List.take_succ_cons, List.take_zero] at l1
    simp (disch := omega) only [aD, l1, aB]
    refine cS q2 rfl (by simp [one]) (by simp) fun w6 o6 x6 s6 => ?_
    refine jA o6 (by simp [cY]) ?_
    simp only [cY, List.set_cons_zero, List.set_cons_succ, List.drop_zero, List.take_succ_cons, List.take_zero]
    exact qk _ (qx.new x6 hw2)
  have hx1 : w.heap.size ≤ p1 := by omega
  rintro r w4 ⟨⟨hsh, rfl⟩ | ⟨hsh, rfl⟩, x4⟩
  · have n1 : ((10 : Int) != 0) = true := rfl
    rw [if_pos (by omega)]
    simp (disch := omega) only [UU, UY, Ul, aB, fP, gN, bD]
    refine cS (o1.ext x4 (fun h => h)) rfl (by simp [one]) (by simp) fun w5 o5 x5 s5 => ?_
    simp only [cY, List.set_cons_zero, List.set_cons_succ] at o5
    simp (disch := omega) only [n1, aK]
    exact fin st 0 10 w5 (fun r w' => ZH (.slice a L.length c) none r ∧ bZ w w' fN) o5 ((o2.ext x4 (fun h => h)).ext x5 (by omega)) ((x02.seq x4).new x5 hx1) fun w6 x6 => ⟨⟨_, rfl⟩, x6⟩
  · have n1 : ((0 : Int) != 0) = false := rfl
    rw [if_neg (by omega)]
    have hlt := zQ L st m
    have hsh1 : m + 1 ≤ 40 := by omega
    have hp : 2 ^ m ≤ 2 ^ 16 := Nat.pow_le_pow_right (by omega) hm2
    simp (disch := omega) only [UU, UY, Ul, aB, fP, gN, bD]
    refine cS (o1.ext x4 (fun h => h)) rfl (by simp [one]) (by simp) fun w5 o5 x5 s5 => ?_
    simp only [cY, List.set_cons_zero, List.set_cons_succ] at o5
    have x05 : bZ w w5 fN := (x02.seq x4).new x5 hx1
    have o25 := (o2.ext x4 (fun h => h)).ext x5 (by omega)
    simp (disch := omega) only [n1, aJ]
    refine (Cq m (by omega) _).mono ?_
    rintro r w6 ⟨rfl, rfl⟩
    have hpow : ((2 ^ m : Nat) : Int) = (2 : Int) ^ m := by simp
    rw [← hpow]
    generalize jG L st m = low at *
    rw [hf3] at *
    generalize hq : 2 ^ m = q at *
    have e3 : 2 * (q : Int) - 2 - (left : Int) = ((2 * q - 2 - left : Nat) : Int) := by omega
    by_cases hfr : low < 2 * q - 2 - left
    · have d1 : decide ((low : Int) < ((2 * q - 2 - left : Nat) : Int)) = true := by simp only [decide_eq_true_eq]; omega
      rw [if_pos hfr]
      have l5 := eU (off := 0) o5 (by simp)
      simp only [List.drop_zero, List.take_succ_cons, List.take_zero] at l5
      simp (disch := omega) only [qB, bD, bY, aB, dY, e3, bN, d1, l5, aK]
      refine cS o25 rfl (by simp [one]) (by simp) fun w7 o7 x7 s7 => ?_
      refine jA o7 (by simp [cY]) ?_
      simp only [cY, List.set_cons_zero, List.set_cons_succ, List.drop_zero, List.take_succ_cons, List.take_zero]
      exact ⟨rfl, x05.new x7 hw2⟩
    · have d1 : decide ((low : Int) < ((2 * q - 2 - left : Nat) : Int)) = false := by simp only [decide_eq_false_iff_not]; omega
      rw [if_neg hfr]
      have l5 := eU (off := 0) o5 (by simp)
      simp only [List.drop_zero, List.take_succ_cons, List.take_zero] at l5
      simp (disch := omega) only [qB, bD, bY, aB, dY, e3, bN, d1, l5, aJ]
      refine (LX (n := 1) (hs.ext x05 (eI _)) (by omega) hsh hl).mono ?_
      rintro r w7 ⟨⟨hs3, rfl⟩ | ⟨hs3, rfl⟩, x7⟩
      · have n1 : ((10 : Int) != 0) = true := rfl
        rw [if_pos (by omega)]
        simp (disch := omega) only [UU, UY, Ul, aB, fP, gY]
        refine cS (o5.ext x7 (fun h => h)) rfl (by simp [one]) (by simp) fun w8 o8 x8 s8 => ?_
        simp only [cY, List.set_cons_zero, List.set_cons_succ] at o8
        simp (disch := omega) only [n1, aK]
        exact fin _ 0 10 w8 (fun r w' => ZH (.slice a L.length c) none r ∧ bZ w w' fN) o8 ((o25.ext x7 (fun h => h)).ext x8 (by omega)) ((x05.seq x7).new x8 hx1) fun w6 x6 => ⟨⟨_, rfl⟩, x6⟩
      · rw [if_neg (by omega)]
        have hb1 := zQ L (st + m) 1
        simp (disch := omega) only [UU, UY, Ul, aB, fP, gY]
        refine cS (o5.ext x7 (fun h => h)) rfl (by simp [one]) (by simp) fun w8 o8 x8 s8 => ?_
        simp only [cY, List.set_cons_zero, List.set_cons_succ] at o8
        have x08 : bZ w w8 fN := (x05.seq x7).new x8 hx1
        have o28 := (o25.ext x7 (fun h => h)).ext x8 (by omega)
        have l8 := eU (off := 0) o8 (by simp)
        simp only [List.drop_zero, List.take_succ_cons, List.take_zero] at l8
        by_cases hz : jG L (st + m) 1 = 0
        · have n2 : (((jG L (st + m) 1 : Nat) : Int) == 1) = false := by rw [hz]; rfl
          rw [if_pos hz]
          simp (disch := omega) only [n1, l8, aB, n2, aJ]
          refine cS o28 rfl (by simp [one]) (by simp) fun w9 o9 x9 s9 => ?_
          refine jA o9 (by simp [cY]) ?_
          simp only [cY, List.set_cons_zero, List.set_cons_succ, List.drop_zero, List.take_succ_cons, List.take_zero]
          exact ⟨rfl, x08.new x9 hw2⟩
        · have n2 : (((jG L (st + m) 1 : Nat) : Int) == 1) = true := by rw [show jG L (st + m) 1 = 1 from by omega]; rfl
          have e4 : (low : Int) + (q : Int) - ((2 * q - 2 - left : Nat) : Int) = ((low + q - (2 * q - 2 - left) : Nat) : Int) := by omega
          rw [if_neg hz]
          simp (disch := omega) only [n1, l8, aB, n2, e4, aK, aJ]
          refine cS o28 rfl (by simp [one]) (by simp) fun w9 o9 x9 s9 => ?_
          refine jA o9 (by simp [cY]) ?_
          simp only [cY, List.set_cons_zero, List.set_cons_succ, List.drop_zero, List.take_succ_cons, List.take_zero]
          exact ⟨rfl, x08.new x9 hw2⟩
end Go.Proofs.Ytoepfjgekpdddaa
namespace Go.Proofs.Ytoepfjgekpdddaa
open Go Go.En Go.Pu
set_option maxRecDepth 4000
set_option linter.unusedSimpArgs false
set_option linter.unusedVariables false
theorem Wb (L : List Bool) (sym f st left : Nat) (ps : List Int) : RM L sym (f + 1) st left ps = if left = 0 then .ok (ps, st) else match P0 L st left with
    | none => .error 10
    | some (v, st1) =>
      if v = 1 then match Wp L (L.length + 1) st1 with
        | none => .error 10
        | some (k, st2) => if sym < ps.length + 1 + k then .error 11 else RM L sym f st2 left (ps ++ 0 :: List.replicate k 0)
      else if sym < ps.length + 1 then .error 11 else RM L sym f st1 (left - (eM ((v : Int) - 1)).toNat) (ps ++ [(v : Int) - 1]) := by rw [RM]; rfl
theorem XA (k : Nat) : (Builtin.zeroCells (Value.int .i64 0).cells k).toList = List.replicate k (Value.int .i64 0) := by
  apply List.ext_getElem
  · rw [Array.length_toList, lL, List.length_replicate]; simp [Value.cells]
  · intro i h1 h2
    simp [Builtin.zeroCells, Value.cells, Nat.mod_one]
theorem agA {n m base : Nat} {ty : TypeId} {w : World} {v : Value} {l : List Value} (h : nG w base 1 v n l) (hb : base ≤ w.heap.size) (hn : (n + m) * 8 ≤ 140737488355328) {K : Value → World → Prop}
    (hk : ∀ v' w', nG w' base 1 v' (n + m) (l ++ List.replicate m (.int .i64 0)) → bZ w w' (fun y => base ≤ y) → K v' w') : aD pg (iJ .append #[62, 3] ty [v, .int .i64 m]) w K :=
  Yl (i := Try.t3) (S := fun y => base ≤ y) Try.underlying62 Try.underlying3 FR rfl rfl rfl h (by decide) (by intro y hy; simp [Value.cells] at hy; subst hy; rfl) (fun b hbb => Nat.le_trans hb hbb) (by omega) (by rw [show Try.t3.bytes = 8 from rfl]; omega) (by rw [show Try.t3.bytes = 8 from rfl]; omega)
    (fun v' w' o x => hk v' w' (by rw [← XA]; exact o) x)
def Qt (w : World) (base : Nat) (o : Except Int (Nat × List Int × Nat)) (r : Value) : Prop := match o with
  | .error e => r = .tuple #[.agg #[.int .i64 0, .slice none 0 0], .int .i64 0, .int .i64 e]
  | .ok (log, ps, used) => ∃ v, r = .tuple #[.agg #[.int .i64 log, v], .int .i64 used, .int .i64 0] ∧ nG w base 1 v ps.length (ps.map (Value.int .i64))
theorem HY {p6 : Nat} {w0 w : World} {e : Int} (o6 : fA w p6 [.int .i64 0, .slice none 0 0]) (hx : bZ w0 w fN) (hp : w0.heap.size ≤ p6) {RR : Value → World → Prop}
    (hR : ∀ w', bZ w0 w' fN → RR (.tuple #[.agg #[.int .i64 0, .slice none 0 0], .int .i64 0, .int .i64 e]) w') :
    aD pg (cB 69 (.pointer (some ⟨p6, 0, none⟩)) (.agg #[.int .i64 0, .slice none 0 0])) w fun _u w => F1 pg 69 (.pointer (some ⟨p6, 0, none⟩)) w fun r0 => RR (.tuple #[r0, .int .i64 0, .int .i64 e]) w := by
  refine mZ o6 rfl (by simp [one]) (by simp) fun w6 o6 x6 s6 => ?_
  refine F3 o6 (by simp [cY]) ?_
  simp only [cY, List.set_cons_zero, List.set_cons_succ, List.drop_zero, List.take_succ_cons, List.take_zero]
  exact hR _ (hx.new x6 hp)
theorem abS {l : List UInt8} {log lo hi p6 pc sym : Nat} {w0 w : World} {res : Except Int (List Int × Nat)} (hlh : lo ≤ hi) (hlp : w0.heap.size ≤ p6) (hl : l.length ≤ 1000000) (h6 : p6 < lo) (hhp : hi < pc) (hsym : sym ≤ 1000000) (hlog : log ≤ 15)
    (o6 : fA w p6 [.int .i64 0, .slice none 0 0]) (oc : fA w pc [.int .i64 log, .slice none 0 0]) (hf : YR w lo hi l 4) (h4 : 4 ≤ 8 * l.length) (hx : bZ w0 w fN)
    (hres : RM (bS l) sym ((bS l).length + 1) 4 (2 ^ log) [] = res)
    {RR : Value → World → Prop} (hE : ∀ e w', res = .error e → bZ w0 w' fN → RR (.tuple #[.agg #[.int .i64 0, .slice none 0 0], .int .i64 0, .int .i64 e]) w')
    (hO : ∀ ps st v w', res = .ok (ps, st) → nG w' w0.heap.size 1 v ps.length (ps.map (Value.int .i64)) → bZ w0 w' fN → RR (.tuple #[.agg #[.int .i64 log, v], .int .i64 (((st + 7) / 8 : Nat)), .int .i64 0]) w') :
    pT RR (.int .i64 sym) (.pointer (some ⟨p6, 0, none⟩)) (.pointer (some ⟨hi, 0, none⟩)) (.pointer (some ⟨pc, 0, none⟩)) (.int .i64 (2 ^ log : Nat)) w := by
  have hbl := gS l
  have hp15 : 2 ^ log ≤ 2 ^ 15 := Nat.pow_le_pow_right (by omega) hlog
  unfold pT FB EM
  have lpc := oc.lt
  refine cV.rule (fun m (t : Value) w' => ∃ (st left : Nat) (ps : List Int) (v : Value), t = .int .i64 left ∧ RM (bS l) sym m st left ps = res ∧ (bS l).length < m + st ∧ st ≤ 8 * l.length ∧ left ≤ 32768 ∧ ps.length ≤ 1000000 ∧
      fA w' p6 [.int .i64 0, .slice none 0 0] ∧ fA w' pc [.int .i64 log, v] ∧ nG w' (pc + 1) 1 v ps.length (ps.map (Value.int .i64)) ∧ YR w' lo hi l st ∧ bZ w w' (fun y => y = hi ∨ pc ≤ y)) ((bS l).length + 1)
    ⟨4, 2 ^ log, [], _, rfl, hres, by omega, h4, by omega, by simp, o6, oc, nG.nil _ _ _, hf, bZ.refl _ _⟩ ?_
  rintro m t w1 ⟨st, left, ps, v, rfl, hr, hm, hst, hleft, hpl, o61, oc1, ov, hf1, x1⟩
  have z1 := x1.size
  have hx0 := hx.size
  have hx1 : ∀ {w' : World}, bZ w w' (fun y => y = hi ∨ pc ≤ y) → bZ w0 w' fN := fun h => hx.trans h fun b hb hh => by omega
  obtain ⟨m, rfl⟩ : ∃ m', m = m' + 1 := ⟨m - 1, by omega⟩
  rw [Wb] at hr
  obtain ⟨av, cv, hv⟩ := ov.len
  unfold yR EB
  by_cases h0 : left = 0
  · have d1 : decide ((0 : Int) < (left : Int)) = false := by simp; omega
    rw [if_pos h0] at hr
    subst hv
    have lc := jX (off := 0) (iO oc1) (by simp)
    have lc' := jX (off := 0) oc1 (by simp)
    simp only [List.drop_zero, List.take_succ_cons, List.take_zero] at lc lc'
    unfold zS
    simp (disch := omega) only [aD, dM, d1, gZ, and_true, true_and, aB, lc, aJ]
    refine (aaU (hf1.ext (bZ.dr w1 fN) (fun _ _ _ h => h) hlh) (by omega)).mono ?_
    rintro r w2 ⟨rfl, rfl⟩
    simp (disch := omega) only [lc, true_and]
    refine mZ (iO o61) rfl (by simp [one]) (by simp) fun w6 o6 x6 s6 => ?_
    refine F3 o6 (by simp [cY]) ?_
    simp only [cY, List.set_cons_zero, List.set_cons_succ, List.drop_zero, List.take_succ_cons, List.take_zero]
    have x16 : bZ w1 w6 (fun y => y = p6) := (bZ.dr w1 _).seq x6
    have ov6 := ov.ext x16 (fun b hb h => by omega)
    refine hO ps st _ w6 hr.symm ⟨ov6.1, ?_⟩ ((hx1 x1).new x16 (by omega))
    rcases ov6.2 with h | ⟨b, c, rest, q1, q2, q3⟩
    · exact .inl h
    · exact .inr ⟨b, c, rest, q1, by omega, q3⟩
  · have d1 : decide ((0 : Int) < (left : Int)) = true := by simp; omega
    rw [if_neg h0] at hr
    simp (disch := omega) only [aD, dM, d1, aB, aK]
    unfold AS Em Et
    refine (agG hf1 hlh hst hl (by omega) hleft).mono ?_
    rintro r w2 ⟨hv2, x2⟩
    have x12 : bZ w w2 (fun y => y = hi ∨ pc ≤ y) := x1.seq (x2.mono fun y _ h => .inl h)
    have o62 := o61.ext x2 (by omega)
    have oc2 := oc1.ext x2 (by omega)
    have ov2 := ov.ext x2 (fun b hb h => by omega)
    have z2 := x2.size
    cases hval : P0 (bS l) st left with
    | none =>
      rw [hval] at hr hv2
      obtain rfl := hv2
      have n1 : ((10 : Int) != 0) = true := rfl
      simp (disch := omega) only [aD, vU, wU, mO, aB, dL, Nat.zero_add, eH, fP, n1, aK]
      exact HY (RR := RR) (e := 10) o62 (hx1 x12) hlp fun w' h => hE _ _ hr.symm h
    | some y =>
      obtain ⟨x, st1⟩ := y
      rw [hval] at hr hv2
      simp only at hr
      obtain ⟨rfl, hf2⟩ := hv2
      obtain ⟨b1, b2, b3⟩ := Vl hval (by omega)
      have n1 : ((0 : Int) != 0) = false := rfl
      simp (disch := omega) only [aD, vU, wU, mO, aB, dL, Nat.zero_add, eH, fP, n1, aJ, dY, bD, gY]
      refine (XH _ _).mono ?_
      rintro r w3 ⟨rfl, rfl⟩
      have c1 := oc2.cell (off := 1)
      simp only [List.getElem?_cons_zero, List.getElem?_cons_succ] at c1
      have hpp : eM ((x : Int) - 1) ≤ left := by unfold eM; split <;> omega
      have hpn := kM (p := (x : Int) - 1) (by omega)
      obtain ⟨pq, hpq⟩ : ∃ pq : Nat, eM ((x : Int) - 1) = pq := ⟨(eM ((x : Int) - 1)).toNat, by omega⟩
      rw [hpq] at hr hpp ⊢
      rw [Int.toNat_natCast] at hr
      have e1 : (left : Int) - (pq : Int) = ((left - pq : Nat) : Int) := by omega
      simp (disch := omega) only [dY, e1, bD, aB, c1, aP]
      refine WW (cells := #[.int .i64 ((x : Int) - 1)]) (by decide) (by decide) (by kernel_rfl) fun w4 o4 x4 s4 => ?_
      have z4 := x4.size
      refine HH (m := 1) (news := [.int .i64 ((x : Int) - 1)]) (ov2.ext x4 (fun _ _ h => h)) (o4.cl (off := 0) (l := [.int .i64 ((x : Int) - 1)]) (n := 1) rfl (fun i hi => by rw [Nat.zero_add])) (by simp [one]) (by omega) (by omega) fun v5 w5 o5 x5 => ?_
      have z5 := x5.size
      obtain ⟨av5, cv5, rfl⟩ := o5.len
      have oc5 := (oc2.ext x4 (fun h => h)).ext x5 (by omega)
      refine ST oc5 rfl (by simp) fun w6 oc6 x6 s6 => ?_
      simp only [List.set_cons_zero, List.set_cons_succ] at oc6
      have z6 := x6.size
      have ov6 := o5.ext x6 (fun b hb h => by omega)
      have x26 : bZ w3 w6 (fun y => pc ≤ y) := ((x4.mono fun _ _ h => h.elim).seq (x5.mono fun y _ h => by omega)).seq (x6.mono fun y _ h => by omega)
      have x16 : bZ w w6 (fun y => y = hi ∨ pc ≤ y) := x12.seq (x26.mono fun y _ h => .inr h)
      have o66 := o62.ext x26 (by omega)
      have hf6 := hf2.ext x26 (fun b _ _ => by omega) hlh
      have hsz : pc < w6.heap.size := oc6.lt
      rw [show (ps.map (Value.int .i64) ++ [Value.int .i64 ((x : Int) - 1)]) = (ps ++ [(x : Int) - 1]).map (Value.int .i64) from by simp] at ov6
      have hwl : IntKind.i64.wrap (left : Int) = left := bD (by omega) (by omega)
      have tail : ∀ (ps' : List Int) (st' left' : Nat) (a : Option Addr) (cc : Nat) (w' : World), (if sym < ps'.length then .error 11 else RM (bS l) sym m st' left' ps') = res → ps'.length ≤ 10000000 → left' ≤ 32768 → st < st' → st' ≤ 8 * l.length →
          fA w' p6 [.int .i64 0, .slice none 0 0] → fA w' pc [.int .i64 log, .slice a ps'.length cc] → nG w' (pc + 1) 1 (.slice a ps'.length cc) ps'.length (ps'.map (Value.int .i64)) → YR w' lo hi l st' → bZ w w' (fun y => y = hi ∨ pc ≤ y) →
          sD (fun _ _ _ _ aY w'' => ∃ m', m' < m + 1 ∧ ∃ (st left : Nat) (ps : List Int) (v : Value), aY = .int .i64 left ∧ RM (bS l) sym m' st left ps = res ∧ (bS l).length < m' + st ∧ st ≤ 8 * l.length ∧ left ≤ 32768 ∧ ps.length ≤ 1000000 ∧
            fA w'' p6 [.int .i64 0, .slice none 0 0] ∧ fA w'' pc [.int .i64 log, v] ∧ nG w'' (pc + 1) 1 v ps.length (ps.map (Value.int .i64)) ∧ YR w'' lo hi l st ∧ bZ w w'' (fun y => y = hi ∨ pc ≤ y)) RR
            (.int .i64 sym) (.pointer (some ⟨p6, 0, none⟩)) (.pointer (some ⟨hi, 0, none⟩)) (.pointer (some ⟨pc, 0, none⟩)) (.int .i64 left') w' := by
        intro ps' st' left' a cc w' q1 q2 q3 q4 q5 q6 q7 q8 q9 q10
        have c1 := q7.cell (off := 1)
        simp only [List.getElem?_cons_zero, List.getElem?_cons_succ] at c1
        unfold sD
        by_cases hgt : sym < ps'.length
        · have d1 : decide ((sym : Int) < (ps'.length : Int)) = true := by simp; omega
          rw [if_pos hgt] at q1
          simp (disch := omega) only [aD, dL, Nat.zero_add, mO, aB, eH, c1, aP, dT, dM, d1, gD, cJ, if_true, aK, dG]
          exact HY (RR := RR) (e := 11) q6 (hx1 q10) hlp fun w' h => hE _ _ q1.symm h
        · have d1 : decide ((sym : Int) < (ps'.length : Int)) = false := by simp; omega
          have d2 : decide ((left' : Int) < 0) = false := by simp
          rw [if_neg hgt] at q1
          simp (disch := omega) only [aD, dL, Nat.zero_add, mO, aB, eH, c1, aP, dT, dM, d1, eD, cJ, Bool.false_eq_true, if_false, cL, bN, d2, aJ]
          exact ⟨m, by omega, st', left', ps', _, rfl, q1, by omega, q5, q3, by omega, q6, q7, q8, q9, q10⟩
      by_cases h1 : x = 1
      · subst h1
        have n2 : (((1 : Nat) : Int) - 1 == 0) = true := rfl
        obtain rfl : pq = 0 := by
          have : eM (((1 : Nat) : Int) - 1) = 0 := rfl
          omega
        rw [if_pos rfl] at hr
        simp (disch := omega) only [n2, aK]
        refine (aaZ hf6 hlh (by omega) hl).mono ?_
        rintro r w7 ⟨hv7, x7⟩
        have x17 : bZ w w7 (fun y => y = hi ∨ pc ≤ y) := x16.seq (x7.mono fun y _ h => .inl h)
        have o67 := o66.ext x7 (by omega)
        have oc7 := oc6.ext x7 (by omega)
        have ov7 := ov6.ext x7 (fun b hb h => by omega)
        have z7 := x7.size
        cases hno : Wp (bS l) ((bS l).length + 1) st1 with
        | none =>
          rw [hno] at hr hv7
          obtain rfl := hv7
          have n1 : ((10 : Int) != 0) = true := rfl
          simp (disch := omega) only [vU, wU, aB, fP, n1, aK]
          exact HY (RR := RR) (e := 10) o67 (hx1 x17) hlp fun w' h => hE _ _ hr.symm h
        | some y =>
          obtain ⟨k, st2⟩ := y
          rw [hno] at hr hv7
          simp only at hr
          obtain ⟨rfl, hf7⟩ := hv7
          obtain ⟨k1, k2, k3⟩ := XS hno
          have n1 : ((0 : Int) != 0) = false := rfl
          by_cases hgt : sym < k
          · have d1 : decide ((sym : Int) < (k : Int)) = true := by simp; omega
            rw [if_pos (by omega)] at hr
            simp (disch := omega) only [vU, wU, aB, fP, n1, aJ, dM, d1, aK]
            exact HY (RR := RR) (e := 11) o67 (hx1 x17) hlp fun w' h => hE _ _ hr.symm h
          · have d1 : decide ((sym : Int) < (k : Int)) = false := by simp; omega
            have c7 := oc7.cell (off := 1)
            simp only [List.getElem?_cons_zero, List.getElem?_cons_succ] at c7
            simp (disch := omega) only [vU, wU, aB, fP, n1, aJ, dM, d1, c7, aP]
            refine agA (m := k) ov7 (by omega) (by omega) fun v8 w8 o8 x8 => ?_
            obtain ⟨av8, cv8, rfl⟩ := o8.len
            have z8 := x8.size
            refine ST (oc7.ext x8 (by omega)) rfl (by simp) fun w9 oc9 x9 s9 => ?_
            simp only [List.set_cons_zero, List.set_cons_succ] at oc9
            have z9 := x9.size
            have x79 : bZ w7 w9 (fun y => pc ≤ y) := (x8.mono fun y _ h => by omega).seq (x9.mono fun y _ h => by omega)
            have ov9 := o8.ext x9 (fun b hb h => by omega)
            have hlk : ps.length + 1 + k = (ps ++ 0 :: List.replicate k 0).length := by simp; omega
            have hmk : List.map (Value.int .i64) (ps ++ [((1 : Nat) : Int) - 1]) ++ List.replicate k (Value.int .i64 0) = (ps ++ 0 :: List.replicate k 0).map (Value.int .i64) := by simp
            rw [hmk, hlk] at ov9
            rw [hlk] at hr oc9
            refine tail _ st2 left _ _ w9 hr (by rw [← hlk]; omega) hleft (by omega) (by omega) (o67.ext x79 (by omega)) oc9 ov9 (hf7.ext x79 (fun b _ _ => by omega) hlh) (x17.seq (x79.mono fun y _ h => .inr h))
      · have n2 : ((x : Int) - 1 == 0) = false := beq_eq_false_iff_ne.2 (by omega)
        rw [if_neg h1] at hr
        simp (disch := omega) only [n2, aJ]
        rw [show ps.length + 1 = (ps ++ [(x : Int) - 1]).length from by simp] at hr ov6 oc6
        exact tail _ st1 _ _ _ w6 hr (by simp; omega) (by omega) b1 (by omega) o66 oc6 ov6 hf6 x16
theorem Zn {bv : Value} {l : List UInt8} {most : Int} {sym : Nat} {w : World} (hb : Bs w bv l) (hl : l.length ≤ 1000000) (hsym : sym ≤ 1000000) :
    cC pg Cp #[bv, .int .i64 most, .int .i64 sym] w (fun r w' => Qt w' w.heap.size (uY (bS l) most sym) r ∧ bZ w w' fN) := by
  refine Si ?_
  obtain ⟨RR, hRR⟩ : ∃ RR : Value → World → Prop, RR = fun r w' => Qt w' w.heap.size (uY (bS l) most sym) r ∧ bZ w w' fN := ⟨_, rfl⟩
  rw [← hRR]
  have hbl := gS l
  unfold TS C3 C6
  refine tI fun w1 o1 x1 s1 => ?_
  refine (XL (hb.ext x1 (eI _)) (by omega)).mono ?_
  rintro r w2 ⟨hi, rfl, hi1, hi2, hf2, x2⟩
  have z1 := x1.size
  have z2 := x2.size
  simp (disch := omega) only [aD, mO, aB]
  refine (LQ (n := 4) hf2 hi1 (by omega) (by omega) hl).mono ?_
  rintro r w3 (⟨hsh, rfl, hf3, x3⟩ | ⟨hsh, rfl, hf3, x3⟩)
  · have n1 : ((10 : Int) != 0) = true := rfl
    have hrl : uY (bS l) most sym = .error 10 := by unfold uY; rw [if_pos (by omega)]
    rw [hrl] at hRR
    simp (disch := omega) only [vU, wU, aB, fP, n1, aK]
    exact HY (RR := RR) (e := 10) ((o1.ext x2 (fun h => h)).ext x3 (fun h => h)) ((x1.seq x2).seq x3) (Nat.le_refl _) fun w' h => by rw [hRR]; exact ⟨rfl, h⟩
  · have n1 : ((0 : Int) != 0) = false := rfl
    have hnum : qC (((bS l).drop 0).take 4) = jG (bS l) 0 4 := rfl
    have hlt := zQ (bS l) 0 4
    have hrl : uY (bS l) most sym = (if most < ((jG (bS l) 0 4 + 5 : Nat) : Int) ∨ 15 < jG (bS l) 0 4 + 5 then .error 12 else match RM (bS l) sym ((bS l).length + 1) 4 (2 ^ (jG (bS l) 0 4 + 5)) [] with
      | .error e => .error e
      | .ok (ps, st) => .ok (jG (bS l) 0 4 + 5, ps, (st + 7) / 8)) := by unfold uY; rw [if_neg (by omega)]; rfl
    rw [hrl] at hRR
    rw [hnum]
    generalize jG (bS l) 0 4 = x at *
    have e1 : (x : Int) + 5 = ((x + 5 : Nat) : Int) := by omega
    have x03 : bZ w w3 fN := (x1.seq x2).trans x3 fun b hb h => by omega
    have o13 := (o1.ext x2 (fun h => h)).ext x3 (by omega)
    simp (disch := omega) only [vU, wU, aB, fP, n1, aJ, gN, bD, bY, e1, Oh]
    refine tI fun w4 o4 x4 s4 => ?_
    refine mZ o4 rfl (by simp [one]) (by simp) fun w5 o5 x5 s5 => ?_
    simp only [cY, List.set_cons_zero, List.set_cons_succ] at o5
    have z3 := x3.size
    have z4 := x4.size
    have x05 : bZ w w5 fN := (x03.seq x4).new x5 (by omega)
    have x35 : bZ w3 w5 fN := x4.new x5 (by omega)
    have o15 := o13.ext x35 (fun h => h)
    have c5 := o5.cell (off := 0)
    simp only [List.getElem?_cons_zero, List.getElem?_cons_succ] at c5
    by_cases hmo : most < ((x + 5 : Nat) : Int)
    · have d1 : decide (most < ((x + 5 : Nat) : Int)) = true := by simpa using hmo
      rw [if_pos (.inl hmo)] at hRR
      simp (disch := omega) only [eP, aB, cP, c5, aP, dM, d1, gD, cJ, if_true, aK, dG]
      exact HY (RR := RR) (e := 12) o15 x05 (Nat.le_refl _) fun w' h => by rw [hRR]; exact ⟨rfl, h⟩
    have d1 : decide (most < ((x + 5 : Nat) : Int)) = false := by simpa using hmo
    by_cases h15 : 15 < x + 5
    · have d2 : decide ((15 : Int) < ((x + 5 : Nat) : Int)) = true := by simp; omega
      rw [if_pos (.inr h15)] at hRR
      simp (disch := omega) only [eP, aB, cP, c5, aP, dM, d1, eD, cJ, Bool.false_eq_true, if_false, cL, d2, lH, Int.toNat_natCast, aK]
      exact HY (RR := RR) (e := 12) o15 x05 (Nat.le_refl _) fun w' h => by rw [hRR]; exact ⟨rfl, h⟩
    have d2 : decide ((15 : Int) < ((x + 5 : Nat) : Int)) = false := by simp; omega
    rw [if_neg (by omega)] at hRR
    have hsh := Ww (n := x + 5) (by omega)
    simp (disch := omega) only [eP, aB, cP, c5, aP, dM, d1, eD, cJ, Bool.false_eq_true, if_false, cL, d2, lH, Int.toNat_natCast, hsh, aJ]
    have hl5 := o5.lt
    refine abS (l := l) (w0 := w) (log := x + 5) (res := RM (bS l) sym ((bS l).length + 1) 4 (2 ^ (x + 5)) []) (lo := w1.heap.size) hi1 (Nat.le_refl _) hl (by omega) (by omega) hsym (by omega) o15 o5 (hf3.ext x35 (fun _ _ _ h => h) hi1) (by omega) x05 rfl ?_ ?_
    · intro e w' he hx
      rw [hRR, he]
      exact ⟨rfl, hx⟩
    · intro ps st v w' he ho hx
      rw [hRR, he]
      exact ⟨⟨v, rfl, ho⟩, hx⟩
end Go.Proofs.Ytoepfjgekpdddaa
namespace Go.Proofs.Ytoepfjgekpdddaa
open Go Go.En Go.Pu
set_option maxRecDepth 4000
set_option linter.unusedSimpArgs false
set_option linter.unusedVariables false
def Gx (L : List Bool) (v st1 : Nat) : Option (Nat × Nat) := if v = 1 then Wp L (L.length + 1) st1 else some (0, st1)
theorem afD {L : List Bool} {sym f st left : Nat} {ps : List Int} (h0 : left ≠ 0) : RM L sym (f + 1) st left ps = match P0 L st left with
    | none => .error 10
    | some (v, st1) => match Gx L v st1 with
      | none => .error 10
      | some (k, st2) => if sym < ps.length + 1 + k then .error 11 else RM L sym f st2 (left - (eM ((v : Int) - 1)).toNat) (ps ++ ((v : Int) - 1) :: List.replicate k 0) := by
  rw [Wb, if_neg h0]
  cases P0 L st left with
  | none => rfl
  | some x =>
    obtain ⟨v, st1⟩ := x
    simp only
    unfold Gx
    by_cases h : v = 1
    · subst h
      rw [if_pos rfl, if_pos rfl]
      have : eM (((1 : Nat) : Int) - 1) = 0 := rfl
      rw [this]; rfl
    · rw [if_neg h, if_neg h]
      rfl
theorem Sf {p6 : Nat} {w0 w : World} {e : Int} (o6 : fA w p6 [.int .i64 0, .slice none 0 0]) (hx : bZ w0 w fN) (hp : w0.heap.size ≤ p6) {RR : Value → World → Prop}
    (hR : ∀ w', bZ w0 w' fN → RR (.tuple #[.agg #[.int .i64 0, .slice none 0 0], .int .i64 0, .int .i64 e]) w') :
    aD pg (cB 86 (.pointer (some ⟨p6, 0, none⟩)) (.agg #[.int .i64 0, .slice none 0 0])) w fun _u w => F1 pg 86 (.pointer (some ⟨p6, 0, none⟩)) w fun r0 => RR (.tuple #[r0, .int .i64 0, .int .i64 e]) w := by
  refine kF o6 rfl (by simp [one]) (by simp) fun w6 o6 x6 s6 => ?_
  refine Bq o6 (by simp [cY]) ?_
  simp only [cY, List.set_cons_zero, List.set_cons_succ, List.drop_zero, List.take_succ_cons, List.take_zero]
  exact hR _ (hx.new x6 hp)
structure XY (w : World) (p6 pf pc log st : Nat) (bv : Value) (L : List Bool) (ps : List Int) (v : Value) : Prop where
  o6 : fA w p6 [.int .i64 0, .slice none 0 0]
  of : fA w pf [bv, .int .i64 st]
  oc : fA w pc [.int .i64 log, v]
  os : nG w (pc + 1) 1 v ps.length (ps.map (Value.int .i64))
  bl : Bl w bv L
  at' : ZG bv 0 pf
  h6 : p6 < pf
  hf : pf < pc
theorem XY.ext {w w' : World} {p6 pf pc log st : Nat} {bv : Value} {L : List Bool} {ps : List Int} {v : Value} (h : XY w p6 pf pc log st bv L ps v) (hx : bZ w w' fN) : XY w' p6 pf pc log st bv L ps v :=
  ⟨h.o6.ext hx (fun h => h), h.of.ext hx (fun h => h), h.oc.ext hx (fun h => h), h.os.ext hx (fun _ _ h => h), h.bl.ext hx (eI _), h.at', h.h6, h.hf⟩
theorem XY.setF {w w' : World} {p6 pf pc log st st' : Nat} {bv : Value} {L : List Bool} {ps : List Int} {v : Value} (h : XY w p6 pf pc log st bv L ps v) (hx : bZ w w' (fun y => y = pf)) (o : fA w' pf [bv, .int .i64 st']) : XY w' p6 pf pc log st' bv L ps v := by
  have h6 := h.h6
  have hf := h.hf
  exact ⟨h.o6.ext hx (by omega), o, h.oc.ext hx (by omega), h.os.ext hx (fun _ _ h => by omega), h.bl.ext hx (h.at' _ fun b _ hb => by omega), h.at', h.h6, h.hf⟩
theorem acP {w : World} {p6 pf pc log st : Nat} {bv : Value} {L : List Bool} {ps : List Int} {v : Value} (h : XY w p6 pf pc log st bv L ps v) (p : Int) (hl : ps.length ≤ 100000000) {K : World → Prop}
    (hK : ∀ w' v', XY w' p6 pf pc log st bv L (ps ++ [p]) v' → bZ w w' (fun y => pc ≤ y) → K w') :
    aD pg (cQ 62 1 [(0, .int .i64 p)]) w fun t64 w => aD pg (iJ .append #[62, 62] 62 [v, t64]) w fun t65 w => aD pg (bA 86 (.pointer (some ⟨pc, 0, none⟩)) 1) w fun t66 w => aD pg (cB 62 t66 t65) w fun _ w => K w := by
  have lpc := h.oc.lt
  have h6 := h.h6
  have hf := h.hf
  refine WW (cells := #[.int .i64 p]) (by decide) (by decide) (by kernel_rfl) fun w4 o4 x4 s4 => ?_
  have z4 := x4.size
  refine HH (m := 1) (news := [.int .i64 p]) (h.os.ext x4 (fun _ _ h => h)) (o4.cl (off := 0) (l := [.int .i64 p]) (n := 1) rfl (fun i hi => by rw [Nat.zero_add])) (by simp [one]) (by omega) (by omega) fun v5 w5 o5 x5 => ?_
  have z5 := x5.size
  obtain ⟨av5, cv5, rfl⟩ := o5.len
  have oc5 := (h.oc.ext x4 (fun h => h)).ext x5 (by omega)
  simp (disch := omega) only [aD, bC, Nat.zero_add, aB]
  refine ST oc5 rfl (by simp) fun w6 oc6 x6 s6 => ?_
  simp only [List.set_cons_zero, List.set_cons_succ] at oc6
  have ov6 := o5.ext x6 (fun b hb h => by omega)
  have x26 : bZ w w6 (fun y => pc ≤ y) := ((x4.mono fun _ _ h => h.elim).seq (x5.mono fun y _ h => by omega)).seq (x6.mono fun y _ h => by omega)
  rw [show (ps.map (Value.int .i64) ++ [Value.int .i64 p]) = (ps ++ [p]).map (Value.int .i64) from by simp, show ps.length + 1 = (ps ++ [p]).length from by simp] at ov6
  rw [show ps.length + 1 = (ps ++ [p]).length from by simp] at oc6
  exact hK w6 _ ⟨h.o6.ext x26 (by omega), h.of.ext x26 (by omega), oc6, ov6, h.bl.ext x26 (h.at' _ fun b _ hb => by omega), h.at', h6, hf⟩ x26
theorem aaV {w : World} {p6 pf pc log st sym left : Nat} {bv : Value} {L : List Bool} {ps : List Int} {v : Value} (h : XY w p6 pf pc log st bv L ps v) {x : Nat} (hx3 : x ≤ 3) (hl : ps.length ≤ 90000000) {kn : Value → Value → Value → Value → Value → Value → World → Prop}
    (hK : ∀ w' v', XY w' p6 pf pc log st bv L (ps ++ List.replicate x 0) v' → bZ w w' (fun y => pc ≤ y) → kn (.int .i64 sym) (.pointer (some ⟨p6, 0, none⟩)) (.pointer (some ⟨pf, 0, none⟩)) (.pointer (some ⟨pc, 0, none⟩)) (.int .i64 left) (.bool (((x : Nat) : Int) == 3)) w') :
    vD kn (.int .i64 sym) (.pointer (some ⟨p6, 0, none⟩)) (.pointer (some ⟨pf, 0, none⟩)) (.int .u64 x) (.pointer (some ⟨pc, 0, none⟩)) (.int .i64 left) w := by
  unfold vD Gn Gt Cx GS
  refine cV.rule (fun m (t : Value) w' => ∃ (i : Nat) (v' : Value), m = x - i ∧ t = .int .i64 i ∧ i ≤ x ∧ XY w' p6 pf pc log st bv L (ps ++ List.replicate i 0) v' ∧ bZ w w' (fun y => pc ≤ y)) x
    ⟨0, v, rfl, rfl, by omega, by simpa using h, bZ.refl _ _⟩ ?_
  rintro m t w1 ⟨i, v', rfl, rfl, hi, h1, x1⟩
  unfold Cu
  by_cases hlt : i < x
  · have d1 : decide ((i : Int) < (x : Int)) = true := by simp; omega
    have c1 := h1.oc.cell (off := 1)
    simp only [List.getElem?_cons_zero, List.getElem?_cons_succ] at c1
    simp (disch := omega) only [aD, gN, bD, bC, Nat.zero_add, bY, aB, eH, bN, d1, c1, aP, aK]
    refine acP h1 0 (by simp; omega) fun w2 v2 h2 x2 => ?_
    refine ⟨x - (i + 1), by omega, i + 1, v2, rfl, rfl, by omega, ?_, x1.seq x2⟩
    rw [List.append_assoc, ← List.replicate_succ'] at h2
    exact h2
  · have d1 : decide ((i : Int) < (x : Int)) = false := by simp; omega
    obtain rfl : i = x := by omega
    unfold CA
    simp (disch := omega) only [aD, gN, bD, bC, Nat.zero_add, bY, aB, eH, gY, bN, d1, aJ]
    exact hK _ _ h1 x1
end Go.Proofs.Ytoepfjgekpdddaa
namespace Go.Proofs.Ytoepfjgekpdddaa
open Go Go.En Go.Pu
set_option maxRecDepth 4000
set_option linter.unusedSimpArgs false
set_option linter.unusedVariables false
theorem X9 {w0 w : World} {p6 pf pc log st sym left x : Nat} {bv : Value} {L : List Bool} {ps : List Int} {v : Value} (h : XY w p6 pf pc log st bv L ps v) (hl : ps.length ≤ 1000001) (hL : L.length ≤ 8000000) (hst : st ≤ L.length) (hx : bZ w0 w fN) (hp : w0.heap.size ≤ p6) (hsym : sym ≤ 1000000)
    {kn : Value → Value → Value → Value → Value → World → Prop} {RR : Value → World → Prop}
    (hE : ∀ w', Gx L x st = none → bZ w0 w' fN → RR (.tuple #[.agg #[.int .i64 0, .slice none 0 0], .int .i64 0, .int .i64 10]) w')
    (hB : ∀ k st2 w', Gx L x st = some (k, st2) → sym < ps.length + k → bZ w0 w' fN → RR (.tuple #[.agg #[.int .i64 0, .slice none 0 0], .int .i64 0, .int .i64 11]) w')
    (hK : ∀ k st2 w' v', Gx L x st = some (k, st2) → ¬ sym < ps.length + k → XY w' p6 pf pc log st2 bv L (ps ++ List.replicate k 0) v' → bZ w0 w' fN → kn (.int .i64 sym) (.pointer (some ⟨p6, 0, none⟩)) (.pointer (some ⟨pf, 0, none⟩)) (.pointer (some ⟨pc, 0, none⟩)) (.int .i64 left) w') :
    oF kn RR (.int .i64 sym) (.pointer (some ⟨p6, 0, none⟩)) (.pointer (some ⟨pf, 0, none⟩)) (.pointer (some ⟨pc, 0, none⟩)) (.int .i64 left) (.int .i64 x) w := by
  have h6 := h.h6
  have hf := h.hf
  unfold oF Eg
  simp (disch := omega) only [aD, gY, aB]
  unfold AX Eu EA
  refine cV.rule (fun m (t : Value) w' => ∃ (k0 st' : Nat) (bt : Bool) (v' : Value), t = .bool bt ∧ XY w' p6 pf pc log st' bv L (ps ++ List.replicate k0 0) v' ∧ bZ w0 w' fN ∧ st' ≤ L.length ∧ k0 ≤ 3 * st' ∧
      (bt = true → Gx L x st = (match Wp L m st' with | none => none | some (k, s) => some (k0 + k, s)) ∧ L.length < 2 * m + st') ∧ (bt = false → Gx L x st = some (k0, st'))) (L.length + 1)
    ⟨0, st, _, v, rfl, by simpa using h, hx, hst, by omega, ?_, ?_⟩ ?_
  · intro hb
    have hx1 : x = 1 := by simp at hb; omega
    subst hx1
    refine ⟨?_, by omega⟩
    unfold Gx
    rw [if_pos rfl]
    cases Wp L (L.length + 1) st with
    | none => rfl
    | some y => simp
  · intro hb
    have hx1 : x ≠ 1 := by
      intro h; subst h; simp at hb
    unfold Gx
    rw [if_neg hx1]
  rintro m t w1 ⟨k0, st', bt, v', rfl, h1, x1, hst', hk0, ht, hfa⟩
  unfold zA EK
  cases bt with
  | false =>
    have hb := hfa rfl
    obtain ⟨av, cv, hv⟩ := h1.os.len
    have c1 := h1.oc.cell (off := 1)
    subst hv
    simp only [List.getElem?_cons_zero, List.getElem?_cons_succ, List.length_append, List.length_replicate] at c1
    have hlen : ((ps ++ List.replicate k0 0).length : Int) = ((ps.length + k0 : Nat) : Int) := by simp
    unfold Ch
    by_cases hgt : sym < ps.length + k0
    · have d1 : decide ((sym : Int) < ((ps.length + k0 : Nat) : Int)) = true := by simp only [decide_eq_true_eq]; omega
      simp (disch := omega) only [aD, bC, Nat.zero_add, kG, aB, eH, c1, aP, dT, dM, d1, gD, cJ, if_true, aK, dG, aJ]
      exact Sf (RR := RR) (e := 11) h1.o6 x1 hp fun w' h => hB _ _ _ hb hgt h
    · have d1 : decide ((sym : Int) < ((ps.length + k0 : Nat) : Int)) = false := by simp only [decide_eq_false_iff_not]; omega
      have d2 : decide ((left : Int) < 0) = false := by simp
      simp (disch := omega) only [aD, bC, Nat.zero_add, kG, aB, eH, c1, aP, dT, dM, d1, eD, cJ, Bool.false_eq_true, if_false, cL, bN, d2, aJ]
      exact hK _ _ _ _ hb hgt h1 x1
  | true =>
    obtain ⟨hb, hm⟩ := ht rfl
    obtain ⟨m, rfl⟩ : ∃ m', m = m' + 1 := ⟨m - 1, by omega⟩
    rw [X1] at hb
    have lf := eU (off := 0) h1.of (by simp)
    simp only [List.drop_zero, List.take_succ_cons, List.take_zero] at lf
    unfold zV FD Er
    simp (disch := omega) only [aD, lf, kG, aB, aK]
    refine (LX (n := 2) h1.bl (by omega) hst' (by omega)).mono ?_
    rintro r w2 ⟨⟨hsh, rfl⟩ | ⟨hsh, rfl⟩, x2⟩
    · have n1 : ((10 : Int) != 0) = true := rfl
      rw [if_pos (by omega)] at hb
      obtain ⟨bn, bc, hbv, _⟩ := Br h1.bl
      simp (disch := omega) only [UU, UY, Ul, aB, fP]
      refine cS (h1.ext x2).of rfl (by subst hbv; simp [one]) (by simp) fun w3 o3 x3 s3 => ?_
      simp (disch := omega) only [n1, aK]
      exact Sf (RR := RR) (e := 10) ((h1.ext x2).o6.ext x3 (by omega)) ((x1.seq x2).new x3 (by omega)) hp fun w' h => hE _ hb h
    · have n1 : ((0 : Int) != 0) = false := rfl
      rw [if_neg (by omega)] at hb
      obtain ⟨bn, bc, hbv, _⟩ := Br h1.bl
      have hlt := zQ L st' 2
      simp (disch := omega) only [UU, UY, Ul, aB, fP]
      refine cS (h1.ext x2).of rfl (by subst hbv; simp [one]) (by simp) fun w3 o3 x3 s3 => ?_
      simp only [cY, List.set_cons_zero, List.set_cons_succ] at o3
      have h3 := (h1.ext x2).setF x3 o3
      have x03 : bZ w0 w3 fN := (x1.seq x2).new x3 (by omega)
      have z03 := x03.size
      simp (disch := omega) only [n1, aJ]
      refine aaV h3 (by omega) (by simp; omega) fun w4 v4 h4 x4 => ?_
      have hpc := h3.hf
      have x04 : bZ w0 w4 fN := x03.trans x4 fun b hb h => by omega
      rw [List.append_assoc, List.replicate_append_replicate] at h4
      refine ⟨m, by omega, k0 + jG L st' 2, st' + 2, _, v4, rfl, h4, x04, hsh, by omega, ?_, ?_⟩
      · intro hq
        have h3' : jG L st' 2 = 3 := by simp at hq; omega
        rw [if_neg (by omega)] at hb
        refine ⟨?_, by omega⟩
        rw [hb, h3']
        cases Wp L m (st' + 2) with
        | none => rfl
        | some y =>
          obtain ⟨k, s⟩ := y
          simp; omega
      · intro hq
        have h3' : jG L st' 2 ≠ 3 := by
          intro h; rw [h] at hq; simp at hq
        rw [if_pos (by omega)] at hb
        exact hb
theorem XM {log p6 pf pc sym : Nat} {w0 w : World} {bv v : Value} {L : List Bool} {res : Except Int (List Int × Nat)} (hlp : w0.heap.size ≤ p6) (hl : L.length ≤ 8000000) (hsym : sym ≤ 1000000) (hlog : log ≤ 15)
    (h : XY w p6 pf pc log 4 bv L [] v) (h4 : 4 ≤ L.length) (hx : bZ w0 w fN)
    (hres : RM L sym (L.length + 1) 4 (2 ^ log) [] = res)
    {RR : Value → World → Prop} (hE : ∀ e w', res = .error e → bZ w0 w' fN → RR (.tuple #[.agg #[.int .i64 0, .slice none 0 0], .int .i64 0, .int .i64 e]) w')
    (hO : ∀ ps st v w', res = .ok (ps, st) → nG w' w0.heap.size 1 v ps.length (ps.map (Value.int .i64)) → bZ w0 w' fN → RR (.tuple #[.agg #[.int .i64 log, v], .int .i64 (((st + 7) / 8 : Nat)), .int .i64 0]) w') :
    sH RR (.int .i64 sym) (.pointer (some ⟨p6, 0, none⟩)) (.pointer (some ⟨pf, 0, none⟩)) (.pointer (some ⟨pc, 0, none⟩)) (.int .i64 (2 ^ log : Nat)) w := by
  have hp15 : 2 ^ log ≤ 2 ^ 15 := Nat.pow_le_pow_right (by omega) hlog
  have h6 := h.h6
  have hf := h.hf
  unfold sH Fj E0
  refine cV.rule (fun m (t : Value) w' => ∃ (st left : Nat) (ps : List Int) (v : Value), t = .int .i64 left ∧ RM L sym m st left ps = res ∧ L.length < m + st ∧ st ≤ L.length ∧ left ≤ 32768 ∧ ps.length ≤ 1000000 ∧
      XY w' p6 pf pc log st bv L ps v ∧ bZ w0 w' fN) (L.length + 1)
    ⟨4, 2 ^ log, [], v, rfl, hres, by omega, h4, by omega, by simp, h, hx⟩ ?_
  rintro m t w1 ⟨st, left, ps, v, rfl, hr, hm, hst, hleft, hpl, h1, x1⟩
  have hx0 := x1.size
  obtain ⟨m, rfl⟩ : ∃ m', m = m' + 1 := ⟨m - 1, by omega⟩
  obtain ⟨bn, bc, hbv, _⟩ := Br h1.bl
  unfold Ah Fo
  by_cases h0 : left = 0
  · have d1 : decide ((0 : Int) < (left : Int)) = false := by simp; omega
    rw [Wb, if_pos h0] at hr
    obtain ⟨av, cv, hv⟩ := h1.os.len
    subst hv hbv
    have lc := jD (off := 0) (iO h1.oc) (by simp)
    have lc' := jD (off := 0) h1.oc (by simp)
    have lf := eU (off := 0) (iO h1.of) (by simp)
    have lf' := eU (off := 0) h1.of (by simp)
    simp only [List.drop_zero, List.take_succ_cons, List.take_zero] at lc lc' lf lf'
    unfold B5
    simp (disch := omega) only [aD, dM, d1, gZ, and_true, true_and, aB, lc, lf, aJ]
    refine (aaT (by omega)).mono ?_
    rintro r w2 ⟨rfl, x2⟩
    have x12 : bZ w1 w2 fN := (bZ.dr w1 fN).seq x2
    have h2 := h1.ext x12
    have lc2 := jD (off := 0) h2.oc (by simp)
    simp only [List.drop_zero, List.take_succ_cons, List.take_zero] at lc2
    simp (disch := omega) only [lc2, true_and]
    refine kF h2.o6 rfl (by simp [one]) (by simp) fun w6 o6 x6 s6 => ?_
    refine Bq o6 (by simp [cY]) ?_
    simp only [cY, List.set_cons_zero, List.set_cons_succ, List.drop_zero, List.take_succ_cons, List.take_zero]
    have ov6 := h2.os.ext x6 (fun b hb h => by omega)
    refine hO ps st _ w6 hr.symm ⟨ov6.1, ?_⟩ ((x1.seq x12).new x6 (by omega))
    rcases ov6.2 with h | ⟨b, c, rest, q1, q2, q3⟩
    · exact .inl h
    · exact .inr ⟨b, c, rest, q1, by omega, q3⟩
  · have d1 : decide ((0 : Int) < (left : Int)) = true := by simp; omega
    rw [afD h0] at hr
    have lf := eU (off := 0) h1.of (by simp)
    simp only [List.drop_zero, List.take_succ_cons, List.take_zero] at lf
    unfold Bd Fg Ew
    simp (disch := omega) only [aD, dM, d1, kG, aB, bC, Nat.zero_add, dY, bD, eH, lf, aK]
    refine (abP h1.bl hst (by omega) (by omega) hleft).mono ?_
    rintro r w2 ⟨hv2, x2⟩
    have h2 := h1.ext x2
    cases hval : P0 L st left with
    | none =>
      rw [hval] at hr hv2
      obtain ⟨st', rfl⟩ := hv2
      have n1 : ((10 : Int) != 0) = true := rfl
      simp (disch := omega) only [UU, UY, Ul, aB, fP, dY, bD, gY]
      refine cS h2.of rfl (by subst hbv; simp [one]) (by simp) fun w3 o3 x3 s3 => ?_
      simp (disch := omega) only [n1, aK]
      exact Sf (RR := RR) (e := 10) (h2.o6.ext x3 (by omega)) ((x1.seq x2).new x3 (by omega)) hlp fun w' h => hE _ _ hr.symm h
    | some y =>
      obtain ⟨x, st1⟩ := y
      rw [hval] at hr hv2
      simp only at hr
      obtain rfl := hv2
      obtain ⟨b1, b2, b3⟩ := Vl hval (by omega)
      have n1 : ((0 : Int) != 0) = false := rfl
      simp (disch := omega) only [UU, UY, Ul, aB, fP, dY, bD, gY]
      refine cS h2.of rfl (by subst hbv; simp [one]) (by simp) fun w3 o3 x3 s3 => ?_
      simp only [cY, List.set_cons_zero, List.set_cons_succ] at o3
      have h3 := h2.setF x3 o3
      have x03 : bZ w0 w3 fN := (x1.seq x2).new x3 (by omega)
      have c3 := h3.oc.cell (off := 1)
      simp only [List.getElem?_cons_zero, List.getElem?_cons_succ] at c3
      simp (disch := omega) only [n1, c3, aP, aB, aJ]
      refine acP h3 ((x : Int) - 1) (by omega) fun w4 v4 h4 x4 => ?_
      have z03 := x03.size
      have hpc := h3.hf
      have x04 : bZ w0 w4 fN := x03.trans x4 fun b hb h => by omega
      have hpn := kM (p := (x : Int) - 1) (by omega)
      have hfin : ∀ (left' : Nat), left' = left - (eM ((x : Int) - 1)).toNat → oF (fun _ _ _ _ aY w'' => ∃ m', m' < m + 1 ∧ ∃ (st left : Nat) (ps : List Int) (v : Value), aY = .int .i64 left ∧ RM L sym m' st left ps = res ∧ L.length < m' + st ∧ st ≤ L.length ∧ left ≤ 32768 ∧ ps.length ≤ 1000000 ∧
          XY w'' p6 pf pc log st bv L ps v ∧ bZ w0 w'' fN) RR (.int .i64 sym) (.pointer (some ⟨p6, 0, none⟩)) (.pointer (some ⟨pf, 0, none⟩)) (.pointer (some ⟨pc, 0, none⟩)) (.int .i64 left') (.int .i64 x) w4 := by
        intro left' hl'
        have hlen1 : (ps ++ [(x : Int) - 1]).length = ps.length + 1 := by simp
        refine X9 (left := left') h4 (by omega) hl b2 x04 hlp hsym ?_ ?_ ?_
        · intro w' hbe hx
          rw [hbe] at hr
          exact hE _ _ hr.symm hx
        · intro k st2 w' hbe hgt hx
          rw [hbe] at hr
          simp only at hr
          rw [if_pos (by omega)] at hr
          exact hE _ _ hr.symm hx
        · intro k st2 w' v' hbe hgt h5 hx
          rw [hbe] at hr
          simp only at hr
          rw [if_neg (by omega), ← hl'] at hr
          have hb2 : st1 ≤ st2 ∧ st2 ≤ L.length := by
            unfold Gx at hbe
            split at hbe
            · obtain ⟨q1, q2, _⟩ := XS hbe; omega
            · obtain ⟨rfl, rfl⟩ := Prod.mk.inj (Option.some.inj hbe); omega
          rw [List.append_assoc, List.singleton_append] at h5
          exact ⟨m, by omega, st2, left', _, v', rfl, hr, by omega, hb2.2, by omega, by simp; omega, h5, hx⟩
      by_cases hx0 : x = 0
      · subst hx0
        have n2 : (((0 : Nat) : Int) == 0) = true := rfl
        have e1 : (left : Int) - 1 = ((left - 1 : Nat) : Int) := by omega
        simp (disch := omega) only [n2, e1, aK]
        exact hfin _ rfl
      · have n2 : ((x : Int) == 0) = false := beq_eq_false_iff_ne.2 (by omega)
        have e0 : (x : Int) - 1 = ((x - 1 : Nat) : Int) := by omega
        have e1 : (left : Int) - ((x : Int) - 1) = ((left - (x - 1) : Nat) : Int) := by omega
        simp (disch := omega) only [n2, e1, aJ]
        refine hfin _ ?_
        unfold eM
        rw [if_neg (by omega), e0, Int.toNat_natCast]
theorem Zr {s : ByteArray} {most : Int} {sym : Nat} {w : World} (hl : s.size ≤ 1000000) (hsym : sym ≤ 1000000) :
    cC pg Ea #[.string s, .int .i64 most, .int .i64 sym] w (fun r w' => Qt w' w.heap.size (uY (bS (nJ s)) most sym) r ∧ bZ w w' fN) := by
  refine U7 ?_
  obtain ⟨RR, hRR⟩ : ∃ RR : Value → World → Prop, RR = fun r w' => Qt w' w.heap.size (uY (bS (nJ s)) most sym) r ∧ bZ w w' fN := ⟨_, rfl⟩
  rw [← hRR]
  have hll := iV s
  have hbl := gS (nJ s)
  unfold Vr FN ES
  refine mM fun w1 o1 x1 s1 => ?_
  refine (VO hl).mono ?_
  rintro r w2 ⟨ob2, x2⟩
  have hbl2 : Bl w2 r (bS (nJ s)) := ob2.sl
  have hat := nG.atI ob2
  obtain ⟨bn, bc, rfl, _⟩ := Br hbl2
  have z1 := x1.size
  have z2 := x2.size
  simp (disch := omega) only [aD, IR, kG, aB]
  refine sF fun w3 o3 x3 s3 => ?_
  refine cS o3 rfl (by simp [one]) (by simp) fun w4 o4 x4 s4 => ?_
  simp only [cY, List.set_cons_zero, List.set_cons_succ] at o4
  have z3 := x3.size
  have z4 := x4.size
  have x24 : bZ w2 w4 fN := x3.new x4 (by omega)
  have lf := eU (off := 0) o4 (by simp)
  simp only [List.drop_zero, List.take_succ_cons, List.take_zero] at lf
  have hbl4 := hbl2.ext x24 (eI _)
  have e0 : (0 : Int) = ((0 : Nat) : Int) := rfl
  rw [e0] at lf
  simp (disch := omega) only [lf, aB]
  refine (LX (st := 0) (n := 4) hbl4 (by omega) (by omega) (by omega)).mono ?_
  rintro r w5 ⟨⟨hsh, rfl⟩ | ⟨hsh, rfl⟩, x5⟩
  · have n1 : ((10 : Int) != 0) = true := rfl
    have hrl : uY (bS (nJ s)) most sym = .error 10 := by unfold uY; rw [if_pos (by omega)]
    rw [hrl] at hRR
    simp (disch := omega) only [UU, UY, Ul, aB, fP, gN, bD, bY, Az]
    refine cS (o4.ext x5 (fun h => h)) rfl (by simp [one]) (by simp) fun w6 o6 x6 s6 => ?_
    simp (disch := omega) only [n1, aK]
    exact Sf (RR := RR) (e := 10) ((((o1.ext x2 (fun h => h)).ext x24 (fun h => h)).ext x5 (fun h => h)).ext x6 (by omega)) ((((x1.seq x2).seq x24).seq x5).new x6 (by omega)) (Nat.le_refl _) fun w' h => by rw [hRR]; exact ⟨rfl, h⟩
  · have n1 : ((0 : Int) != 0) = false := rfl
    have hlt := zQ (bS (nJ s)) 0 4
    have hrl : uY (bS (nJ s)) most sym = (if most < ((jG (bS (nJ s)) 0 4 + 5 : Nat) : Int) ∨ 15 < jG (bS (nJ s)) 0 4 + 5 then .error 12 else match RM (bS (nJ s)) sym ((bS (nJ s)).length + 1) 4 (2 ^ (jG (bS (nJ s)) 0 4 + 5)) [] with
      | .error e => .error e
      | .ok (ps, st) => .ok (jG (bS (nJ s)) 0 4 + 5, ps, (st + 7) / 8)) := by unfold uY; rw [if_neg (by omega)]; rfl
    rw [hrl] at hRR
    generalize jG (bS (nJ s)) 0 4 = x at *
    have e1 : (x : Int) + 5 = ((x + 5 : Nat) : Int) := by omega
    have z5 := x5.size
    simp (disch := omega) only [Nat.zero_add, UU, UY, Ul, aB, fP, gN, bD, bY, Az]
    refine cS (o4.ext x5 (fun h => h)) rfl (by simp [one]) (by simp) fun w6 o6 x6 s6 => ?_
    simp only [cY, List.set_cons_zero, List.set_cons_succ] at o6
    have z6 := x6.size
    have x06 : bZ w w6 fN := (((x1.seq x2).seq x24).seq x5).new x6 (by omega)
    have o16 := ((((o1.ext x2 (fun h => h)).ext x24 (fun h => h)).ext x5 (fun h => h)).ext x6 (by omega))
    have hbl6 : Bl w6 _ _ := (hbl4.ext x5 (eI _)).ext x6 (hat _ fun b hb hh => by omega)
    simp (disch := omega) only [n1, e1, aJ]
    refine mM fun w7 o7 x7 s7 => ?_
    refine kF o7 rfl (by simp [one]) (by simp) fun w8 o8 x8 s8 => ?_
    simp only [cY, List.set_cons_zero, List.set_cons_succ] at o8
    have x68 : bZ w6 w8 fN := x7.new x8 (by omega)
    have x08 : bZ w w8 fN := x06.seq x68
    have o18 := o16.ext x68 (fun h => h)
    have c8 := o8.cell (off := 0)
    simp only [List.getElem?_cons_zero, List.getElem?_cons_succ] at c8
    by_cases hmo : most < ((x + 5 : Nat) : Int)
    · have d1 : decide (most < ((x + 5 : Nat) : Int)) = true := by simpa using hmo
      rw [if_pos (.inl hmo)] at hRR
      simp (disch := omega) only [cW, aB, cP, c8, aP, dM, d1, gD, cJ, if_true, aK, dG]
      exact Sf (RR := RR) (e := 12) o18 x08 (Nat.le_refl _) fun w' h => by rw [hRR]; exact ⟨rfl, h⟩
    have d1 : decide (most < ((x + 5 : Nat) : Int)) = false := by simpa using hmo
    by_cases h15 : 15 < x + 5
    · have d2 : decide ((15 : Int) < ((x + 5 : Nat) : Int)) = true := by simp; omega
      rw [if_pos (.inr h15)] at hRR
      simp (disch := omega) only [cW, aB, cP, c8, aP, dM, d1, eD, cJ, Bool.false_eq_true, if_false, cL, d2, aK]
      exact Sf (RR := RR) (e := 12) o18 x08 (Nat.le_refl _) fun w' h => by rw [hRR]; exact ⟨rfl, h⟩
    have d2 : decide ((15 : Int) < ((x + 5 : Nat) : Int)) = false := by simp; omega
    rw [if_neg (by omega)] at hRR
    simp (disch := omega) only [cW, aB, cP, c8, aP, dM, d1, eD, cJ, Bool.false_eq_true, if_false, cL, d2, aJ]
    refine (Cq (x + 5) (by omega) _).mono ?_
    rintro r w9 ⟨rfl, rfl⟩
    have hpow : ((2 ^ (x + 5) : Nat) : Int) = (2 : Int) ^ (x + 5) := by simp
    rw [← hpow]
    have hS : XY w9 w.heap.size w2.heap.size w6.heap.size (x + 5) 4 (.slice bn (bS (nJ s)).length bc) (bS (nJ s)) [] (.slice none 0 0) :=
      ⟨o18, o6.ext x68 (fun h => h), o8, nG.nil _ _ _, hbl6.ext x68 (eI _), fun M hM => hat M fun b _ hb => hM b (by omega) (by omega), by omega, by omega⟩
    refine XM (w0 := w) (res := RM (bS (nJ s)) sym ((bS (nJ s)).length + 1) 4 (2 ^ (x + 5)) []) (Nat.le_refl _) (by omega) hsym (by omega) hS (by omega) x08 rfl ?_ ?_
    · intro e w' he hx
      rw [hRR, he]
      exact ⟨rfl, hx⟩
    · intro ps st v w' he ho hx
      rw [hRR, he]
      exact ⟨⟨v, rfl, ho⟩, hx⟩
end Go.Proofs.Ytoepfjgekpdddaa
namespace Go.Pu
open Go Go.En
set_option linter.unusedVariables false
theorem Wm {L : List Bool} {most : Int} {sym log used : Nat} {ps : List Int} (h : uY L most sym = .ok (log, ps, used)) : (ps.length ≤ 256 → VE log ps) ∧ (log : Int) ≤ most ∧ ps.length ≤ sym := by
  unfold uY at h
  split at h
  · cases h
  · simp only at h
    split at h
    · cases h
    · rename_i h1 h2
      have hpow : ((2 ^ (jG L 0 4 + 5) : Nat) : Int) = (2 : Int) ^ (jG L 0 4 + 5) := by simp
      have hp := Nat.two_pow_pos (jG L 0 4 + 5)
      cases hr : RM L sym (L.length + 1) 4 (2 ^ (jG L 0 4 + 5)) [] with
      | error e => rw [hr] at h; cases h
      | ok x =>
        obtain ⟨p, st⟩ := x
        rw [hr] at h
        cases h
        have e0 : yK [] = 0 := rfl
        obtain ⟨q1, q2, q3, q4, q5⟩ := So (tot := (2 : Int) ^ (jG L 0 4 + 5)) hr (by simp) (by rw [e0, hpow]; omega) (fun h => by omega)
        exact ⟨fun hs => ⟨by omega, by omega, q5, hs, q4, q1, q2⟩, by omega, q3⟩
theorem Xz {L : List Bool} {sym : Nat} {e : Int} : ∀ {f st left : Nat} {ps : List Int}, RM L sym f st left ps = .error e → e = 10 ∨ e = 11
  | 0, st, left, ps, h => by cases h; exact .inl rfl
  | f + 1, st, left, ps, h => by
    rw [RM] at h
    split at h
    · cases h
    · split at h
      · cases h; exact .inl rfl
      · split at h
        · split at h
          · cases h; exact .inl rfl
          · split at h
            · cases h; exact .inr rfl
            · exact Xz h
        · split at h
          · cases h; exact .inr rfl
          · exact Xz h
theorem R8 {L : List Bool} {most : Int} {sym : Nat} {e : Int} (h : uY L most sym = .error e) : e ≠ 0 := by
  unfold uY at h
  split at h
  · cases h; decide
  · simp only at h
    split at h
    · cases h; decide
    · split at h
      · rename_i hr
        cases h
        rcases Xz hr with h | h <;> omega
      · cases h
theorem Vz {L : List Bool} {sym : Nat} {out : List Int} {stE : Nat} : ∀ {f st left : Nat} {ps : List Int}, RM L sym f st left ps = .ok (out, stE) → st ≤ L.length → stE ≤ L.length
  | 0, st, left, ps, h, _ => by cases h
  | f + 1, st, left, ps, h, hst => by
    rw [RM] at h
    split at h
    · cases h; exact hst
    · rename_i h0
      cases hv : P0 L st left with
      | none => rw [hv] at h; cases h
      | some x =>
        obtain ⟨v, st1⟩ := x
        obtain ⟨v1, v2, v3⟩ := Vl hv (by omega)
        rw [hv] at h
        simp only at h
        split at h
        · cases hn : Wp L (L.length + 1) st1 with
          | none => rw [hn] at h; cases h
          | some y =>
            obtain ⟨k, st2⟩ := y
            rw [hn] at h
            simp only at h
            split at h
            · cases h
            · exact Vz h (XS hn).2.1
        · split at h
          · cases h
          · exact Vz h v2
theorem VQ {L : List Bool} {most : Int} {sym log used : Nat} {ps : List Int} (h : uY L most sym = .ok (log, ps, used)) : 8 * used ≤ L.length + 7 := by
  unfold uY at h
  split at h
  · cases h
  · simp only at h
    split at h
    · cases h
    · cases hr : RM L sym (L.length + 1) 4 (2 ^ (jG L 0 4 + 5)) [] with
      | error e => rw [hr] at h; cases h
      | ok x =>
        obtain ⟨p, st⟩ := x
        rw [hr] at h
        cases h
        have := Vz hr (by omega)
        omega
end Go.Pu
namespace Go.En
open Go
set_option linter.unusedVariables false
theorem OSS.ext {w w' : World} {S M : Nat → Prop} {sz n : Nat} {v : Value} {l : List Value} (h : OSS w S sz v n l) (hx : bZ w w' M) (hM : ∀ b, S b → ¬ M b) : OSS w' S sz v n l := by
  refine ⟨h.1, ?_⟩
  rcases h.2 with h2 | ⟨b, c, rest, h1, h2, h3, h4, h5⟩
  · exact .inl h2
  · exact .inr ⟨b, c, rest, h1, h2, h3.ext hx (hM b h2), h4, h5⟩
theorem nG.ne {w : World} {base p sz n : Nat} {v : Value} {l : List Value} (h : nG w base sz v n l) (hp : w.heap.size ≤ p) : OSS w (fun b => base ≤ b ∧ b ≠ p) sz v n l := by
  refine ⟨h.1, ?_⟩
  rcases h.2 with h2 | ⟨b, c, rest, h1, h2, h3, h4, h5⟩
  · exact .inl h2
  · have := h3.lt
    exact .inr ⟨b, c, rest, h1, ⟨h2, by omega⟩, h3, h4, h5⟩
theorem OSS.osl {w : World} {base p sz n : Nat} {v : Value} {l : List Value} (h : OSS w (fun b => base ≤ b ∧ b ≠ p) sz v n l) : nG w base sz v n l := by
  refine ⟨h.1, ?_⟩
  rcases h.2 with h2 | ⟨b, c, rest, h1, h2, h3, h4, h5⟩
  · exact .inl h2
  · exact .inr ⟨b, c, rest, h1, h2.1, h3, h4, h5⟩
theorem OSS.len {w : World} {S : Nat → Prop} {sz n : Nat} {v : Value} {l : List Value} (h : OSS w S sz v n l) : ∃ a c, v = .slice a n c := by
  rcases h.2 with ⟨h1, rfl⟩ | ⟨b, c, rest, h1, _⟩
  · exact ⟨_, _, h1⟩
  · exact ⟨_, _, h1⟩
end Go.En
namespace Go.Pu
set_option linter.unusedVariables false
def HP (w : Nat) : Nat := if w = 0 then 0 else 2 ^ (w - 1)
def eF (l : List Nat) : Nat := (l.map HP).sum
def kL (d : Nat) (l : List Nat) : Bool := l.all fun w => decide (w ≤ d)
def Bg (l : List Nat) : Nat :=
  if kL 11 l = true ∧ 2 ≤ l.length ∧ l.length ≤ 256 ∧ l.getLast? ≠ some 0 ∧ 2 ^ (eF l).log2 = eF l ∧ (eF l).log2 ≤ 11 ∧ kL (eF l).log2 l = true then (eF l).log2 else 0
theorem MY (a b : List Nat) : eF (a ++ b) = eF a + eF b := by simp [eF]
theorem mP (w : Nat) (l : List Nat) : eF (w :: l) = HP w + eF l := by simp [eF]
theorem Xl {w : Nat} (h : w ≤ 11) : HP w ≤ 1024 := by
  unfold HP
  split
  · omega
  · have : 2 ^ (w - 1) ≤ 2 ^ 10 := Nat.pow_le_pow_right (by omega) (by omega)
    omega
theorem Ed : ∀ {l : List Nat}, (∀ w ∈ l, w ≤ 11) → eF l ≤ 1024 * l.length
  | [], _ => by simp [eF]
  | w :: l, h => by
    have h1 := Xl (h w (List.mem_cons_self ..))
    have h2 := Ed fun x hx => h x (List.mem_cons_of_mem _ hx)
    rw [mP, List.length_cons]; omega
theorem Yr {w : Nat} : ∀ {l : List Nat}, w ∈ l → HP w ≤ eF l
  | [], h => by cases h
  | x :: l, h => by
    rw [mP]
    rcases List.mem_cons.1 h with rfl | h
    · omega
    · have := Yr h; omega
theorem mI {d : Nat} {l : List Nat} : kL d l = true ↔ ∀ w ∈ l, w ≤ d := by simp [kL]
theorem YN : ∀ (s : Nat), 0 < s → ((s &&& (s - 1) = 0) ↔ 2 ^ s.log2 = s) := by
  intro s
  induction s using Nat.strongRecOn with
  | ind s ih =>
    intro h
    by_cases h1 : s = 1
    · subst h1; decide
    · have hl : s.log2 = (s / 2).log2 + 1 := by
        rw [Nat.log2_def, if_pos (by omega)]
      have hd : (s &&& (s - 1)) / 2 = s / 2 &&& (s - 1) / 2 := Nat.and_div_two
      have hm : (s &&& (s - 1)) % 2 = 0 := by
        rcases Nat.mod_two_eq_zero_or_one (s &&& (s - 1)) with h' | h'
        · exact h'
        · rw [Nat.and_mod_two_eq_one] at h'; omega
      rw [hl, Nat.pow_succ]
      rcases Nat.mod_two_eq_zero_or_one s with h2 | h2
      · have he : (s - 1) / 2 = s / 2 - 1 := by omega
        rw [he] at hd
        have := ih (s / 2) (by omega) (by omega)
        constructor
        · intro h0
          rw [h0] at hd
          have := this.1 (by omega)
          omega
        · intro h0
          have := this.2 (by omega)
          omega
      · have he : (s - 1) / 2 = s / 2 := by omega
        rw [he, Nat.and_self] at hd
        constructor
        · intro h0; omega
        · intro h0; omega
theorem SC {l : List Nat} {d : Nat} (h : Bg l = d) (hd : d ≠ 0) : (∀ w ∈ l, w ≤ d) ∧ d ≤ 11 ∧ 2 ≤ l.length ∧ l.length ≤ 256 ∧ l.getLast? ≠ some 0 ∧ eF l = 2 ^ d := by
  unfold Bg at h
  split at h
  · rename_i hh
    obtain ⟨h1, h2, h3, h4, h5, h6, h7⟩ := hh
    subst h
    exact ⟨mI.1 h7, h6, h2, h3, h4, h5.symm⟩
  · exact absurd h.symm hd
theorem abD {l : List Nat} {d : Nat} (h1 : ∀ w ∈ l, w ≤ d) (h2 : d ≤ 11) (h3 : 2 ≤ l.length) (h4 : l.length ≤ 256) (h5 : l.getLast? ≠ some 0) (h6 : eF l = 2 ^ d) : Bg l = d := by
  unfold Bg
  have hl : (eF l).log2 = d := by rw [h6, Nat.log2_two_pow]
  rw [hl, if_pos ⟨mI.2 fun w hw => Nat.le_trans (h1 w hw) h2, h3, h4, h5, h6.symm, h2, mI.2 h1⟩]
def Dw (l : List Nat) (w : Nat) : Nat := eF (l.filter fun x => decide (x < w))
def afR (l : List Nat) (s : Nat) : Nat := Dw l (l.getD s 0) + (l.take s).count (l.getD s 0) * 2 ^ (l.getD s 0 - 1)
def Oo (l : List Nat) (d s : Nat) : Nat × Nat := if l.getD s 0 = 0 then (0, 0) else (d + 1 - l.getD s 0, afR l s / 2 ^ (l.getD s 0 - 1))
theorem KM (l : List Nat) (w : Nat) (hw : 1 ≤ w) : Dw l (w + 1) = Dw l w + l.count w * 2 ^ (w - 1) := by
  unfold Dw
  induction l with
  | nil => simp [eF]
  | cons x l ih =>
    rw [List.count_cons, List.filter_cons, List.filter_cons]
    by_cases h1 : x < w
    · rw [if_pos (by simp; omega), if_pos (by simp; omega), mP, mP, ih]
      have : (x == w) = false := by simp; omega
      rw [this]; simp; omega
    · by_cases h2 : x = w
      · subst h2
        rw [if_pos (by simp), if_neg (by simp), mP, ih]
        have : HP x = 2 ^ (x - 1) := by unfold HP; rw [if_neg (by omega)]
        rw [this]; simp [Nat.add_mul]; omega
      · rw [if_neg (by simp; omega), if_neg (by simp; omega), ih]
        have : (x == w) = false := by simpa using h2
        rw [this]; simp
theorem Zf (l : List Nat) : Dw l 1 = 0 := by
  unfold Dw
  induction l with
  | nil => rfl
  | cons x l ih =>
    rw [List.filter_cons]
    split
    · rename_i h
      have : x = 0 := by simp at h; omega
      subst this
      rw [mP, ih]; rfl
    · exact ih
theorem ZF {l : List Nat} {d : Nat} (h : ∀ w ∈ l, w ≤ d) : Dw l (d + 1) = eF l := by
  unfold Dw
  rw [List.filter_eq_self.2 fun a ha => by have := h a ha; simp; omega]
end Go.Pu
namespace Go.Pu
set_option linter.unusedVariables false
def pJ (l : List Nat) : Option Nat :=
  if kL 11 l = true ∧ 1 ≤ l.length ∧ l.length ≤ 255 ∧ 0 < eF l ∧ bl (eF l) ≤ 11 ∧ 2 ^ (2 ^ bl (eF l) - eF l).log2 = 2 ^ bl (eF l) - eF l
  then some ((2 ^ bl (eF l) - eF l).log2 + 1) else none
theorem HK {l : List Nat} {s : Nat} (h : s < l.length) : l.getD s 0 ∈ l := by
  rw [List.getD_eq_getElem?_getD, List.getElem?_eq_getElem h]; exact List.getElem_mem h
theorem Yw {l : List Nat} {a b : Nat} (h1 : 1 ≤ a) (h : a ≤ b) : Dw l a ≤ Dw l b := by
  obtain ⟨c, rfl⟩ := Nat.exists_eq_add_of_le h
  induction c with
  | zero => exact Nat.le_refl _
  | succ c ih =>
    have := KM l (a + c) (by omega)
    rw [← Nat.add_assoc]
    have := ih (by omega)
    omega
def mT (o : Nat) : Nat := if o = 0 then 0 else 2 ^ (11 - o)
def gM (out : List Nat) : Nat := (out.map mT).sum
theorem lP (o : Nat) (l : List Nat) : gM (o :: l) = mT o + gM l := by simp [gM]
theorem LS : ∀ {l : List Nat} {i : Nat} (o : Nat) (h : i < l.length), gM (l.set i o) + mT l[i] = gM l + mT o
  | [], i, o, h => by simp at h
  | x :: l, 0, o, h => by rw [List.set_cons_zero, lP, lP, List.getElem_cons_zero]; omega
  | x :: l, i + 1, o, h => by
    rw [List.set_cons_succ, lP, lP, List.getElem_cons_succ]
    have := LS (l := l) (i := i) o (by simpa using h)
    omega
theorem RF : ∀ {l : List Nat}, (∀ o ∈ l, o = 0 ∨ o = 11) → gM l ≤ l.length
  | [], _ => by simp [gM]
  | x :: l, h => by
    have h1 := h x (List.mem_cons_self ..)
    have h2 := RF fun y hy => h y (List.mem_cons_of_mem _ hy)
    rw [lP, List.length_cons]
    have : mT x ≤ 1 := by
      rcases h1 with rfl | rfl <;> decide
    omega
theorem W0 {M : Nat} (hM : M ≤ 11) : ∀ {l : List Nat}, (∀ o ∈ l, o ≤ M) → 2 ^ (11 - M) ∣ gM l
  | [], _ => Nat.dvd_zero _
  | x :: l, h => by
    rw [lP]
    refine Nat.dvd_add ?_ (W0 hM fun y hy => h y (List.mem_cons_of_mem _ hy))
    have := h x (List.mem_cons_self ..)
    unfold mT
    split
    · exact Nat.dvd_zero _
    · exact Nat.pow_dvd_pow 2 (by omega)
theorem Xd {o : Nat} : ∀ {l : List Nat}, o ∈ l → mT o ≤ gM l
  | [], h => by cases h
  | x :: l, h => by
    rw [lP]
    rcases List.mem_cons.1 h with rfl | h
    · omega
    · have := Xd h; omega
theorem abG {o : Nat} (h : o ≠ 0) : 1 ≤ mT o := by
  unfold mT; rw [if_neg h]; exact Nat.one_le_two_pow
theorem Sb : ∀ {l : List Nat} {i j : Nat} (hi : i < l.length) (hj : j < l.length), i < j → mT l[i] + mT l[j] ≤ gM l
  | [], i, j, hi, hj, h => by simp at hi
  | x :: l, 0, j + 1, hi, hj, h => by
    have := Xd (l := l) (List.getElem_mem (show j < l.length by simpa using hj))
    rw [lP, List.getElem_cons_zero, List.getElem_cons_succ]; omega
  | x :: l, i + 1, j + 1, hi, hj, h => by
    have := Sb (l := l) (i := i) (j := j) (by simpa using hi) (by simpa using hj) (by omega)
    rw [lP, List.getElem_cons_succ, List.getElem_cons_succ]; omega
def Ze (d o : Nat) : Nat := if o = 0 then 0 else d + 1 - o
theorem T6 {d : Nat} (hd : d ≤ 11) : ∀ {l : List Nat}, (∀ o ∈ l, o ≤ d) → eF (l.map (Ze d)) * 2 ^ (11 - d) = gM l
  | [], _ => by simp [eF, gM]
  | x :: l, h => by
    have h1 := h x (List.mem_cons_self ..)
    rw [List.map_cons, mP, lP, Nat.add_mul, T6 hd fun y hy => h y (List.mem_cons_of_mem _ hy)]
    congr 1
    unfold HP Ze mT
    by_cases h0 : x = 0
    · subst h0; simp
    · rw [if_neg h0, if_neg h0, if_neg (by omega), ← Nat.pow_add]
      congr 1; omega
theorem adT {d : Nat} {l : List Nat} (hd : d ≤ 11) (h : ∀ o ∈ l, o ≤ d) (hk : gM l = 2048) : eF (l.map (Ze d)) = 2 ^ d := by
  have := T6 hd h
  rw [hk, show (2048 : Nat) = 2 ^ d * 2 ^ (11 - d) from by rw [← Nat.pow_add, show d + (11 - d) = 11 from by omega]] at this
  exact Nat.eq_of_mul_eq_mul_right (Nat.two_pow_pos _) this
end Go.Pu
namespace Go.Proofs.Ytoepfjgekpdddaa
open Go Go.En Go.Pu
set_option maxRecDepth 4000
set_option linter.unusedSimpArgs false
set_option linter.unusedVariables false
abbrev dZ (l : List UInt8) : List Nat := l.map (·.toNat)
theorem sT (l : List UInt8) : (dZ l).length = l.length := by simp
theorem Yx {l : List UInt8} {i : Nat} (h : i < l.length) : (dZ l)[i]? = some (l[i].toNat) := by rw [List.getElem?_map, List.getElem?_eq_getElem h]; rfl
theorem LV {l : List UInt8} {i : Nat} (h : i < l.length) : dZ (l.take (i + 1)) = dZ (l.take i) ++ [l[i].toNat] := by
  unfold dZ
  rw [List.take_add_one, List.getElem?_eq_getElem h, List.map_append]; rfl
theorem acB {l : List UInt8} (h : 0 < l.length) : (dZ l).getLast? = some 0 ↔ l[l.length - 1].toNat = 0 := by
  rw [List.getLast?_eq_getElem?, sT, Yx (by omega)]
  simp
theorem LK (l : List UInt8) : ∀ w ∈ dZ l, w < 256 := fun w hw => by
  obtain ⟨x, _, rfl⟩ := List.mem_map.1 hw
  exact UInt8.toNat_lt x
theorem Wc {d : Nat} {l : List Nat} {x : Nat} : kL d (l ++ [x]) = (kL d l && decide (x ≤ d)) := by
  unfold kL; rw [List.all_append]; simp
theorem VM {d : Nat} {l : List Nat} {i : Nat} (h : kL d (l.take i) = false) : kL d l = false := by
  cases hq : kL d l with
  | false => rfl
  | true =>
    rw [mI] at hq
    have : kL d (l.take i) = true := mI.2 fun w hw => hq w (List.mem_of_mem_take hw)
    rw [this] at h; cases h
theorem ZQ {v : Value} {l : List UInt8} {w : World} (h : Bs w v l) (hl : l.length ≤ 100000) :
    cC pg qA #[v] w (fun r w' => r = .tuple #[.int .i64 (if kL 11 (dZ l) = true then eF (dZ l) else 0 : Nat), .bool (kL 11 (dZ l))] ∧ w' = w) := by
  refine Oa ?_
  obtain ⟨a, n, c, rfl, hn, hc, hh⟩ := id h
  rw [List.length_map] at hn
  subst hn
  unfold MJ Bf A4 tQ BG BT
  simp (disch := omega) only [aD, cI, aB]
  unfold tE BE
  refine cV.rule (fun m (t : Value × Value) w' => ∃ i : Nat, m = l.length - i ∧ t = (.int .i64 (eF (dZ (l.take i)) : Nat), .int .i64 i) ∧ i ≤ l.length ∧ kL 11 (dZ (l.take i)) = true ∧ w' = w) l.length
    ⟨0, rfl, by simp [eF], by omega, by simp [kL], rfl⟩ ?_
  rintro m t w1 ⟨i, rfl, rfl, hi, hle, rfl⟩
  unfold tH BN
  by_cases hlt : i < l.length
  · have d1 : decide ((i : Int) < (l.length : Int)) = true := by simp; omega
    obtain ⟨b, off, rfl, hcell⟩ := slA h (by omega)
    have g1 := hcell i hlt
    rw [List.getElem?_map, List.getElem?_eq_getElem hlt] at g1
    simp only [Option.map_some, Ic] at g1
    have ht := LV hlt
    have hx : (l[i]).toNat < 256 := UInt8.toNat_lt _
    have hwl := Ed (mI.1 hle)
    rw [sT, List.length_take] at hwl
    have hsn : kL 11 (dZ (l.take (i + 1))) = (kL 11 (dZ (l.take i)) && decide ((l[i]).toNat ≤ 11)) := by rw [ht, Wc]
    have hwn : eF (dZ (l.take (i + 1))) = eF (dZ (l.take i)) + HP (l[i]).toNat := by rw [ht, MY, mP]; rfl
    have hbad : kL 11 (dZ (l.take (i + 1))) = false → kL 11 (dZ l) = false := fun h => VM (i := i + 1) (by rw [← List.map_take]; exact h)
    generalize (l[i]).toNat = x at *
    unfold tG
    by_cases h11 : 11 < x
    · have d2 : decide ((11 : Int) < (x : Int)) = true := by simp; omega
      have hf := hbad (by rw [hsn, hle, decide_eq_false (by omega)]; rfl)
      simp (disch := omega) only [aD, bN, d1, eJ, Int.toNat_natCast, bY, bD, aB, fX, g1, aP, dM, d2, dY, CI, lH, and_true, aK]
      rw [hf]; simp
    · have d2 : decide ((11 : Int) < (x : Int)) = false := by simp; omega
      have hle1 : kL 11 (dZ (l.take (i + 1))) = true := by rw [hsn, hle, decide_eq_true (by omega)]; rfl
      have hwp := Xl (w := x) (by omega)
      by_cases h0 : 0 < x
      · have d3 : decide ((0 : Int) < (x : Int)) = true := by simp; omega
        have e1 : (x : Int) - 1 = ((x - 1 : Nat) : Int) := by omega
        have hsh := Ww (n := x - 1) (by omega)
        have hpw : HP x = 2 ^ (x - 1) := by unfold HP; rw [if_neg (by omega)]
        have e2 : ((eF (dZ (l.take i)) : Nat) : Int) + ((2 ^ (x - 1) : Nat) : Int) = ((eF (dZ (l.take i)) + 2 ^ (x - 1) : Nat) : Int) := by omega
        rw [hpw] at hwp hwn
        simp (disch := omega) only [aD, bN, d1, eJ, Int.toNat_natCast, bY, bD, aB, fX, g1, aP, dM, d2, d3, dY, e1, CI, lH, hsh, e2, aK, and_true, aJ]
        exact ⟨l.length - (i + 1), by omega, i + 1, rfl, by rw [hwn]; rfl, by omega, hle1⟩
      · have d3 : decide ((0 : Int) < (x : Int)) = false := by simp; omega
        have hpw : HP x = 0 := by unfold HP; rw [if_pos (by omega)]
        simp (disch := omega) only [aD, bN, d1, eJ, Int.toNat_natCast, bY, bD, aB, fX, g1, aP, dM, d2, d3, dY, aJ, and_true, aK]
        exact ⟨l.length - (i + 1), by omega, i + 1, rfl, by rw [hwn, hpw]; rfl, by omega, hle1⟩
  · have d1 : decide ((i : Int) < (l.length : Int)) = false := by simp; omega
    obtain rfl : i = l.length := by omega
    rw [List.take_length] at *
    unfold tF
    simp (disch := omega) only [aD, bN, d1, aB, and_true, aJ]
    rw [hle]; simp
end Go.Proofs.Ytoepfjgekpdddaa
namespace Go.Proofs.Ytoepfjgekpdddaa
open Go Go.En Go.Pu
set_option maxRecDepth 4000
set_option linter.unusedSimpArgs false
set_option linter.unusedVariables false
theorem adA {a b : Nat} (ha : a < 2 ^ 63) (hb : b < 2 ^ 63) : YF .i64 (a : Int) (b : Int) = ((a &&& b : Nat) : Int) := by
  unfold YF
  have e : IntKind.i64.bits = 64 := rfl
  have h := Nat.and_lt_two_pow (n := 63) a hb
  rw [e, BitVec.ofInt_natCast, BitVec.ofInt_natCast, BitVec.toNat_and, BitVec.toNat_ofNat, BitVec.toNat_ofNat, Nat.mod_eq_of_lt (by omega), Nat.mod_eq_of_lt (by omega)]
  exact bD (by omega) (by omega)
theorem aiF {v : Value} {l : List UInt8} {w : World} (h : Bs w v l) (h0 : 0 < l.length) (hl : l.length ≤ 100000) :
    cC pg nB #[v] w (fun r w' => (∃ m : Nat, r = .int .u8 m ∧ (∀ x ∈ dZ l, x ≤ m) ∧ m ∈ dZ l) ∧ w' = w) := by
  refine HJ ?_
  obtain ⟨b, off, c, rfl, hc, hcell⟩ := HW h h0
  unfold E2 oQ pP
  have d0 : decide ((l.length : Int) < 1) = false := by simp; omega
  have g0 := hcell 0 h0
  have t0 : (0 : Int).toNat = 0 := rfl
  simp (disch := omega) only [aD, cI, aB, bN, d0, aJ]
  unfold mA qK
  simp (disch := omega) only [aD, eJ, t0, aB, fX, g0, aP]
  unfold mE qN qU lZ qQ
  refine cV.rule (fun m (t : Value × Value) w' => ∃ i q : Nat, m = l.length - i ∧ t = (.int .u8 q, .int .i64 i) ∧ 1 ≤ i ∧ i ≤ l.length ∧ (∀ x ∈ dZ (l.take i), x ≤ q) ∧ q ∈ dZ (l.take i) ∧ w' = w) (l.length - 1)
    ⟨1, l[0].toNat, by omega, rfl, by omega, by omega, ?_, ?_, rfl⟩ ?_
  · intro x hx
    rw [LV (i := 0) h0] at hx
    simp at hx; omega
  · rw [LV (i := 0) h0]; simp
  rintro m t w1 ⟨i, q, rfl, rfl, hi1, hi, hle, hmem, rfl⟩
  unfold mB
  by_cases hlt : i < l.length
  · have d1 : decide ((i : Int) < (l.length : Int)) = true := by simp; omega
    have g1 := hcell i hlt
    have ht := LV hlt
    generalize (l[i]).toNat = x at *
    have hmx : (if (q : Int) ≤ (x : Int) then (x : Int) else (q : Int)) = ((max q x : Nat) : Int) := by split <;> omega
    have hmx2 : (if (x : Int) > (q : Int) then (x : Int) else (q : Int)) = ((max q x : Nat) : Int) := by split <;> omega
    have hmx3 : (if (q : Int) < (x : Int) then (x : Int) else (q : Int)) = ((max q x : Nat) : Int) := by split <;> omega
    simp (disch := omega) only [aD, cI, eJ, Int.toNat_natCast, bY, bD, aB, fX, bN, d1, g1, aP, F0, hmx2, and_true, aK]
    refine ⟨l.length - (i + 1), by omega, i + 1, max q x, rfl, rfl, by omega, by omega, ?_, ?_⟩
    · intro y hy
      rw [ht] at hy
      rcases List.mem_append.1 hy with hy | hy
      · have := hle y hy; omega
      · rw [List.mem_singleton.1 hy]; omega
    · rw [ht, List.mem_append]
      rcases Nat.le_total q x with h | h
      · rw [Nat.max_eq_right h]; exact .inr (List.mem_singleton.2 rfl)
      · rw [Nat.max_eq_left h]; exact .inl hmem
  · have d1 : decide ((i : Int) < (l.length : Int)) = false := by simp; omega
    obtain rfl : i = l.length := by omega
    rw [List.take_length] at *
    unfold mD
    simp (disch := omega) only [aD, cI, bY, bD, aB, bN, d1, and_true, aJ]
    exact ⟨q, rfl, hle, hmem⟩
theorem ZW {v : Value} {l : List UInt8} {w : World} (h : Bs w v l) (hl : l.length ≤ 100000) :
    cC pg pW #[v] w (fun r w' => r = .int .i64 (Bg (dZ l) : Nat) ∧ w' = w) := by
  refine Nk ?_
  obtain ⟨a, n, c, rfl, hn, hc, hh⟩ := id h
  rw [List.length_map] at hn
  subst hn
  have no : ¬ (kL 11 (dZ l) = true ∧ 2 ≤ (dZ l).length ∧ (dZ l).length ≤ 256 ∧ (dZ l).getLast? ≠ some 0 ∧ 2 ^ (eF (dZ l)).log2 = eF (dZ l) ∧ (eF (dZ l)).log2 ≤ 11 ∧ kL (eF (dZ l)).log2 (dZ l) = true) → Bg (dZ l) = 0 := fun h => by
    unfold Bg; rw [if_neg h]
  have hnl := sT l
  unfold MQ BR
  refine (ZQ h hl).mono ?_
  rintro r w1 ⟨rfl, rfl⟩
  cases hok : kL 11 (dZ l) with
  | false =>
    have := no (by rw [hok]; simp)
    simp (disch := omega) only [aD, Bool.false_eq_true, if_false, vU, wU, aB, mR, Bool.not_false, gD, cJ, if_true, aK, dG, and_true]
    rw [this]; rfl
  | true =>
    have hw := Ed (mI.1 hok)
    rw [hnl] at hw
    by_cases h2 : l.length < 2
    · have d2 : decide ((l.length : Int) < 2) = true := by simp; omega
      have := no (by omega)
      simp (disch := omega) only [aD, if_true, vU, wU, aB, mR, Bool.not_true, eD, cJ, Bool.false_eq_true, if_false, cL, cI, bN, d2, gD, aK, dG, and_true]
      rw [this]; rfl
    have d2 : decide ((l.length : Int) < 2) = false := by simp; omega
    by_cases h3 : 256 < l.length
    · have d3 : decide ((256 : Int) < (l.length : Int)) = true := by simp; omega
      have := no (by omega)
      simp (disch := omega) only [aD, if_true, vU, wU, aB, mR, Bool.not_true, eD, cJ, Bool.false_eq_true, if_false, cL, cI, bN, d2, dM, d3, gD, aK, dG, and_true]
      rw [this]; rfl
    have d3 : decide ((256 : Int) < (l.length : Int)) = false := by simp; omega
    obtain ⟨b, off, rfl, hcell⟩ := slA h (by omega)
    have e1 : (l.length : Int) - 1 = ((l.length - 1 : Nat) : Int) := by omega
    have g1 := hcell (l.length - 1) (by omega)
    rw [List.getElem?_map, List.getElem?_eq_getElem (by omega)] at g1
    simp only [Option.map_some, Ic] at g1
    have hla := acB (l := l) (by omega)
    have hmem : (l[l.length - 1]'(by omega)).toNat ∈ dZ l := List.mem_map.2 ⟨_, List.getElem_mem _, rfl⟩
    generalize (l[l.length - 1]'(by omega)).toNat = x at *
    by_cases h4 : x = 0
    · have d4 : ((x : Int) == 0) = true := by rw [h4]; rfl
      have := no (fun h => h.2.2.2.1 (hla.2 h4))
      simp (disch := omega) only [aD, if_true, vU, wU, aB, mR, Bool.not_true, eD, cJ, Bool.false_eq_true, if_false, cL, cI, bN, d2, dM, d3, dY, e1, bD, eJ, Int.toNat_natCast, fX, g1, aP, fZ, lF, gY, d4, gD, aK, dG, and_true]
      rw [this]; rfl
    have d4 : ((x : Int) == 0) = false := beq_eq_false_iff_ne.2 (by omega)
    have hwp := Yr hmem
    have hwx : 1 ≤ HP x := by unfold HP; rw [if_neg h4]; exact Nat.one_le_two_pow
    obtain ⟨s, hs⟩ : ∃ s, eF (dZ l) = s := ⟨_, rfl⟩
    rw [hs] at no hw hwp ⊢
    have e2 : (s : Int) - 1 = ((s - 1 : Nat) : Int) := by omega
    have e3 := adA (a := s) (b := s - 1) (by omega) (by omega)
    have hpw := YN s (by omega)
    have hlast : (dZ l).getLast? ≠ some 0 := fun h => h4 (hla.1 h)
    simp only [if_true]
    by_cases h5 : s &&& (s - 1) = 0
    · have d5 : (((s &&& (s - 1) : Nat) : Int) != 0) = false := by rw [h5]; rfl
      have hlog := hpw.1 h5
      have hbl : bl s = s.log2 + 1 := by unfold bl; rw [if_neg (by omega)]
      have e4 : ((s.log2 + 1 : Nat) : Int) - 1 = (s.log2 : Int) := by omega
      have hb20 : bl s ≤ 20 := lR (by omega)
      simp (disch := omega) only [aD, vU, wU, aB, mR, Bool.not_true, eD, cJ, Bool.false_eq_true, if_false, cL, cI, bN, d2, dM, d3, dY, e1, bD, eJ, Int.toNat_natCast, fX, g1, aP, fZ, lF, gY, d4, e2, Gi, e3, fP, d5, and_true, aJ]
      refine (Yt s (by omega) w1).mono ?_
      rintro r w2 ⟨rfl, rfl⟩
      rw [hbl]
      by_cases h6 : 11 < s.log2
      · have d6 : decide ((11 : Int) < (s.log2 : Int)) = true := by simp; omega
        have := no (by omega)
        simp (disch := omega) only [dY, e4, bD, aB, dM, d6, gD, cJ, if_true, aK, dG, and_true]
        rw [this]; rfl
      have d6 : decide ((11 : Int) < (s.log2 : Int)) = false := by simp; omega
      simp (disch := omega) only [dY, e4, bD, aB, dM, d6, eD, cJ, Bool.false_eq_true, if_false, cL]
      refine (aiF h (by omega) hl).mono ?_
      rintro r w3 ⟨⟨q, rfl, hq1, hq2⟩, rfl⟩
      have hq := LK l q hq2
      by_cases h7 : s.log2 < q
      · have d7 : decide ((s.log2 : Int) < (q : Int)) = true := by simp; omega
        have := no (fun h => by have := mI.1 h.2.2.2.2.2.2 q hq2; omega)
        simp (disch := omega) only [eY, bD, aB, dM, d7, and_true, aK]
        rw [this]; rfl
      · have d7 : decide ((s.log2 : Int) < (q : Int)) = false := by simp; omega
        have hyes : Bg (dZ l) = s.log2 := by
          unfold Bg
          rw [hs, if_pos ⟨hok, by omega, by omega, hlast, hlog, by omega, mI.2 fun y hy => by have := hq1 y hy; omega⟩]
        simp (disch := omega) only [eY, bD, aB, dM, d7, and_true, aJ]
        rw [hyes]
    · have d5 : (((s &&& (s - 1) : Nat) : Int) != 0) = true := by simpa using h5
      have := no (fun h => h5 (hpw.2 h.2.2.2.2.1))
      simp (disch := omega) only [aD, vU, wU, aB, mR, Bool.not_true, eD, cJ, Bool.false_eq_true, if_false, cL, cI, bN, d2, dM, d3, dY, e1, bD, eJ, Int.toNat_natCast, fX, g1, aP, fZ, lF, gY, d4, e2, Gi, e3, fP, d5, and_true, aK]
      rw [this]; rfl
def agI (w : World) (base : Nat) (l : List UInt8) (o : Option Nat) (r : Value) : Prop := match o with
  | none => r = .tuple #[.slice none 0 0, .int .i64 11]
  | some k => ∃ v, r = .tuple #[v, .int .i64 0] ∧ nG w base 1 v (l.length + 1) ((l ++ [UInt8.ofNat k]).map Ic)
theorem XE {v : Value} {l : List UInt8} {w : World} (h : Bs w v l) (hl : l.length ≤ 100000) :
    cC pg pS #[v] w (fun r w' => agI w' w.heap.size l (pJ (dZ l)) r ∧ bZ w w' fN) := by
  refine OA ?_
  obtain ⟨a, n, c, rfl, hn, hc, hh⟩ := id h
  rw [List.length_map] at hn
  subst hn
  have hnl := sT l
  have no : ¬ (kL 11 (dZ l) = true ∧ 1 ≤ (dZ l).length ∧ (dZ l).length ≤ 255 ∧ 0 < eF (dZ l) ∧ bl (eF (dZ l)) ≤ 11 ∧ 2 ^ (2 ^ bl (eF (dZ l)) - eF (dZ l)).log2 = 2 ^ bl (eF (dZ l)) - eF (dZ l)) → pJ (dZ l) = none := fun h => by
    unfold pJ; rw [if_neg h]
  unfold MV Bw
  refine (ZQ h hl).mono ?_
  rintro r w1 ⟨rfl, rfl⟩
  cases hok : kL 11 (dZ l) with
  | false =>
    have := no (by rw [hok]; simp)
    simp (disch := omega) only [aD, Bool.false_eq_true, if_false, vU, wU, aB, mR, Bool.not_false, gD, cJ, if_true, aK, dG]
    rw [this]; exact ⟨rfl, bZ.refl _ _⟩
  | true =>
    have hw := Ed (mI.1 hok)
    rw [hnl] at hw
    by_cases h2 : l.length = 0
    · have d2 : ((l.length : Int) == 0) = true := by rw [h2]; rfl
      have := no (by omega)
      simp (disch := omega) only [aD, if_true, vU, wU, aB, mR, Bool.not_true, eD, cJ, Bool.false_eq_true, if_false, cL, cI, gY, d2, gD, aK, dG]
      rw [this]; exact ⟨rfl, bZ.refl _ _⟩
    have d2 : ((l.length : Int) == 0) = false := beq_eq_false_iff_ne.2 (by omega)
    by_cases h3 : 256 ≤ l.length
    · have d3 : decide ((256 : Int) ≤ (l.length : Int)) = true := by simp; omega
      have := no (by omega)
      simp (disch := omega) only [aD, if_true, vU, wU, aB, mR, Bool.not_true, eD, cJ, Bool.false_eq_true, if_false, cL, cI, gY, d2, kU, d3, gD, aK, dG]
      rw [this]; exact ⟨rfl, bZ.refl _ _⟩
    have d3 : decide ((256 : Int) ≤ (l.length : Int)) = false := by simp; omega
    obtain ⟨s, hs⟩ : ∃ s, eF (dZ l) = s := ⟨_, rfl⟩
    rw [hs] at no hw ⊢
    simp only [if_true]
    by_cases h4 : s = 0
    · have d4 : ((s : Int) == 0) = true := by rw [h4]; rfl
      have := no (by omega)
      simp (disch := omega) only [aD, vU, wU, aB, mR, Bool.not_true, eD, cJ, Bool.false_eq_true, if_false, cL, cI, gY, d2, kU, d3, d4, fZ, lF, aK]
      rw [this]; exact ⟨rfl, bZ.refl _ _⟩
    have d4 : ((s : Int) == 0) = false := beq_eq_false_iff_ne.2 (by omega)
    have hbl19 : bl s ≤ 20 := lR (by omega)
    have hlt := MM s
    have hbl0 := Hb h4
    have hp20 : 2 ^ bl s ≤ 2 ^ 20 := Nat.pow_le_pow_right (by omega) hbl19
    have hshl := Ww (n := bl s) hbl19
    have e1 : ((2 ^ bl s : Nat) : Int) - (s : Int) = ((2 ^ bl s - s : Nat) : Int) := by omega
    simp (disch := omega) only [aD, vU, wU, aB, mR, Bool.not_true, eD, cJ, Bool.false_eq_true, if_false, cL, cI, gY, d2, kU, d3, d4, fZ, lF, aJ]
    refine (Yt s (by omega) w1).mono ?_
    rintro r w2 ⟨rfl, rfl⟩
    obtain ⟨q, hq⟩ : ∃ q, 2 ^ bl s - s = q := ⟨_, rfl⟩
    rw [hq] at no e1
    by_cases h5 : 11 < bl s
    · have d5 : decide ((11 : Int) < (bl s : Int)) = true := by simp; omega
      have := no (by omega)
      simp (disch := omega) only [lH, Int.toNat_natCast, hshl, dM, d5, aB, gD, cJ, if_true, aK, dG, dY, e1, bD]
      rw [this]; exact ⟨rfl, bZ.refl _ _⟩
    have d5 : decide ((11 : Int) < (bl s : Int)) = false := by simp; omega
    have e2 : (q : Int) - 1 = ((q - 1 : Nat) : Int) := by omega
    have e3 := adA (a := q) (b := q - 1) (by omega) (by omega)
    have hpw := YN q (by omega)
    by_cases h6 : q &&& (q - 1) = 0
    · have d6 : (((q &&& (q - 1) : Nat) : Int) != 0) = false := by rw [h6]; rfl
      have hyes : pJ (dZ l) = some (q.log2 + 1) := by
        unfold pJ
        rw [hs, hq, if_pos ⟨hok, by omega, by omega, by omega, by omega, hpw.1 h6⟩]
      have hblq : bl q = q.log2 + 1 := by unfold bl; rw [if_neg (by omega)]
      have hblq2 : bl q ≤ 20 := lR (by omega)
      simp (disch := omega) only [lH, Int.toNat_natCast, hshl, dM, d5, aB, eD, cJ, Bool.false_eq_true, if_false, cL, dY, e1, bD, e2, fZ, lF, Gi, e3, fP, d6, aJ]
      refine (Xh (h.ext (bZ.refl _ fN) (eI _)) (by omega)).mono ?_
      rintro r w3 ⟨o3, x3⟩
      have z3 := x3.size
      refine (Yt q (by omega) w3).mono ?_
      rintro r w4 ⟨rfl, rfl⟩
      rw [hblq] at hblq2 ⊢
      rw [hyes]
      have e8 : IntKind.u8.wrap ((q.log2 + 1 : Nat) : Int) = ((q.log2 + 1 : Nat) : Int) := CI (by omega) (by omega)
      simp (disch := omega) only [fI, e8, aB]
      obtain ⟨av, cv, rfl⟩ := o3.len
      refine kP (cells := #[.int .u8 (q.log2 + 1 : Nat)]) (by decide) (by decide) (by kernel_rfl) fun w5 o5 x5 s5 => ?_
      have z5 := x5.size
      refine jN (m := 1) (news := [.int .u8 (q.log2 + 1 : Nat)]) (o3.ext x5 (fun _ _ h => h)) (o5.cl (off := 0) (l := [.int .u8 (q.log2 + 1 : Nat)]) (n := 1) rfl (fun i hi => by rw [Nat.zero_add])) (by simp [one]) (by omega) (by omega) fun v6 w6 o6 x6 => ?_
      refine ⟨⟨v6, rfl, ?_⟩, (x3.seq x5).trans x6 fun b hb h => by omega⟩
      have hb2 : Ic (UInt8.ofNat (q.log2 + 1)) = .int .u8 (q.log2 + 1 : Nat) := by
        unfold Ic
        rw [UInt8.toNat_ofNat_of_lt' (show q.log2 + 1 < 256 by omega)]
      rw [List.map_append, List.map_cons, List.map_nil, hb2]
      exact o6
    · have d6 : (((q &&& (q - 1) : Nat) : Int) != 0) = true := by simpa using h6
      have := no (fun h => h6 (hpw.2 h.2.2.2.2.2))
      simp (disch := omega) only [lH, Int.toNat_natCast, hshl, dM, d5, aB, eD, cJ, Bool.false_eq_true, if_false, cL, dY, e1, bD, e2, fZ, lF, Gi, e3, fP, d6, aK]
      rw [this]; exact ⟨rfl, bZ.refl _ _⟩
end Go.Proofs.Ytoepfjgekpdddaa
namespace Go.Pu
open Go Go.En
set_option linter.unusedVariables false
def cc : List (Nat × Nat) → List Value
  | [] => []
  | e :: r => .int .i64 (e.1 : Nat) :: .int .i64 (e.2 : Nat) :: cc r
theorem WT : ∀ L : List (Nat × Nat), (cc L).length = 2 * L.length
  | [] => rfl
  | e :: r => by rw [cc, List.length_cons, List.length_cons, WT r, List.length_cons]; omega
theorem ZS : ∀ n : Nat, DD n [Value.int .i64 0, Value.int .i64 0] = cc (List.replicate n (0, 0))
  | 0 => rfl
  | n + 1 => by
    have := ZS n
    unfold DD at *
    rw [List.replicate_succ, List.flatten_cons, this, List.replicate_succ, cc]; rfl
theorem aeU : ∀ {L : List (Nat × Nat)} {i : Nat} (e : Nat × Nat), i < L.length → ((cc L).set (i * 2) (.int .i64 (e.1 : Nat))).set (i * 2 + 1) (.int .i64 (e.2 : Nat)) = cc (L.set i e)
  | [], i, e, h => by simp at h
  | x :: r, 0, e, h => rfl
  | x :: r, i + 1, e, h => by
    have := aeU (L := r) (i := i) e (by simpa using h)
    rw [cc, show (i + 1) * 2 = i * 2 + 1 + 1 from by omega, List.set_cons_succ, List.set_cons_succ, List.set_cons_succ, List.set_cons_succ, this, List.set_cons_succ, cc]
def oZ (l : List Nat) (d w i : Nat) : List (Nat × Nat) := (List.range l.length).map fun s => if l.getD s 0 < w ∨ (l.getD s 0 = w ∧ s < i) then Oo l d s else (0, 0)
def Lf (l : List Nat) (d : Nat) : List (Nat × Nat) := (List.range l.length).map (Oo l d)
theorem iN (l : List Nat) (d w i : Nat) : (oZ l d w i).length = l.length := by simp [oZ]
theorem Wv (l : List Nat) (d : Nat) : (Lf l d).length = l.length := by simp [Lf]
theorem Zx {l : List Nat} {d s : Nat} (h : s < l.length) : (Lf l d)[s]? = some (Oo l d s) := by
  unfold Lf; rw [List.getElem?_map, List.getElem?_range h]; rfl
theorem mY {l : List Nat} {d w i s : Nat} (h : s < l.length) : (oZ l d w i)[s]? = some (if l.getD s 0 < w ∨ (l.getD s 0 = w ∧ s < i) then Oo l d s else (0, 0)) := by
  unfold oZ; rw [List.getElem?_map, List.getElem?_range h]; rfl
theorem WA (l : List Nat) (d : Nat) : oZ l d 1 0 = List.replicate l.length (0, 0) := by
  apply List.ext_getElem?
  intro s
  rcases Nat.lt_or_ge s l.length with h | h
  · rw [mY h, List.getElem?_replicate, if_pos h]
    congr 1
    split
    · rename_i hh
      unfold Oo
      rw [if_pos (by omega)]
    · rfl
  · rw [List.getElem?_eq_none (by rw [iN]; exact h), List.getElem?_eq_none (by simpa using h)]
theorem XR {l : List Nat} {d w : Nat} : oZ l d w l.length = oZ l d (w + 1) 0 := by
  apply List.ext_getElem?
  intro s
  rcases Nat.lt_or_ge s l.length with h | h
  · rw [mY h, mY h]
    congr 1
    by_cases hh : l.getD s 0 < w + 1
    · rw [if_pos (by omega), if_pos (by omega)]
    · rw [if_neg (by omega), if_neg (by omega)]
  · rw [List.getElem?_eq_none (by rw [iN]; exact h), List.getElem?_eq_none (by rw [iN]; exact h)]
theorem Yo {l : List Nat} {d w : Nat} (hall : ∀ x ∈ l, x ≤ d) (hw : d < w) : oZ l d w 0 = Lf l d := by
  apply List.ext_getElem?
  intro s
  rcases Nat.lt_or_ge s l.length with h | h
  · rw [mY h, Zx h, if_pos]
    have := hall _ (HK h)
    omega
  · rw [List.getElem?_eq_none (by rw [iN]; exact h), List.getElem?_eq_none (by rw [Wv]; exact h)]
theorem XW {l : List Nat} {d w i : Nat} (h : i < l.length) (hw : l.getD i 0 ≠ w) : oZ l d w (i + 1) = oZ l d w i := by
  apply List.ext_getElem?
  intro s
  rcases Nat.lt_or_ge s l.length with hs | hs
  · rw [mY hs, mY hs]
    congr 1
    by_cases hsi : s = i
    · subst hsi
      by_cases h1 : l.getD s 0 < w
      · rw [if_pos (by omega), if_pos (by omega)]
      · rw [if_neg (by omega), if_neg (by omega)]
    · by_cases h1 : l.getD s 0 < w ∨ (l.getD s 0 = w ∧ s < i)
      · rw [if_pos (by omega), if_pos h1]
      · rw [if_neg (by omega), if_neg h1]
  · rw [List.getElem?_eq_none (by rw [iN]; exact hs), List.getElem?_eq_none (by rw [iN]; exact hs)]
theorem Yy {l : List Nat} {d w i : Nat} (h : i < l.length) (hw : l.getD i 0 = w) : (oZ l d w i).set i (Oo l d i) = oZ l d w (i + 1) := by
  apply List.ext_getElem?
  intro s
  rw [List.getElem?_set]
  rcases Nat.lt_or_ge s l.length with hs | hs
  · by_cases hsi : i = s
    · subst hsi
      rw [if_pos rfl, if_pos (by rw [iN]; exact h), mY (i := i + 1) hs, if_pos (by omega)]
    · rw [if_neg hsi, mY (i := i) hs, mY (i := i + 1) hs]
      congr 1
      by_cases h1 : l.getD s 0 < w ∨ (l.getD s 0 = w ∧ s < i)
      · rw [if_pos h1, if_pos (by omega)]
      · rw [if_neg h1, if_neg (by omega)]
  · rw [if_neg (by omega), List.getElem?_eq_none (by rw [iN]; exact hs), List.getElem?_eq_none (by rw [iN]; exact hs)]
def GJ (l : List Nat) (w i : Nat) : Nat := Dw l w + (l.take i).count w * 2 ^ (w - 1)
theorem Zg (l : List Nat) : GJ l 1 0 = 0 := by unfold GJ; rw [Zf]; simp
theorem aaR {l : List Nat} {w : Nat} (h : 1 ≤ w) : GJ l w l.length = GJ l (w + 1) 0 := by
  unfold GJ
  rw [List.take_length, KM l w h]; simp
theorem abK {l : List Nat} {w i : Nat} (h : i < l.length) : GJ l w (i + 1) = GJ l w i + (if l.getD i 0 = w then 2 ^ (w - 1) else 0) := by
  have hg : l.getD i 0 = l[i] := by rw [List.getD_eq_getElem?_getD, List.getElem?_eq_getElem h]; rfl
  unfold GJ
  rw [List.take_add_one, List.getElem?_eq_getElem h, List.count_append, hg]
  simp only [Option.toList, List.count_singleton]
  by_cases hw : l[i] = w
  · subst hw; simp [Nat.add_mul]; omega
  · rw [if_neg hw]
    have : (l[i] == w) = false := by simpa using hw
    rw [this]; simp
theorem afM {l : List Nat} {w i : Nat} (h : l.getD i 0 = w) : GJ l w i = afR l i := by unfold GJ afR; rw [h]
theorem agJ {l : List Nat} {d w i : Nat} (hs : eF l = 2 ^ d) (hall : ∀ x ∈ l, x ≤ d) (h1 : 1 ≤ w) (hw : w ≤ d) : GJ l w i ≤ 2 ^ d := by
  have h2 : GJ l w i ≤ Dw l (w + 1) := by
    rw [KM l w h1]
    unfold GJ
    have hc : (l.take i).count w ≤ l.count w := (List.take_sublist _ _).count_le _
    have := Nat.mul_le_mul_right (2 ^ (w - 1)) hc
    omega
  have h3 := Yw (l := l) (a := w + 1) (b := d + 1) (by omega) (by omega)
  rw [ZF hall, hs] at h3
  omega
end Go.Pu
namespace Go.Proofs.Ytoepfjgekpdddaa
open Go Go.En Go.Pu
set_option maxRecDepth 4000
set_option linter.unusedSimpArgs false
set_option linter.unusedVariables false
theorem X0 {l : List UInt8} {i : Nat} (h : i < l.length) : (dZ l).getD i 0 = l[i].toNat := by rw [List.getD_eq_getElem?_getD, Yx h]; rfl
theorem afF {v : Value} {l : List UInt8} {d : Nat} {w : World} (h : Bs w v l) (hd : Bg (dZ l) = d) (hd0 : d ≠ 0) :
    cC pg wF #[v] w (fun r w' => ∃ b, r = .tuple #[.slice (some ⟨b, 0, none⟩) l.length l.length, .int .i64 0] ∧ w.heap.size ≤ b ∧ fA w' b (cc (Lf (dZ l) d)) ∧ bZ w w' fN) := by
  refine NG ?_
  obtain ⟨hall, hd11, hl2, hl256, hlast, hsum⟩ := SC hd hd0
  have hnl := sT l
  obtain ⟨b, off, c, rfl, hc, hcell⟩ := HW h (by omega)
  unfold MO Ad yO
  refine (ZW h (by omega)).mono ?_
  rintro r w1 ⟨rfl, rfl⟩
  rw [hd]
  have n1 : ((d : Int) == 0) = false := beq_eq_false_iff_ne.2 (by omega)
  simp (disch := omega) only [aD, gY, n1, cI, aB, aJ]
  refine Ma (by omega) (by omega) fun w2 o2 x2 s2 => ?_
  rw [Int.toNat_natCast] at o2 ⊢
  rw [ZS, ← hnl, ← WA _ d] at o2
  generalize hpb : w1.heap.size = pb at *
  have hp2 : 2 ^ d ≤ 2 ^ 11 := Nat.pow_le_pow_right (by omega) hd11
  unfold qX AN zG qY Bb
  refine cV.rule (fun m (t : Value × Value) w' => ∃ q : Nat, m = d + 1 - q ∧ t = (.int .i64 (GJ (dZ l) q 0 : Nat), .int .i64 q) ∧ 1 ≤ q ∧ q ≤ d + 1 ∧ fA w' pb (cc (oZ (dZ l) d q 0)) ∧ bZ w2 w' (fun y => y = pb)) d
    ⟨1, by omega, by rw [Zg]; rfl, by omega, by omega, o2, bZ.refl _ _⟩ ?_
  rintro m t w3 ⟨q, rfl, rfl, hq1, hqd, o3, x3⟩
  unfold rB zU
  by_cases hq : q ≤ d
  · have d1 : decide ((q : Int) ≤ (d : Int)) = true := by simp; omega
    simp (disch := omega) only [aD, DE, d1, aB, aK]
    unfold rR yT BO BL
    simp (disch := omega) only [aD, cI, aB]
    unfold tS BP
    refine cV.rule (fun m (t : Value × Value) w' => ∃ i : Nat, m = l.length - i ∧ t = (.int .i64 (GJ (dZ l) q i : Nat), .int .i64 i) ∧ i ≤ l.length ∧ fA w' pb (cc (oZ (dZ l) d q i)) ∧ bZ w2 w' (fun y => y = pb)) l.length
      ⟨0, rfl, rfl, by omega, o3, x3⟩ ?_
    rintro m t w4 ⟨i, rfl, rfl, hi, o4, x4⟩
    unfold tL BJ
    by_cases hlt : i < l.length
    · have d2 : decide ((i : Int) < (l.length : Int)) = true := by simp; omega
      have h4 : Bs w4 _ l := (h.ext x2 (eI _)).ext x4 (fun hb => (h.old) (Yz hb fun y hy => by omega))
      obtain ⟨_, _, _, he, _, hcell4⟩ := HW h4 (by omega)
      cases he
      have g1 := hcell4 i hlt
      have hgd := X0 hlt
      have hstep := abK (l := dZ l) (w := q) (i := i) (by omega)
      have hskip := XW (l := dZ l) (d := d) (w := q) (i := i) (by omega)
      have hset := Yy (l := dZ l) (d := d) (w := q) (i := i) (by omega)
      have hof := afM (l := dZ l) (w := q) (i := i)
      have hle := agJ (l := dZ l) (d := d) (w := q) (i := i) hsum hall hq1 hq
      have hco : Oo (dZ l) d i = if (dZ l).getD i 0 = 0 then (0, 0) else (d + 1 - (dZ l).getD i 0, afR (dZ l) i / 2 ^ ((dZ l).getD i 0 - 1)) := rfl
      rw [hgd] at hskip hset hstep hof hco
      have hx : (l[i]).toNat < 256 := UInt8.toNat_lt _
      generalize (l[i]).toNat = x at *
      unfold tU
      by_cases hxq : x = q
      · subst hxq
        have n2 : ((x : Int) != (x : Int)) = false := by simp
        have e1 : (d : Int) + 1 - (x : Int) = ((d + 1 - x : Nat) : Int) := by omega
        have e2 : (x : Int) - 1 = ((x - 1 : Nat) : Int) := by omega
        rw [if_neg (by omega), ← hof rfl] at hco
        rw [if_pos rfl] at hstep
        have hset := hset rfl
        rw [hco] at hset
        have e3 : ((GJ (dZ l) x i : Nat) : Int).fdiv (2 ^ (min (x - 1) IntKind.i64.bits)) = ((GJ (dZ l) x i / 2 ^ (x - 1) : Nat) : Int) := by
          rw [show min (x - 1) IntKind.i64.bits = x - 1 from Nat.min_eq_left (by have : IntKind.i64.bits = 64 := rfl
                                                                                 omega), Int.fdiv_eq_ediv_of_nonneg _ (Int.pow_nonneg (by omega))]
          simp
        have hdl := Nat.div_le_self (GJ (dZ l) x i) (2 ^ (x - 1))
        have hsh := Ww (n := x - 1) (by omega)
        have hpx : 2 ^ (x - 1) ≤ 2 ^ 11 := Nat.pow_le_pow_right (by omega) (by omega)
        have e4 : ((GJ (dZ l) x i : Nat) : Int) + ((2 ^ (x - 1) : Nat) : Int) = ((GJ (dZ l) x (i + 1) : Nat) : Int) := by omega
        generalize GJ (dZ l) x i = at' at *
        generalize at' / 2 ^ (x - 1) = cd at *
        simp (disch := omega) only [aD, bN, d2, eJ, Int.toNat_natCast, bY, bD, aB, dY, e2, gO, Nat.zero_add, lH, uW, e3, e1, fS, fX, g1, aP, eY, fP, n2, aJ, aK]
        refine SV o4 rfl (by simp [one]) (by rw [WT, iN]; simp; omega) fun w5 o5 x5 s5 => ?_
        simp only [cY] at o5
        have hcs := aeU (L := oZ (dZ l) d x i) (i := i) (d + 1 - x, cd) (by rw [iN]; omega)
        simp only at hcs
        rw [hcs, hset] at o5
        simp (disch := omega) only [hsh, e4]
        exact ⟨l.length - (i + 1), by omega, i + 1, rfl, rfl, by omega, o5, x4.trans x5 fun _ _ h => h⟩
      · have n2 : ((x : Int) != (q : Int)) = true := by simp; omega
        rw [if_neg hxq, Nat.add_zero] at hstep
        have hskip := hskip hxq
        simp (disch := omega) only [aD, bN, d2, eJ, Int.toNat_natCast, bY, bD, aB, dY, gO, Nat.zero_add, lH, uW, fS, fX, g1, aP, eY, fP, n2, aK]
        exact ⟨l.length - (i + 1), by omega, i + 1, rfl, by rw [hstep]; rfl, by omega, by rw [hskip]; exact o4, x4⟩
    · have d2 : decide ((i : Int) < (l.length : Int)) = false := by simp; omega
      obtain rfl : i = l.length := by omega
      have e1 := aaR (l := dZ l) (w := q) hq1
      rw [hnl] at e1
      have e2 := XR (l := dZ l) (d := d) (w := q)
      rw [hnl] at e2
      rw [e2] at o4
      unfold tB
      simp (disch := omega) only [aD, bN, d2, bY, bD, dY, aB, lH, uW, fS, aJ]
      exact ⟨d + 1 - (q + 1), by omega, q + 1, rfl, by rw [e1]; rfl, by omega, by omega, o4, x4⟩
  · have d1 : decide ((q : Int) ≤ (d : Int)) = false := by simp; omega
    rw [Yo hall (by omega)] at o3
    unfold tM
    simp (disch := omega) only [aD, DE, d1, aB, aJ]
    exact ⟨pb, rfl, by omega, o3, x2.trans x3 fun _ hb h => by omega⟩
end Go.Proofs.Ytoepfjgekpdddaa
namespace Go.Pu
open Go Go.En
set_option linter.unusedVariables false
def O7 (b : List Nat) (i : Nat) : Nat := if i % 2 = 0 then b.getD (i / 2) 0 / 16 else b.getD (i / 2) 0 % 16
def iL (b : List Nat) (n : Nat) : List Nat := (List.range n).map (O7 b)
theorem yP (b : List Nat) (n : Nat) : (iL b n).length = n := by simp [iL]
theorem Q9 (b : List Nat) (n : Nat) : iL b (n + 1) = iL b n ++ [O7 b n] := by
  unfold iL; rw [List.range_succ, List.map_append]; rfl
theorem Yh {b : List Nat} (h : ∀ x ∈ b, x < 256) (i : Nat) : O7 b i < 16 := by
  unfold O7
  have : b.getD (i / 2) 0 < 256 := by
    rcases Nat.lt_or_ge (i / 2) b.length with hi | hi
    · exact h _ (HK hi)
    · rw [List.getD_eq_getElem?_getD, List.getElem?_eq_none hi]; decide
  split <;> omega
theorem Nr {b : List Nat} (h : ∀ x ∈ b, x < 256) (n : Nat) : ∀ x ∈ iL b n, x < 16 := fun x hx => by
  obtain ⟨i, _, rfl⟩ := List.mem_map.1 hx
  exact Yh h i
def Jk (m : List Nat) : List Nat := (List.range ((m.length + 1) / 2)).map fun j => m.getD (2 * j) 0 * 16 + m.getD (2 * j + 1) 0
theorem XB (m : List Nat) : (Jk m).length = (m.length + 1) / 2 := by simp [Jk]
theorem abA {m : List Nat} {j : Nat} (h : j < (m.length + 1) / 2) : (Jk m).getD j 0 = m.getD (2 * j) 0 * 16 + m.getD (2 * j + 1) 0 := by
  rw [List.getD_eq_getElem?_getD]
  unfold Jk
  rw [List.getElem?_map, List.getElem?_range h]; rfl
theorem agF {m : List Nat} (h : ∀ x ∈ m, x < 16) (i : Nat) : m.getD i 0 < 16 := by
  rcases Nat.lt_or_ge i m.length with hi | hi
  · exact h _ (HK hi)
  · rw [List.getD_eq_getElem?_getD, List.getElem?_eq_none hi]; decide
end Go.Pu
namespace Go.Proofs.Ytoepfjgekpdddaa
open Go Go.En Go.Pu
set_option maxRecDepth 4000
set_option linter.unusedSimpArgs false
set_option linter.unusedVariables false
abbrev nH (m : List Nat) : List UInt8 := m.map UInt8.ofNat
theorem Sv {m : List Nat} (h : ∀ x ∈ m, x < 256) : dZ (nH m) = m := by
  unfold dZ nH
  rw [List.map_map]
  conv => rhs; rw [← List.map_id m]
  apply List.map_congr_left
  intro x hx
  show (UInt8.ofNat x).toNat = x
  exact UInt8.toNat_ofNat_of_lt' (h x hx)
theorem Ty {x : Nat} (h : x < 256) : Ic (UInt8.ofNat x) = .int .u8 (x : Nat) := by
  unfold Ic; rw [UInt8.toNat_ofNat_of_lt' h]
theorem ajE {x : Nat} (h : x < 256) : YF .u8 (x : Int) 15 = ((x % 16 : Nat) : Int) := by
  have : ∀ k : Fin 256, YF .u8 (k.val : Int) 15 = ((k.val % 16 : Nat) : Int) := by decide +kernel
  exact this ⟨x, h⟩
theorem TX {base i c : Nat} {bv t15 t16 v' : Value} {cells : List Value} {w : World} (o : nG w base 1 v' i cells) (hb : base ≤ w.heap.size) (hi : i ≤ 100000) (hc : c < 256) {kn : Value → Value → Value → Value → World → Prop}
    (hK : ∀ v2 w2, nG w2 base 1 v2 (i + 1) (cells ++ [.int .u8 (c % 16 : Nat)]) → bZ w w2 (fun y => base ≤ y) → kn bv v2 t15 t16 w2) : mV kn bv v' (.int .u8 c) t15 t16 w := by
  unfold mV
  have e6 := ajE (x := c) hc
  obtain ⟨av, cv, rfl⟩ := o.len
  simp (disch := omega) only [aD, Gi, e6, aB]
  refine kP (cells := #[.int .u8 (c % 16 : Nat)]) (by decide) (by decide) (by kernel_rfl) fun w5 o5 x5 s5 => ?_
  have z5 := x5.size
  refine jN (m := 1) (news := [.int .u8 (c % 16 : Nat)]) (o.ext x5 (fun _ _ h => h)) (o5.cl (off := 0) (l := [.int .u8 (c % 16 : Nat)]) (n := 1) rfl (fun i hi => by rw [Nat.zero_add])) (by simp [one]) (by omega) (by omega) fun v6 w6 o6 x6 => ?_
  exact hK v6 w6 o6 ((x5.mono fun _ _ h => h.elim).seq x6)
theorem acV {v : Value} {l : List UInt8} {n : Nat} {w : World} (h : Bs w v l) (hl : l.length ≤ 100000) (hn : n ≤ 100000) :
    cC pg tR #[v, .int .i64 n] w (fun r w' => ((l.length < (n + 1) / 2 ∧ r = .tuple #[.slice none 0 0, .int .i64 10]) ∨
      ((n + 1) / 2 ≤ l.length ∧ ∃ v', r = .tuple #[v', .int .i64 0] ∧ nG w' w.heap.size 1 v' n ((nH (iL (dZ l) n)).map Ic))) ∧ bZ w w' fN) := by
  refine Mi ?_
  obtain ⟨a, n', c, rfl, hn', hc, hh⟩ := id h
  rw [List.length_map] at hn'
  subst hn'
  have e1 : (n : Int) + 1 = ((n + 1 : Nat) : Int) := by omega
  have e2 : ((n + 1 : Nat) : Int).tdiv 2 = (((n + 1) / 2 : Nat) : Int) := by rw [Int.tdiv_eq_ediv_of_nonneg (by omega)]; omega
  unfold Kt xK xH
  by_cases hsh : l.length < (n + 1) / 2
  · have d1 : decide ((l.length : Int) < (((n + 1) / 2 : Nat) : Int)) = true := by simp only [decide_eq_true_eq]; omega
    simp (disch := omega) only [aD, cI, bY, e1, bD, and_true, aB, kX, e2, bN, d1, aK]
    exact ⟨.inl hsh, bZ.refl _ _⟩
  have d1 : decide ((l.length : Int) < (((n + 1) / 2 : Nat) : Int)) = false := by simp only [decide_eq_false_iff_not]; omega
  simp (disch := omega) only [aD, cI, bY, e1, bD, and_true, aB, kX, e2, bN, d1, aJ]
  unfold pL xB xV pG xN
  refine cV.rule (fun m (t : Value × Value) w' => ∃ (i : Nat) (v' : Value), m = n - i ∧ t = (v', .int .i64 i) ∧ i ≤ n ∧ nG w' w.heap.size 1 v' i ((nH (iL (dZ l) i)).map Ic) ∧ bZ w w' fN) n
    ⟨0, _, rfl, rfl, by omega, nG.nil _ _ _, bZ.refl _ _⟩ ?_
  rintro m t w1 ⟨i, v', rfl, rfl, hi, o1, x1⟩
  unfold rQ A0
  by_cases hlt : i < n
  · have d2 : decide ((i : Int) < (n : Int)) = true := by simp; omega
    obtain ⟨b, off, rfl, hcell⟩ := slA (h.ext x1 (eI _)) (by omega)
    have e3 : (i : Int).tdiv 2 = ((i / 2 : Nat) : Int) := by rw [Int.tdiv_eq_ediv_of_nonneg (by omega)]; omega
    have e4 : (i : Int).tmod 2 = ((i % 2 : Nat) : Int) := by rw [Int.tmod_eq_emod_of_nonneg (by omega)]; omega
    have hi2 : i / 2 < l.length := by omega
    have g1 := hcell (i / 2) hi2
    rw [List.getElem?_map, List.getElem?_eq_getElem hi2] at g1
    simp only [Option.map_some, Ic] at g1
    have hgd := X0 hi2
    have hs := Q9 (dZ l) i
    have hf : O7 (dZ l) i = if i % 2 = 0 then (dZ l).getD (i / 2) 0 / 16 else (dZ l).getD (i / 2) 0 % 16 := rfl
    rw [hgd] at hf
    have hx : (l[i / 2]).toNat < 256 := UInt8.toNat_lt _
    have hf16 := Yh (LK l) i
    generalize (l[i / 2]).toNat = x at *
    generalize O7 (dZ l) i = y at *
    have z1 := x1.size
    have hy : Ic (UInt8.ofNat y) = .int .u8 (y : Nat) := Ty (by omega)
    have hcells : ∀ c : Nat, c % 16 = y → ((nH (iL (dZ l) i)).map Ic ++ [.int .u8 (c % 16 : Nat)]) = (nH (iL (dZ l) (i + 1))).map Ic := fun c hc => by
      rw [hs, hc]
      simp only [nH, List.map_append, List.map_cons, List.map_nil, hy]
    unfold rJ zR AD AI
    by_cases hev : i % 2 = 0
    · have n2 : (((i % 2 : Nat) : Int) == 0) = true := by rw [hev]; rfl
      rw [if_pos hev] at hf
      have e5 : (x : Int).fdiv (2 ^ (min 4 IntKind.u8.bits)) = ((x / 16 : Nat) : Int) := by
        rw [show min 4 IntKind.u8.bits = 4 from rfl, Int.fdiv_eq_ediv_of_nonneg _ (by omega)]; omega
      have t4 : (4 : Int).toNat = 4 := rfl
      simp (disch := omega) only [aD, bN, d2, kX, e3, bD, rE, e4, aB, gY, n2, aK, eJ, Int.toNat_natCast, fX, g1, aP, uW, t4, e5]
      refine TX (c := x / 16) o1 (by omega) (by omega) (by omega) fun v2 w2 o2 x2 => ?_
      rw [hcells _ (by omega)] at o2
      unfold nC
      simp (disch := omega) only [aD, bY, bD, aB]
      exact ⟨n - (i + 1), by omega, i + 1, _, rfl, rfl, by omega, o2, x1.trans x2 fun b hb h => by omega⟩
    · have n2 : (((i % 2 : Nat) : Int) == 0) = false := beq_eq_false_iff_ne.2 (by omega)
      rw [if_neg hev] at hf
      simp (disch := omega) only [aD, bN, d2, kX, e3, bD, rE, e4, aB, gY, n2, aJ, eJ, Int.toNat_natCast, fX, g1, aP, aK]
      refine TX (c := x) o1 (by omega) (by omega) (by omega) fun v2 w2 o2 x2 => ?_
      rw [hcells _ (by omega)] at o2
      unfold nC
      simp (disch := omega) only [aD, bY, bD, aB]
      exact ⟨n - (i + 1), by omega, i + 1, _, rfl, rfl, by omega, o2, x1.trans x2 fun b hb h => by omega⟩
  · have d2 : decide ((i : Int) < (n : Int)) = false := by simp; omega
    obtain rfl : i = n := by omega
    unfold rM
    simp (disch := omega) only [aD, bN, d2, aB, aJ]
    exact ⟨.inr ⟨by omega, v', rfl, o1⟩, x1⟩
def CF (w : World) (base : Nat) (h : Nat) (rest : List UInt8) (r : Value) : Prop :=
  if rest.length < (h - 127 + 1) / 2 then r = .tuple #[.slice none 0 0, .int .i64 0, .int .i64 10]
  else match pJ (iL (dZ rest) (h - 127)) with
    | none => r = .tuple #[.slice none 0 0, .int .i64 0, .int .i64 11]
    | some k => ∃ v, r = .tuple #[v, .int .i64 (1 + (h - 127 + 1) / 2 : Nat), .int .i64 0] ∧ nG w base 1 v (h - 127 + 1) ((nH (iL (dZ rest) (h - 127)) ++ [UInt8.ofNat k]).map Ic)
theorem PO {v : Value} {h : Nat} {rest : List UInt8} {l : List UInt8} {w : World} (hb : Bs w v l) (hle : l = UInt8.ofNat h :: rest) (hh : 128 ≤ h) (hh2 : h < 256) (hl : rest.length ≤ 10000) :
    cC pg oM #[v] w (fun r w' => CF w' w.heap.size h rest r ∧ bZ w w' fN) := by
  refine Af ?_
  obtain ⟨RR, hRR⟩ : ∃ RR : Value → World → Prop, RR = fun r w' => CF w' w.heap.size h rest r ∧ bZ w w' fN := ⟨_, rfl⟩
  rw [← hRR]
  have key : ∀ r w', CF w' w.heap.size h rest r → bZ w w' fN → RR r w' := fun r w' h1 h2 => by rw [hRR]; exact ⟨h1, h2⟩
  have hll : l.length = rest.length + 1 := by rw [hle]; rfl
  obtain ⟨b, off, c, rfl, hc, hcell⟩ := HW hb (by omega)
  have g0 := hcell 0 (by omega)
  have hl0 : (l[0]'(by omega)).toNat = h := by
    subst hle
    exact UInt8.toNat_ofNat_of_lt' hh2
  rw [hl0] at g0
  have hsub := hb.drop' (k := 1) (by omega)
  rw [← List.map_drop] at hsub
  have hdr : l.drop 1 = rest := by rw [hle]; rfl
  rw [hdr, hll] at hsub
  have n0 : ((l.length : Int) == 0) = false := beq_eq_false_iff_ne.2 (by omega)
  have d1 : decide ((128 : Int) ≤ (h : Int)) = true := by simp; omega
  have e1 : (h : Int) - 128 = ((h - 128 : Nat) : Int) := by omega
  have e2 : ((h - 128 : Nat) : Int) + 2 = ((h - 126 : Nat) : Int) := by omega
  have e3 : ((h - 126 : Nat) : Int).tdiv 2 = (((h - 127 + 1) / 2 : Nat) : Int) := by rw [Int.tdiv_eq_ediv_of_nonneg (by omega)]; omega
  have e4 : ((h - 128 : Nat) : Int) + 1 = ((h - 127 : Nat) : Int) := by omega
  have t0 : (0 : Int).toNat = 0 := rfl
  have t1 : (1 : Int).toNat = 1 := rfl
  unfold DR pQ pV
  simp (disch := omega) only [aD, cI, eJ, t0, gX, t1, aB, fX, gY, n0, g0, aP, eY, bD, kU, d1, dY, e1, bY, e4, e2, kX, e3, bN, aK, aJ]
  rw [hll]
  refine (acV hsub (by omega) (by omega)).mono ?_
  rintro r w1 ⟨⟨hsh, rfl⟩ | ⟨hsh, v1, rfl, o1⟩, x1⟩
  · have n1 : ((10 : Int) != 0) = true := rfl
    unfold jI
    simp (disch := omega) only [vU, wU, aD, bY, bD, aB, fP, n1, aK]
    refine key _ _ ?_ x1
    unfold CF
    rw [if_pos hsh]
  · have n1 : ((0 : Int) != 0) = false := rfl
    have hlt : ∀ x ∈ iL (dZ rest) (h - 127), x < 256 := fun x hx => by have := Nr (LK rest) _ x hx; omega
    have hbs : Bs w1 v1 (nH (iL (dZ rest) (h - 127))) := o1.sl
    have z1 := x1.size
    obtain ⟨av, cv, rfl⟩ := o1.len
    unfold jI
    simp (disch := omega) only [vU, wU, aD, bY, bD, aB, fP, n1, aJ]
    refine (XE hbs (by simp [yP]; omega)).mono ?_
    rintro r w2 ⟨hwo, x2⟩
    rw [Sv hlt] at hwo
    cases hw : pJ (iL (dZ rest) (h - 127)) with
    | none =>
      rw [hw] at hwo
      obtain rfl := hwo
      have n2 : ((11 : Int) != 0) = true := rfl
      simp (disch := omega) only [vU, wU, aB, fP, n2, aK]
      refine key _ _ ?_ (x1.seq x2)
      unfold CF
      rw [if_neg (by omega), hw]
    | some k =>
      rw [hw] at hwo
      obtain ⟨v2, rfl, o2⟩ := hwo
      have e5 : (1 : Int) + (((h - 127 + 1) / 2 : Nat) : Int) = ((1 + (h - 127 + 1) / 2 : Nat) : Int) := by omega
      have hlen : (nH (iL (dZ rest) (h - 127))).length = h - 127 := by simp [yP]
      rw [hlen] at o2
      simp (disch := omega) only [vU, wU, e5, aB, fP, n1, aJ]
      refine key _ _ ?_ (x1.seq x2)
      unfold CF
      rw [if_neg (by omega), hw]
      refine ⟨v2, rfl, o2.1, ?_⟩
      rcases o2.2 with h | ⟨b, c, rest', q1, q2, q3⟩
      · exact .inl h
      · exact .inr ⟨b, c, rest', q1, by omega, q3⟩
end Go.Proofs.Ytoepfjgekpdddaa
namespace Go.Proofs.Ytoepfjgekpdddaa
open Go Go.En Go.Pu
set_option maxRecDepth 4000
set_option linter.unusedSimpArgs false
set_option linter.unusedVariables false
def jO (L : List T3) (s : Nat) : Nat := match L[s]? with | some e => e.1.toNat | none => 0
def Z4 (L : List T3) (B : List Bool) : Nat → Nat → Nat → Nat → List Nat → Option (List Nat)
  | 0, _, _, _, _ => none
  | f + 1, a, b, left, out =>
    if left < fL L a then (if 255 < out.length + 2 then none else some (out ++ [jO L a, jO L b]))
    else Z4 L B f b (lU L a (kH (B.take left) (fL L a))).toNat (left - fL L a) (out ++ [jO L a])
structure Vld (L : List T3) : Prop where
  low : Low L
  sy : ∀ e ∈ L, 0 ≤ e.1 ∧ e.1 < 256
  nx : ∀ s : Nat, s < L.length → ∀ x : Nat, x < 2 ^ fL L s → 0 ≤ lU L s x ∧ (lU L s x).toNat < L.length
  len : L.length ≤ 32768
theorem OQ {log : Nat} {ps : List Int} (hm : VE log ps) : Vld (nE log ps) := by
  have hl := nF log ps
  have h15 := hm.log15
  have hp : 2 ^ log ≤ 2 ^ 15 := Nat.pow_le_pow_right (by omega) h15
  refine ⟨YV hm, aaI hm, fun s hs x hx => ?_, by omega⟩
  rw [hl] at hs ⊢
  obtain ⟨sy, hsy, h1, h2, h3, h4, h5⟩ := VS hm (FH hm 0) hs
  have hat := WX (ps := ps) hs
  have hb : fL (nE log ps) s = log + 1 - bl (Y7 ps (jS 0 log ps) s) := by
    unfold fL
    rw [if_pos (by omega), Int.toNat_natCast, hat]; simp [Jg, zB]
  have hn : lU (nE log ps) s x = ((Y7 ps (jS 0 log ps) s * 2 ^ (log + 1 - bl (Y7 ps (jS 0 log ps) s)) : Nat) : Int) - 2 ^ log + x := by
    unfold lU
    rw [if_pos (by omega), Int.toNat_natCast, hat]; simp [Jg, zB]
  rw [hb] at hx
  rw [hn]
  have hk : Y7 ps (jS 0 log ps) s < 2 ^ (log + 1) := by rw [h4, Nat.pow_succ]; omega
  have hk1 : 1 ≤ Y7 ps (jS 0 log ps) s := by rw [h4]; omega
  obtain ⟨q1, q2, q3, q4⟩ := XO hk1 hk
  generalize Y7 ps (jS 0 log ps) s = k at *
  generalize log + 1 - bl k = n at *
  rw [Nat.add_mul, Nat.one_mul, Nat.pow_succ] at q2
  have hpow : ((2 ^ log : Nat) : Int) = (2 : Int) ^ log := by simp
  rw [← hpow]
  generalize k * 2 ^ n = q at *
  generalize 2 ^ n = r at *
  generalize 2 ^ log = N at *
  omega
abbrev ZA (m : List Nat) : List Value := m.map fun (x : Nat) => Value.int .u8 x
theorem VI {m : List Nat} (h : ∀ x ∈ m, x < 256) : (nH m).map Ic = ZA m := by
  show List.map Ic (m.map UInt8.ofNat) = _
  rw [List.map_map]
  exact List.map_congr_left fun x hx => Ty (h x hx)
theorem Fi {L : List T3} (h : Vld L) (s : Nat) : jO L s < 256 := by
  unfold jO
  cases hs : L[s]? with
  | none => simp
  | some e => have := h.sy e (List.mem_of_getElem? hs); simp only; omega
theorem ZJ {L : List T3} {B : List Bool} (h : Vld L) : ∀ {f a b left : Nat} {out m : List Nat}, Z4 L B f a b left out = some m → (∀ x ∈ out, x < 256) → (∀ x ∈ m, x < 256) ∧ m.length ≤ 255
  | 0, _, _, _, _, _, e, _ => by cases e
  | f + 1, a, b, left, out, m, e, ho => by
    rw [Z4] at e
    split at e
    · split at e
      · cases e
      · cases e
        refine ⟨fun x hx => ?_, by rw [List.length_append]; simp; omega⟩
        rcases List.mem_append.1 hx with hx | hx
        · exact ho x hx
        · simp only [List.mem_cons, List.not_mem_nil, or_false] at hx
          rcases hx with rfl | rfl
          · exact Fi h a
          · exact Fi h b
    · refine ZJ h e fun x hx => ?_
      rcases List.mem_append.1 hx with hx | hx
      · exact ho x hx
      · rw [List.mem_singleton.1 hx]; exact Fi h a
theorem Z9 {base px i x : Nat} {v : Value} {cells : List Value} {w : World} (o : OSS w (fun b => base ≤ b ∧ b ≠ px) 1 v i cells) (hb : base ≤ w.heap.size) (hp : px < w.heap.size) (hi : i ≤ 100000) {K : Value → World → Prop}
    (hK : ∀ v2 w2, OSS w2 (fun b => base ≤ b ∧ b ≠ px) 1 v2 (i + 1) (cells ++ [.int .u8 x]) → bZ w w2 (fun y => base ≤ y ∧ y ≠ px) → K v2 w2) :
    aD pg (cQ 22 1 [(0, .int .u8 x)]) w fun t w => aD pg (iJ .append #[22, 22] 22 [v, t]) w fun t' w => K t' w := by
  refine kP (cells := #[.int .u8 x]) (by decide) (by decide) (by kernel_rfl) fun w5 o5 x5 s5 => ?_
  have z5 := x5.size
  refine TI (m := 1) (news := [.int .u8 x]) (i := Try.t5) Try.underlying22 Try.underlying22 XD rfl rfl rfl (o.ext x5 (fun _ _ h => h)) (o5.cl (off := 0) (l := [.int .u8 x]) (n := 1) rfl (fun i hi => by rw [Nat.zero_add])) (by simp [one]) (fun b hb => ⟨by omega, by omega⟩) (by omega) (by rw [show Try.t5.bytes = 1 from rfl]; omega) (by decide) fun v6 w6 o6 x6 => ?_
  exact hK v6 w6 o6 ((x5.mono fun _ _ h => h.elim).seq x6)
theorem Xv {L : List T3} (h : Vld L) {s : Nat} (hs : s < L.length) : ∃ bs : Int, L[s] = ((jO L s : Int), (fL L s : Int), bs) := by
  have hsome : L[s]? = some L[s] := List.getElem?_eq_getElem hs
  obtain ⟨n, hn, hn2, _, _⟩ := h.low _ (List.getElem_mem hs)
  have hsy := h.sy _ (List.getElem_mem hs)
  refine ⟨L[s].2.2, ?_⟩
  have e1 : fL L s = n := by unfold fL; simp [hsome, hn]
  have e2 : ((jO L s : Nat) : Int) = L[s].1 := by unfold jO; simp only [hsome]; omega
  rw [e1, e2, ← hn]
end Go.Proofs.Ytoepfjgekpdddaa
namespace Go.Proofs.Ytoepfjgekpdddaa
open Go Go.En Go.Pu
set_option maxRecDepth 4000
set_option linter.unusedSimpArgs false
set_option linter.unusedVariables false
def two (i a b : Nat) : List Value := if i % 2 = 0 then [.int .i64 a, .int .i64 b] else [.int .i64 b, .int .i64 a]
theorem XG (i a b : Nat) : (two i a b)[i % 2]? = some (.int .i64 a) := by
  unfold two
  rcases Nat.mod_two_eq_zero_or_one i with h | h <;> rw [h] <;> simp
theorem afN (i a b : Nat) : (two i a b)[(i + 1) % 2]? = some (.int .i64 b) := by
  unfold two
  rcases Nat.mod_two_eq_zero_or_one i with h | h
  · rw [h, show (i + 1) % 2 = 1 from by omega]; simp
  · rw [h, show (i + 1) % 2 = 0 from by omega]; simp
theorem afE (i a b c : Nat) : (two i a b).set (i % 2) (.int .i64 c) = two (i + 1) b c := by
  unfold two
  rcases Nat.mod_two_eq_zero_or_one i with h | h
  · rw [h, show (i + 1) % 2 = 1 from by omega]; simp
  · rw [h, show (i + 1) % 2 = 0 from by omega]; simp
theorem afH (i a b : Nat) : (two i a b).length = 2 := by unfold two; split <;> rfl
theorem XU {p8 p9 b hi lo log : Nat} {L : List T3} {l : List UInt8} {a0 b0 left0 : Nat} {w : World} (hv : Vld L) (hl : l.length ≤ 100000)
    (o8 : fA w p8 [.int .i64 log, .slice (some ⟨b, 0, none⟩) L.length L.length]) (ob : fA w b (fe .u8 L)) (o9 : fA w p9 (two 0 a0 b0)) (hbw : XZ w lo hi l left0)
    (hne : p8 ≠ hi ∧ b ≠ hi ∧ p9 ≠ hi ∧ p8 ≠ p9 ∧ b ≠ p9 ∧ lo ≤ hi ∧ hi < p9) (ha : a0 < L.length) (hb : b0 < L.length) (hleft : left0 ≤ 8 * l.length) {G : Option (List Nat)} (hG : Z4 L (bS l) 256 a0 b0 left0 [] = G)
    {R : Value → World → Prop} (hR : ∀ v w' e, (match G with | none => v = .slice none 0 0 ∧ e = 11 | some m => nG w' w.heap.size 1 v m.length (ZA m) ∧ e = 0) → bZ w w' (fun y => y = p9 ∨ y = hi) → R (.tuple #[v, .int .i64 e]) w') :
    mN R (.pointer (some ⟨hi, 0, none⟩)) (.pointer (some ⟨p8, 0, none⟩)) (.pointer (some ⟨p9, 0, none⟩)) (.slice none 0 0) w := by
  obtain ⟨n1, n2, n3, n4, n5, n6, n7⟩ := hne
  have q8 := o8.lt
  have q9 := o9.lt
  have qb := ob.lt
  have qh := hbw.choose_spec.1.lt
  unfold mN AK yZ qZ Ap
  refine cV.rule (fun m (t : Value × Value) w' => ∃ (i a b' left : Nat) (out : List Nat) (ov : Value), m = 256 - i ∧ t = (ov, .int .i64 i) ∧ i ≤ 256 ∧ out.length = i ∧ a < L.length ∧ b' < L.length ∧ left ≤ 8 * l.length ∧
      fA w' p9 (two i a b') ∧ XZ w' lo hi l left ∧ Z4 L (bS l) (256 - i) a b' left out = G ∧ nG w' w.heap.size 1 ov i (ZA out) ∧ bZ w w' (fun y => y = p9 ∨ y = hi ∨ w.heap.size ≤ y)) 256
    ⟨0, a0, b0, left0, [], _, rfl, rfl, by omega, rfl, ha, hb, hleft, o9, hbw, hG, nG.nil _ _ _, bZ.refl _ _⟩ ?_
  clear o9 hbw hG hleft ha hb
  rintro m t w1 ⟨i, a, b', left, out, ov, rfl, rfl, hi6, hol, ha, hb', hleft, o9, hbw, hG, oo, x1⟩
  have z1 := x1.size
  have x1n : ∀ w2, bZ w1 w2 (fun y => y = p9 ∨ y = hi ∨ w.heap.size ≤ y) → bZ w w2 (fun y => y = p9 ∨ y = hi) := fun w2 x2 => (x1.seq x2).mono fun y hy h => by
    rcases h with h | h | h
    · exact .inl h
    · exact .inr h
    · omega
  have hos : ∀ {w2 : World}, bZ w1 w2 (fun y => w.heap.size ≤ y) → bZ w w2 (fun y => y = p9 ∨ y = hi ∨ w.heap.size ≤ y) := fun x2 => x1.seq (x2.mono fun _ _ h => .inr (.inr h))
  unfold rI
  by_cases hlt : i < 256
  case neg =>
    have d1 : decide ((i : Int) < 256) = false := by simp; omega
    obtain rfl : i = 256 := by omega
    obtain ⟨ao, co, rfl⟩ := oo.len
    have d2 : decide ((256 : Int) ≤ ((256 : Nat) : Int)) = true := by decide
    unfold mQ
    simp (disch := omega) only [aD, bN, d1, hP, Nat.zero_add, rE, gZ, Result.ok.injEq, Next.value.injEq, and_true, bY, bD, true_and, aB, kB, cI, kU, d2, aK, aJ]
    refine hR _ _ 11 ?_ (x1n _ (bZ.refl _ _))
    rw [← hG]
    exact ⟨rfl, rfl⟩
  have d1 : decide ((i : Int) < 256) = true := by simp; omega
  have e1 : (i : Int).tmod 2 = ((i % 2 : Nat) : Int) := by rw [Int.tmod_eq_emod_of_nonneg (by omega)]; simp
  have e2 : ((i : Int) + 1).tmod 2 = (((i + 1) % 2 : Nat) : Int) := by rw [Int.tmod_eq_emod_of_nonneg (by omega)]; omega
  have hj := Nat.mod_lt i (show 0 < 2 by omega)
  have hj1 := Nat.mod_lt (i + 1) (show 0 < 2 by omega)
  have tj : ((i % 2 : Nat) : Int).toNat = i % 2 := Int.toNat_natCast _
  have tj1 : (((i + 1) % 2 : Nat) : Int).toNat = (i + 1) % 2 := Int.toNat_natCast _
  have ta : (a : Int).toNat = a := Int.toNat_natCast _
  have tb : (b' : Int).toNat = b' := Int.toNat_natCast _
  obtain ⟨bs, hea⟩ := Xv hv ha
  obtain ⟨bs2, heb⟩ := Xv hv hb'
  have hta := Xo (k := .u8) ha
  have htb := KE .u8 L b' hb'
  rw [hea] at hta
  rw [heb] at htb
  have hbl := W8 hv.low a
  have hsa := Fi hv a
  have hsb := Fi hv b'
  have ho8 : ∀ {w2 : World}, bZ w w2 (fun y => y = p9 ∨ y = hi ∨ w.heap.size ≤ y) → fA w2 p8 [.int .i64 log, .slice (some ⟨b, 0, none⟩) L.length L.length] := fun x => o8.ext x (by omega)
  have hob : ∀ {w2 : World}, bZ w w2 (fun y => y = p9 ∨ y = hi ∨ w.heap.size ≤ y) → fA w2 b (fe .u8 L) := fun x => ob.ext x (by omega)
  have hent : ∀ {w2 : World}, fA w2 b (fe .u8 L) → (aW 84 (.pointer (some ⟨b, a * 3, none⟩))).run pg w2 = .ok (.value (.agg #[.int .u8 (jO L a), .int .i64 (fL L a), .int .i64 bs])) w2 := fun o => by
    have := MP (off := a * 3) o (by rw [jB]; omega)
    rw [hta] at this
    exact this
  have x1d : bZ w (dr w1) (fun y => y = p9 ∨ y = hi ∨ w.heap.size ≤ y) := x1.seq (bZ.dr _ _)
  have c8 := (ho8 x1d).cell (off := 1)
  have c9 := (iO o9).cell (off := i % 2)
  rw [XG] at c9
  simp only [List.getElem?_cons_zero, List.getElem?_cons_succ] at c8
  have l1 := hent (hob x1d)
  simp (disch := omega) only [aD, bN, d1, hP, Nat.zero_add, rE, e1, gZ, Result.ok.injEq, Next.value.injEq, and_true, bY, bD, true_and, aB, Nj, cP, kB, tj, c8, aP, c9, mK, ta, l1, aK]
  refine PG fun w2 o2 x2 s2 => ?_
  have x12 : bZ w1 w2 fN := (bZ.dr _ _).seq x2
  have xw2 := x1.seq (x12.mono fun _ _ h => h.elim)
  have c8' := (ho8 xw2).cell (off := 1)
  have c9' := (o9.ext x12 (fun h => h)).cell (off := i % 2)
  rw [XG] at c9'
  simp only [List.getElem?_cons_zero, List.getElem?_cons_succ] at c8'
  have l1' := hent (hob xw2)
  simp (disch := omega) only [l1', c9', aP, c8', and_true, kZ, rO, Nat.zero_add, Result.ok.injEq, Next.value.injEq, aB, cP, true_and, fX]
  refine MX o2 rfl (by simp [one]) (by simp) fun w3 o3 x3 s3 => ?_
  simp only [cY, List.set_cons_zero, List.set_cons_succ] at o3
  have hsz2 : (dr w1).heap.size = w1.heap.size := rfl
  rw [hsz2] at o3 x3
  simp only [hsz2]
  have x13 : bZ w1 w3 fN := x12.new x3 (Nat.le_refl _)
  have z3 := o3.lt
  have k0 := o3.cell (off := 0)
  simp only [List.getElem?_cons_zero, List.getElem?_cons_succ] at k0
  simp (disch := omega) only [k0, aP, aB]
  have os3 := (oo.ne (p := w1.heap.size) (Nat.le_refl _)).ext x13 (fun _ _ h => h)
  refine Z9 os3 (by omega) (by omega) (by omega) fun v4 w4 o4 x4 => ?_
  have x14 : bZ w1 w4 (fun y => w.heap.size ≤ y) := (x13.mono fun _ _ h => h.elim).seq (x4.mono fun _ _ h => h.1)
  have z4 := x14.size
  have z34 := x4.size
  have hob4 : ZA out ++ [.int .u8 (jO L a : Nat)] = ZA (out ++ [jO L a]) := by show _ = List.map _ (out ++ [jO L a]); rw [List.map_append]; rfl
  rw [hob4] at o4
  have o34 := o3.ext x4 (by omega)
  have hbw4 : XZ (dr w4) lo hi l left := (hbw.ext x14 (fun b h1 h2 => by omega) n6).ext (bZ.dr _ fN) (fun _ _ _ h => h) n6
  refine (W2 hbw4).mono ?_
  rintro r w5 ⟨rfl, rfl⟩
  have k1 := (iO o34).cell (off := 1)
  simp only [List.getElem?_cons_zero, List.getElem?_cons_succ] at k1
  have xw4 := hos x14
  have xw5 : bZ w (dr (dr w4)) (fun y => y = p9 ∨ y = hi ∨ w.heap.size ≤ y) := (xw4.seq (bZ.dr _ _)).seq (bZ.dr _ _)
  have x15 : bZ w1 (dr (dr w4)) (fun y => w.heap.size ≤ y) := (x14.seq (bZ.dr _ _)).seq (bZ.dr _ _)
  have c8 := (ho8 xw5).cell (off := 1)
  simp only [List.getElem?_cons_zero, List.getElem?_cons_succ] at c8
  have o9d := o9.ext x15 (by omega)
  obtain ⟨f, hf⟩ : ∃ f, 256 - i = f + 1 := ⟨255 - i, by omega⟩
  rw [hf, Z4] at hG
  by_cases hsh : left < fL L a
  · have d3 : decide ((left : Int) < ((fL L a : Nat) : Int)) = true := by simp only [decide_eq_true_eq]; omega
    rw [if_pos hsh] at hG
    have c9 := o9d.cell (off := (i + 1) % 2)
    rw [afN] at c9
    have m0 := (hob xw5).cell (off := b' * 3)
    rw [htb.1] at m0
    simp (disch := omega) only [k1, aP, Result.ok.injEq, Next.value.injEq, and_true, c8, e2, tj1, c9, aB, true_and, mK, tb, Nat.zero_add, kZ, fX, m0, bN, d3, aK]
    have o5 := (o4.ext (bZ.dr w4 fN) (fun _ _ h => h)).ext (bZ.dr (dr w4) fN) (fun _ _ h => h)
    have hszd : (dr (dr w4)).heap.size = w4.heap.size := rfl
    refine Z9 o5 (by rw [hszd]; omega) (by rw [hszd]; omega) (by omega) fun v6 w6 o6 x6 => ?_
    have hob6 : ZA (out ++ [jO L a]) ++ [.int .u8 (jO L b' : Nat)] = ZA (out ++ [jO L a, jO L b']) := by show List.map _ (out ++ [jO L a]) ++ _ = List.map _ (out ++ [jO L a, jO L b']); rw [List.map_append, List.map_append, List.append_assoc]; rfl
    rw [hob6] at o6
    have o6l := o6.osl
    obtain ⟨a6, c6, rfl⟩ := o6.len
    unfold mQ
    have x16 : bZ w1 w6 (fun y => y = p9 ∨ y = hi ∨ w.heap.size ≤ y) := (x15.mono fun _ _ h => .inr (.inr h)).seq (x6.mono fun _ _ h => .inr (.inr h.1))
    by_cases h255 : 255 < out.length + 2
    · rw [if_pos h255] at hG
      have d4 : decide ((256 : Int) ≤ ((i + 1 + 1 : Nat) : Int)) = true := by simp only [decide_eq_true_eq]; omega
      simp (disch := omega) only [aD, cI, aB, kU, d4, aK]
      refine hR _ _ 11 ?_ (x1n _ x16)
      rw [← hG]; exact ⟨rfl, rfl⟩
    · rw [if_neg h255] at hG
      have d4 : decide ((256 : Int) ≤ ((i + 1 + 1 : Nat) : Int)) = false := by simp only [decide_eq_false_iff_not]; omega
      simp (disch := omega) only [aD, cI, aB, kU, d4, aJ]
      refine hR _ _ 0 ?_ (x1n _ x16)
      rw [← hG]
      refine ⟨?_, rfl⟩
      rw [show (out ++ [jO L a, jO L b']).length = i + 1 + 1 from by rw [List.length_append]; simp; omega]
      exact o6l
  · have d3 : decide ((left : Int) < ((fL L a : Nat) : Int)) = false := by simp only [decide_eq_false_iff_not]; omega
    rw [if_neg hsh] at hG
    have c9 := o9d.cell (off := i % 2)
    rw [XG] at c9
    have l8 := Hs (off := 0) (ho8 xw5) (by simp)
    simp only [List.drop_zero, List.take_succ_cons, List.take_zero] at l8
    simp (disch := omega) only [k1, aP, Result.ok.injEq, Next.value.injEq, and_true, l8, c9, aB, true_and, bN, d3, aJ]
    have hbw5 : XZ (dr (dr w4)) lo hi l left := hbw4.ext (bZ.dr _ fN) (fun _ _ _ h => h) n6
    have hszd : (dr (dr w4)).heap.size = w4.heap.size := rfl
    refine (abL (base := 0) (b := b) (L := L) (s := a) ⟨rfl, Nat.zero_le _, hob xw5⟩ hv.low (by have := hv.len; omega) hbw5 n6 (by omega) n2 (by omega) (by omega) (by omega)).mono ?_
    rintro r w6 ⟨rfl, hbw6, x6⟩
    have tl : (left : Int).toNat = left := Int.toNat_natCast _
    rw [tl]
    have hln := lC ((bS l).take left) (fL L a)
    obtain ⟨g1, g2⟩ := hv.nx a ha _ hln
    obtain ⟨c, hc⟩ : ∃ c : Nat, lU L a (kH ((bS l).take left) (fL L a)) = c := ⟨_, (Int.toNat_of_nonneg g1).symm⟩
    rw [hc] at g2 hG ⊢
    rw [Int.toNat_natCast] at g2 hG
    have o96 := o9d.ext x6 (by omega)
    refine pH o96 rfl (by rw [afH]; omega) fun w7 o7 x7 s7 => ?_
    rw [afE] at o7
    have x17 : bZ w1 w7 (fun y => y = p9 ∨ y = hi ∨ w.heap.size ≤ y) := ((x15.mono fun _ _ h => .inr (.inr h)).seq (x6.mono fun _ _ h => .inr (.inl h))).seq (x7.mono fun _ _ h => .inl h)
    have hbw7 := hbw6.ext x7 (fun b h1 h2 => by omega) n6
    have o47 := ((o4.ext (bZ.dr w4 fN) (fun _ _ h => h)).ext (bZ.dr (dr w4) fN) (fun _ _ h => h)).ext x6 (fun b h hh => by omega) |>.ext x7 (fun b h hh => by omega)
    refine ⟨f, by omega, i + 1, b', c, left - fL L a, out ++ [jO L a], v4, by omega, rfl, by omega, by rw [List.length_append, hol]; rfl, hb', g2, by omega, o7, ?_, ?_, o47.osl, x1.seq x17⟩
    · rw [show ((left - fL L a : Nat) : Int) = (left : Int) - (fL L a : Nat) from by omega]; exact hbw7
    · rw [show 256 - (i + 1) = f from by omega]; exact hG
end Go.Proofs.Ytoepfjgekpdddaa
namespace Go.Proofs.Ytoepfjgekpdddaa
open Go Go.En Go.Pu
set_option maxRecDepth 4000
set_option linter.unusedSimpArgs false
set_option linter.unusedVariables false
def lY (l : List UInt8) : Except Int (List Nat) := match uY (bS l) 6 12 with
  | .error e => .error e
  | .ok (lg, ps, n) => match Wi (l.drop n) with
    | none => .error 11
    | some k => if k < 2 * lg then .error 11 else
      match Z4 (nE lg ps) (bS (l.drop n)) 256 (kH ((bS (l.drop n)).take k) lg) (kH ((bS (l.drop n)).take (k - lg)) lg) (k - 2 * lg) [] with
      | none => .error 11
      | some m => .ok m
def ahQ (w : World) (base : Nat) (o : Except Int (List Nat)) (r : Value) : Prop := match o with
  | .error e => r = .tuple #[.slice none 0 0, .int .i64 e]
  | .ok m => ∃ v, r = .tuple #[v, .int .i64 0] ∧ nG w base 1 v m.length ((nH m).map Ic)
theorem VD {l : List UInt8} {m : List Nat} (h : lY l = .ok m) : (∀ x ∈ m, x < 256) ∧ m.length ≤ 255 := by
  unfold lY at h
  split at h
  · cases h
  · rename_i lg ps n hr
    obtain ⟨h1, h2, h3⟩ := Wm hr
    have hm := h1 (by omega)
    split at h
    · cases h
    · split at h
      · cases h
      · split at h
        · cases h
        · rename_i hs
          cases h
          exact ZJ (OQ hm) hs (by simp)
theorem aeO {p8 p9 b hi lo log k : Nat} {L : List T3} {l : List UInt8} {w : World} (hl : l.length ≤ 100000) (hlog : log ≤ 15) (hlen : L.length = 2 ^ log)
    (o8 : fA w p8 [.int .i64 log, .slice (some ⟨b, 0, none⟩) L.length L.length]) (o9 : fA w p9 [.int .i64 0, .int .i64 0]) (hbw : XZ w lo hi l k)
    (hne : p8 ≠ hi ∧ p9 ≠ hi ∧ p8 ≠ p9 ∧ lo ≤ hi ∧ hi < p9) (hk : k ≤ 8 * l.length) {R : Value → World → Prop}
    (hR : ∀ w', fA w' p9 (two 0 (kH ((bS l).take k) log) (kH ((bS l).take (k - log)) log)) → XZ w' lo hi l ((k : Int) - log - log) → bZ w w' (fun y => y = p9 ∨ y = hi) →
      mU R (.pointer (some ⟨hi, 0, none⟩)) (.pointer (some ⟨p8, 0, none⟩)) (.pointer (some ⟨p9, 0, none⟩)) w') :
    lN R (.pointer (some ⟨hi, 0, none⟩)) (.pointer (some ⟨p8, 0, none⟩)) (.pointer (some ⟨p9, 0, none⟩)) w := by
  obtain ⟨n1, n3, n4, n6, n7⟩ := hne
  have q9 := o9.lt
  have qh := hbw.choose_spec.1.lt
  have hp : 2 ^ log ≤ 2 ^ 15 := Nat.pow_le_pow_right (by omega) hlog
  unfold lN xM xX pN xS
  have hla := lC ((bS l).take k) log
  have hlb := lC ((bS l).take (k - log)) log
  obtain ⟨a, ha⟩ : ∃ a, kH ((bS l).take k) log = a := ⟨_, rfl⟩
  obtain ⟨b', hb'⟩ : ∃ a, kH ((bS l).take (k - log)) log = a := ⟨_, rfl⟩
  rw [ha, hb'] at hR
  refine cV.rule (fun m (t : Value) w' => ∃ (i : Nat), m = 2 - i ∧ t = .int .i64 i ∧ i ≤ 2 ∧ fA w' p9 (if i = 0 then [.int .i64 0, .int .i64 0] else if i = 1 then [.int .i64 a, .int .i64 0] else [.int .i64 a, .int .i64 b']) ∧ XZ w' lo hi l ((k : Int) - i * log) ∧ bZ w w' (fun y => y = p9 ∨ y = hi)) 2
    ⟨0, rfl, rfl, by omega, o9, by simpa using hbw, bZ.refl _ _⟩ ?_
  rintro m t w1 ⟨i, rfl, rfl, hi2, o9, hbw, x1⟩
  have z1 := x1.size
  unfold oY
  have hcase : i = 0 ∨ i = 1 ∨ i = 2 := by omega
  have o81 := o8.ext x1 (by omega)
  have l8 := Hs (off := 0) o81 (by simp)
  simp only [List.drop_zero, List.take_succ_cons, List.take_zero] at l8
  rcases hcase with rfl | rfl | rfl
  · have d1 : decide (((0 : Nat) : Int) < 2) = true := rfl
    simp (disch := omega) only [aD, bN, d1, Nj, Int.toNat_natCast, Nat.zero_add, bY, bD, aB, l8, aK]
    refine (VB hbw n6 (by omega) (by omega) (by omega) (by omega) (by omega)).mono ?_
    rintro r w2 ⟨rfl, hbw2, x2⟩
    rw [show ((k : Int) - ((0 : Nat) : Int) * (log : Nat)).toNat = k from by omega, ha]
    refine pH (o9.ext x2 (by omega)) rfl (by simp) fun w3 o3 x3 s3 => ?_
    refine ⟨1, by omega, 1, rfl, rfl, by omega, o3, ?_, (x1.seq (x2.mono fun _ _ h => .inr h)).seq (x3.mono fun _ _ h => .inl h)⟩
    have := hbw2.ext x3 (fun b h1 h2 => by omega) n6
    rwa [show (k : Int) - ((0 : Nat) : Int) * (log : Nat) - (log : Nat) = (k : Int) - ((1 : Nat) : Int) * (log : Nat) from by omega] at this
  · have d1 : decide (((1 : Nat) : Int) < 2) = true := rfl
    have t1 : ((1 : Nat) : Int).toNat = 1 := rfl
    simp (disch := omega) only [aD, bN, d1, Nj, Int.toNat_natCast, Nat.zero_add, bY, bD, aB, l8, aK]
    refine (VB hbw n6 (by omega) (by omega) (by omega) (by omega) (by omega)).mono ?_
    rintro r w2 ⟨rfl, hbw2, x2⟩
    rw [show ((k : Int) - ((1 : Nat) : Int) * (log : Nat)).toNat = k - log from by omega, hb']
    refine pH (o9.ext x2 (by omega)) rfl (by simp) fun w3 o3 x3 s3 => ?_
    refine ⟨0, by omega, 2, rfl, rfl, by omega, o3, ?_, (x1.seq (x2.mono fun _ _ h => .inr h)).seq (x3.mono fun _ _ h => .inl h)⟩
    have := hbw2.ext x3 (fun b h1 h2 => by omega) n6
    rwa [show (k : Int) - ((1 : Nat) : Int) * (log : Nat) - (log : Nat) = (k : Int) - ((2 : Nat) : Int) * (log : Nat) from by omega] at this
  · have d1 : decide (((2 : Nat) : Int) < 2) = false := rfl
    simp (disch := omega) only [aD, bN, d1, bY, bD, aB, aJ]
    refine hR w1 o9 ?_ x1
    rwa [show (k : Int) - ((2 : Nat) : Int) * (log : Nat) = (k : Int) - (log : Nat) - (log : Nat) from by omega] at hbw
theorem adC {v : Value} {l : List UInt8} {w : World} (h : Bs w v l) (hl : l.length ≤ 1000) :
    cC pg tN #[v] w (fun r w' => ahQ w' w.heap.size (lY l) r ∧ bZ w w' fN) := by
  refine Ml ?_
  obtain ⟨RR, hRR⟩ : ∃ RR : Value → World → Prop, RR = fun r w' => ahQ w' w.heap.size (lY l) r ∧ bZ w w' fN := ⟨_, rfl⟩
  rw [← hRR]
  have key : ∀ r w', ahQ w' w.heap.size (lY l) r → bZ w w' fN → RR r w' := fun r w' h1 h2 => by rw [hRR]; exact ⟨h1, h2⟩
  obtain ⟨av, nv, cv, hvv, hnv, hcv, _⟩ := id h
  rw [List.length_map] at hnv
  subst hnv
  have hv' := hvv
  subst hv'
  unfold LA xD xI pO xL xQ
  refine (Zn (most := 6) (sym := 12) h (by omega) (by omega)).mono ?_
  rintro r w1 ⟨hr, x1⟩
  unfold lY at key
  cases hrd : uY (bS l) 6 12 with
  | error e =>
    rw [hrd] at hr key
    have he := R8 hrd
    obtain rfl := hr
    have n1 : (e != 0) = true := by simp [he]
    simp (disch := omega) only [aD, UU, UY, Ul, TM, aB, fP, gX]
    refine tI fun w2 o2 x2 s2 => ?_
    refine mZ o2 rfl (by simp [one]) (by simp) fun w3 o3 x3 s3 => ?_
    simp (disch := omega) only [n1, aK]
    exact key _ _ rfl (x1.seq (x2.new x3 (by omega)))
  | ok x =>
    obtain ⟨lg, ps, n⟩ := x
    rw [hrd] at hr key
    simp only at key
    obtain ⟨hmay, hlg6, hps12⟩ := Wm hrd
    have hm := hmay (by omega)
    have hused := VQ hrd
    rw [gS] at hused
    obtain ⟨pv, rfl, op⟩ := hr
    obtain ⟨pa, pc, rfl⟩ := op.len
    have n1 : ((0 : Int) != 0) = false := rfl
    simp (disch := omega) only [aD, UU, UY, Ul, TM, aB, fP, gX, Int.toNat_natCast]
    refine tI fun w2 o2 x2 s2 => ?_
    refine mZ o2 rfl (by simp [one]) (by simp) fun w3 o3 x3 s3 => ?_
    simp only [cY, List.set_cons_zero, List.set_cons_succ] at o3
    have x13 : bZ w1 w3 fN := x2.new x3 (by omega)
    have x03 := x1.seq x13
    have hb3 := h.ext x03 (eI _)
    have hdr := hb3.drop' (k := n) (by omega)
    rw [← List.map_drop] at hdr
    have hdr : Bs w3 _ (l.drop n) := hdr
    have tn : (n : Int).toNat = n := Int.toNat_natCast _
    have hdl : (l.drop n).length ≤ 1000 := by rw [List.length_drop]; omega
    simp (disch := omega) only [n1, aJ]
    generalize l.drop n = l' at *
    cases he : Wi l' with
    | none =>
      rw [he] at key
      refine (U8 hdr he (by omega)).mono ?_
      rintro r w4 ⟨rfl, rfl⟩
      have n2 : ((11 : Int) != 0) = true := rfl
      simp (disch := omega) only [vU, wU, aB, fP, n2, aK]
      exact key _ _ rfl x03
    | some k =>
      rw [he] at key
      simp only at key
      have hk := LP he
      refine (Wl hdr he (by omega)).mono ?_
      rintro r w4 ⟨hi, rfl, hlh, hhi, hbw, x4⟩
      have o34 := o3.ext x4 (fun h => h)
      have l3 := jX (off := 0) o34 (by simp)
      simp only [List.drop_zero, List.take_succ_cons, List.take_zero] at l3
      simp (disch := omega) only [vU, wU, aB, fP, n1, aJ, l3]
      have op4 := (op.ext x13 (fun _ _ h => h)).ext x4 (fun _ _ h => h)
      refine (afL hm op4.sl).mono ?_
      rintro r w5 ⟨b, tv, rfl, ⟨rfl, hb5, ob⟩, x5⟩
      simp (disch := omega) only [vU, wU, aB, fP]
      refine D6 fun w6 o6 x6 s6 => ?_
      refine Cf o6 rfl (by simp [one]) (by simp) fun w7 o7 x7 s7 => ?_
      simp only [cY, List.set_cons_zero, List.set_cons_succ] at o7
      simp (disch := omega) only [n1, aJ]
      refine Zh fun w8 o8 x8 s8 => ?_
      refine X7 o8 rfl (by simp [one]) (by simp) fun w9 o9 x9 s9 => ?_
      simp only [cY, List.set_cons_zero, List.set_cons_succ] at o9
      have x57 : bZ w5 w7 fN := x6.new x7 (by omega)
      have x79 : bZ w7 w9 fN := x8.new x9 (by omega)
      have x59 := x57.seq x79
      have x49 := x5.seq x59
      have x39 := x4.seq x49
      have z4 := x4.size
      have z5 := x5.size
      have z57 := x57.size
      have z79 := x79.size
      have qb := ob.lt
      have q6 := o7.lt
      have o79 := o7.ext x79 (fun h => h)
      have hN : (nE lg ps).length = 2 ^ lg := nF lg ps
      have h15 := hm.log15
      have hv := OQ hm
      have hla := lC ((bS l').take k) lg
      have hlb := lC ((bS l').take (k - lg)) lg
      have ob9 := ob.ext x59 (fun h => h)
      rw [← hN] at hla hlb
      generalize nE lg ps = L at *
      refine aeO (L := L) (l := l') (k := k) (by omega) h15 hN o79 o9 (hbw.ext x49 (fun _ _ _ h => h) hlh) (by omega) (by omega) fun w10 o10 hbw10 x10 => ?_
      have x010 : bZ w w10 fN := (x03.seq x39).trans x10 fun y hy h => by have := x03.size; omega
      unfold mU zK
      refine (W2 hbw10).mono ?_
      rintro r w11 ⟨rfl, rfl⟩
      by_cases hlt : k < 2 * lg
      · rw [if_pos hlt] at key
        have d1 : decide ((k : Int) - (lg : Nat) - (lg : Nat) < 0) = true := by simp only [decide_eq_true_eq]; omega
        simp (disch := omega) only [aD, bN, d1, aB, aK]
        exact key _ _ rfl x010
      · rw [if_neg hlt] at key
        have d1 : decide ((k : Int) - (lg : Nat) - (lg : Nat) < 0) = false := by simp only [decide_eq_false_iff_not]; omega
        simp (disch := omega) only [aD, bN, d1, aB, aJ]
        have z10 := x10.size
        refine XU (left0 := k - 2 * lg) (L := L) (l := l') (G := Z4 L (bS l') 256 (kH ((bS l').take k) lg) (kH ((bS l').take (k - lg)) lg) (k - 2 * lg) []) hv (by omega) (o79.ext x10 (by omega)) (ob9.ext x10 (by omega)) o10
          (by rw [show ((k - 2 * lg : Nat) : Int) = (k : Int) - (lg : Nat) - (lg : Nat) from by omega]; exact hbw10) (by omega) hla hlb (by omega) rfl fun v' w12 e hG x12 => ?_
        have x012 : bZ w w12 fN := x010.trans x12 fun y hy h => by have := x03.size; omega
        refine key _ _ ?_ x012
        cases hs : Z4 L (bS l') 256 (kH ((bS l').take k) lg) (kH ((bS l').take (k - lg)) lg) (k - 2 * lg) [] with
        | none =>
          rw [hs] at hG
          obtain ⟨rfl, rfl⟩ := hG
          exact rfl
        | some m =>
          rw [hs] at hG
          obtain ⟨om, rfl⟩ := hG
          refine ⟨v', rfl, ?_⟩
          rw [VI (ZJ hv hs (by simp)).1]
          exact om.lower (by have := x03.size; omega)
end Go.Proofs.Ytoepfjgekpdddaa
namespace Go.Proofs.Ytoepfjgekpdddaa
open Go Go.En Go.Pu
set_option maxRecDepth 4000
set_option linter.unusedSimpArgs false
set_option linter.unusedVariables false
theorem aeT {k : IntKind} {L : List T3} {rest : List Value} {i : Nat} (h : i < L.length) : ((fe k L ++ rest).drop (i * 3)).take 3 = [.int k L[i].1, .int .i64 L[i].2.1, .int .i64 L[i].2.2] := by
  have hl := jB k L
  rw [List.drop_append_of_le_length (by omega), List.take_append_of_le_length (by rw [List.length_drop]; omega), Xo h]
def Vi (o : Except Int (List Nat)) (r : Value) : Prop := match o with
  | .error e => r = .tuple #[.string ⟨#[]⟩, .int .i64 e]
  | .ok m => r = .tuple #[.string ⟨(nH m).toArray⟩, .int .i64 0]
theorem agK {w : World} {lo hi : Nat} {b : Value} {B : List Bool} {left n : Nat} (hl : left ≤ B.length) (hn : n ≤ left)
    (h : RB w lo hi b ((B.take left).take ((B.take left).length - min n (B.take left).length)) (0 + (n - min n (B.take left).length))) : RB w lo hi b (B.take (left - n)) 0 := by
  have e : (B.take left).length = left := by rw [List.length_take]; omega
  rw [e, show 0 + (n - min n left) = 0 from by omega, List.take_take, show min (left - min n left) left = left - n from by omega] at h
  exact h
theorem Ue {p7 p8 b lo hi log cc : Nat} {L : List T3} {l : List UInt8} {a0 b0 left0 : Nat} {bv : Value} {rest : List Value} {w w0 : World} (hv : Vld L) (hl : l.length ≤ 100000)
    (o8 : fA w p8 [.int .i64 log, .slice (some ⟨b, 0, none⟩) L.length cc]) (ob : fA w b (fe .i64 L ++ rest)) (o7 : fA w p7 bv.cells.toList) (hrb : RB w lo hi bv ((bS l).take left0) 0)
    (hne : p8 ≠ p7 ∧ b ≠ p7 ∧ hi ≤ p7 ∧ w0.heap.size ≤ p7) (ha : a0 < L.length) (hb : b0 < L.length) (hleft : left0 ≤ 8 * l.length) {G : Option (List Nat)} (hG : Z4 L (bS l) 256 a0 b0 left0 [] = G) (x0 : bZ w0 w fN)
    {R : Value → World → Prop} (hR : ∀ r w', Vi (match G with | none => .error 11 | some m => .ok m) r → bZ w0 w' fN → R r w') :
    pR R (.pointer (some ⟨p7, 0, none⟩)) (.pointer (some ⟨p8, 0, none⟩)) (.int .i64 a0) (.int .i64 b0) (.slice none 0 0) w := by
  obtain ⟨n1, n2, n3, n4⟩ := hne
  have q8 := o8.lt
  have q7 := o7.lt
  have qb := ob.lt
  unfold pR CT CP
  refine cV.rule (fun m (t : Value × Value × Value) w' => ∃ (i a b' left : Nat) (out : List Nat) (ov bv : Value), m = 256 - i ∧ t = (.int .i64 a, .int .i64 b', ov) ∧ i ≤ 256 ∧ out.length = i ∧ a < L.length ∧ b' < L.length ∧ left ≤ 8 * l.length ∧
      fA w' p7 bv.cells.toList ∧ RB w' lo hi bv ((bS l).take left) 0 ∧ Z4 L (bS l) (256 - i) a b' left out = G ∧ nG w' w.heap.size 1 ov i (ZA out) ∧ (∀ x ∈ out, x < 256) ∧ bZ w w' (fun y => y = p7 ∨ w.heap.size ≤ y)) 256
    ⟨0, a0, b0, left0, [], _, bv, rfl, rfl, by omega, rfl, ha, hb, hleft, o7, hrb, hG, nG.nil _ _ _, by simp, bZ.refl _ _⟩ ?_
  clear o7 hrb hG hleft ha hb
  rintro m t w1 ⟨i, a, b', left, out, ov, bv, rfl, rfl, hi6, hol, ha, hb', hleft, o7, hrb, hG, oo, hout, x1⟩
  have z1 := x1.size
  have x0n : ∀ {w2 : World}, bZ w w2 (fun y => y = p7 ∨ w.heap.size ≤ y) → bZ w0 w2 fN := fun x2 => x0.trans x2 fun y hy h => by have := x0.size; omega
  have hrb' := hrb
  obtain ⟨v, rfl, hs, hat⟩ := hrb
  obtain ⟨a', c', rfl, hc⟩ := Br hs
  simp only [Value.cells] at o7
  obtain ⟨ao, co, rfl⟩ := oo.len
  unfold vX
  by_cases hlt : i < 256
  case neg =>
    have d1 : decide ((i : Int) < 256) = false := by simp; omega
    obtain rfl : i = 256 := by omega
    unfold wG
    simp (disch := omega) only [aD, cI, dX, Nat.zero_add, gZ, and_true, aB, dQ, bN, d1, aJ]
    refine hR _ _ ?_ (x0n x1)
    rw [← hG]
    exact rfl
  have d1 : decide ((i : Int) < 256) = true := by simp; omega
  have ta : (a : Int).toNat = a := Int.toNat_natCast _
  have tb : (b' : Int).toNat = b' := Int.toNat_natCast _
  obtain ⟨bs, hea⟩ := Xv hv ha
  obtain ⟨bs2, heb⟩ := Xv hv hb'
  have hta := aeT (k := .i64) (rest := rest) ha
  have htb := KE .i64 L b' hb'
  have hfl := jB .i64 L
  rw [hea] at hta
  rw [heb] at htb
  have hbl := W8 hv.low a
  have hsa := Fi hv a
  have hsb := Fi hv b'
  have ho8 : ∀ {w2 : World}, bZ w w2 (fun y => y = p7 ∨ w.heap.size ≤ y) → fA w2 p8 [.int .i64 log, .slice (some ⟨b, 0, none⟩) L.length cc] := fun x => o8.ext x (by omega)
  have hob : ∀ {w2 : World}, bZ w w2 (fun y => y = p7 ∨ w.heap.size ≤ y) → fA w2 b (fe .i64 L ++ rest) := fun x => ob.ext x (by omega)
  have hos : ∀ {w2 : World}, bZ w1 w2 (fun y => w.heap.size ≤ y) → bZ w w2 (fun y => y = p7 ∨ w.heap.size ≤ y) := fun x2 => x1.seq (x2.mono fun _ _ h => .inr h)
  have c8 := (ho8 x1).cell (off := 1)
  simp only [List.getElem?_cons_zero, List.getElem?_cons_succ] at c8
  have l1 := J3 (off := a * 3) (hob x1) (by rw [List.length_append, hfl]; omega)
  rw [hta] at l1
  have ew : IntKind.u8.wrap (jO L a : Nat) = (jO L a : Nat) := CI (by omega) (by omega)
  have ewb : IntKind.u8.wrap (jO L b' : Nat) = (jO L b' : Nat) := CI (by omega) (by omega)
  simp (disch := omega) only [aD, cI, dX, Nat.zero_add, gZ, and_true, aB, dQ, bN, d1, c8, aP, fH, ta, l1, aK]
  refine Kk fun w2 o2 x2 s2 => ?_
  refine Jy o2 rfl (by simp [one]) (by simp) fun w3 o3 x3 s3 => ?_
  simp only [cY, List.set_cons_zero, List.set_cons_succ] at o3
  have x13 : bZ w1 w3 fN := x2.new x3 (Nat.le_refl _)
  have z3 := o3.lt
  have k0 := o3.cell (off := 0)
  simp only [List.getElem?_cons_zero, List.getElem?_cons_succ] at k0
  simp (disch := omega) only [iG, mH, Nat.zero_add, Result.ok.injEq, Next.value.injEq, and_true, aB, cP, true_and, k0, aP, fI, ew]
  have os3 := (oo.ne (p := w1.heap.size) (Nat.le_refl _)).ext x13 (fun _ _ h => h)
  refine Z9 os3 (by omega) (by omega) (by omega) fun v4 w4 o4 x4 => ?_
  have x14 : bZ w1 w4 (fun y => w.heap.size ≤ y) := (x13.mono fun _ _ h => h.elim).seq (x4.mono fun _ _ h => h.1)
  have z4 := x14.size
  have z34 := x4.size
  have hob4 : ZA out ++ [.int .u8 (jO L a : Nat)] = ZA (out ++ [jO L a]) := by show _ = List.map _ (out ++ [jO L a]); rw [List.map_append]; rfl
  rw [hob4] at o4
  have o34 := o3.ext x4 (by omega)
  have o74 := o7.ext x14 (by omega)
  have l7 := fC (off := 0) (iO o74) (by simp)
  simp only [List.drop_zero, List.take_succ_cons, List.take_zero] at l7
  have hrb4 := (hrb'.ext x14 (fun b h1 h2 => by omega)).ext (bZ.dr _ fN) (fun _ _ _ h => h)
  have hBl : (bS l).length = 8 * l.length := gS l
  have htl : ((bS l).take left).length = left := by rw [List.length_take]; omega
  simp (disch := omega) only [l7, aB, true_and]
  refine (WL hrb4 (by omega) (by omega)).mono ?_
  rintro r w5 ⟨rfl, x5⟩
  have x45 : bZ w4 w5 fN := (bZ.dr _ _).seq x5
  have x15 : bZ w1 w5 (fun y => w.heap.size ≤ y) := x14.seq (x45.mono fun _ _ h => h.elim)
  have xw5 := hos x15
  have z5 := x45.size
  rw [htl, show ((left : Nat) : Int) - ((0 : Nat) : Int) = left from by omega]
  have k1d := (iO o34).cell (off := 1)
  have k1 := (o34.ext x45 (fun h => h)).cell (off := 1)
  simp only [List.getElem?_cons_zero, List.getElem?_cons_succ] at k1 k1d
  have c85 := (ho8 xw5).cell (off := 1)
  simp only [List.getElem?_cons_zero, List.getElem?_cons_succ] at c85
  have o45 := o4.ext x45 (fun _ _ h => h)
  have o75 := o74.ext x45 (fun h => h)
  obtain ⟨f, hf⟩ : ∃ f, 256 - i = f + 1 := ⟨255 - i, by omega⟩
  rw [hf, Z4] at hG
  by_cases hsh : left < fL L a
  · have d3 : decide ((left : Int) < ((fL L a : Nat) : Int)) = true := by simp only [decide_eq_true_eq]; omega
    rw [if_pos hsh] at hG
    have m0 := (hob xw5).cell (off := b' * 3)
    rw [List.getElem?_append_left (by omega), htb.1] at m0
    simp (disch := omega) only [k1, aP, k1d, Result.ok.injEq, Next.value.injEq, and_true, c85, aB, fH, tb, Nat.zero_add, iG, cP, m0, fI, ewb, bN, d3, aK, true_and]
    refine Z9 o45 (by omega) (by omega) (by omega) fun v6 w6 o6 x6 => ?_
    have hob6 : ZA (out ++ [jO L a]) ++ [.int .u8 (jO L b' : Nat)] = ZA (out ++ [jO L a, jO L b']) := by show List.map _ (out ++ [jO L a]) ++ _ = List.map _ (out ++ [jO L a, jO L b']); rw [List.map_append, List.map_append, List.append_assoc]; rfl
    rw [hob6] at o6
    have o6l := o6.osl
    have hm2 : ∀ x ∈ out ++ [jO L a, jO L b'], x < 256 := fun x hx => by
      rcases List.mem_append.1 hx with hx | hx
      · exact hout x hx
      · simp only [List.mem_cons, List.not_mem_nil, or_false] at hx
        rcases hx with rfl | rfl
        · exact hsa
        · exact hsb
    rw [← VI hm2] at o6l
    have hb6 : Bs w6 v6 (nH (out ++ [jO L a, jO L b'])) := o6l.sl
    obtain ⟨a6, c6, rfl⟩ := o6.len
    have x16 : bZ w w6 (fun y => y = p7 ∨ w.heap.size ≤ y) := xw5.seq (x6.mono fun _ _ h => .inr h.1)
    by_cases h255 : 255 < out.length + 2
    · rw [if_pos h255] at hG
      have d4 : decide ((255 : Int) < ((i + 1 + 1 : Nat) : Int)) = true := by simp only [decide_eq_true_eq]; omega
      simp (disch := omega) only [cI, aB, dM, d4, aK]
      refine hR _ _ ?_ (x0n x16)
      rw [← hG]; exact rfl
    · rw [if_neg h255] at hG
      have d4 : decide ((255 : Int) < ((i + 1 + 1 : Nat) : Int)) = false := by simp only [decide_eq_false_iff_not]; omega
      have hcv := kK hb6
      simp (disch := omega) only [cI, aB, dM, d4, hcv, aJ]
      refine hR _ _ ?_ (x0n x16)
      rw [← hG]; exact rfl
  · have d3 : decide ((left : Int) < ((fL L a : Nat) : Int)) = false := by simp only [decide_eq_false_iff_not]; omega
    rw [if_neg hsh] at hG
    have l8 := mC (off := 0) (ho8 xw5) (by simp)
    have l75 := fC (off := 0) o75 (by simp)
    simp only [List.drop_zero, List.take_succ_cons, List.take_zero] at l8 l75
    simp (disch := omega) only [k1, aP, k1d, Result.ok.injEq, Next.value.injEq, and_true, l8, aB, l75, bN, d3, aJ, true_and]
    have hrb5 := hrb4.ext x5 (fun _ _ _ h => h)
    refine (Y1 (b := b) (L := L) (s := a) ⟨cc, rest, rfl, hob xw5⟩ hv.low (by have := hv.len; omega) hrb5 (by omega) (by omega) (by omega)).mono ?_
    rintro r w6 ⟨bv6, rfl, hrb6, x6⟩
    have hrb6 := agK (by omega) (by omega) hrb6
    have hln := lC ((bS l).take left) (fL L a)
    obtain ⟨g1, g2⟩ := hv.nx a ha _ hln
    obtain ⟨c, hc⟩ : ∃ c : Nat, lU L a (kH ((bS l).take left) (fL L a)) = c := ⟨_, (Int.toNat_of_nonneg g1).symm⟩
    rw [hc] at g2 hG ⊢
    rw [Int.toNat_natCast] at g2 hG
    have hrb6' := hrb6
    obtain ⟨v6, rfl, hs6, hat6⟩ := hrb6
    obtain ⟨a6, c6, rfl, hc6⟩ := Br hs6
    simp (disch := omega) only [vU, wU, aB]
    refine dK (o75.ext x6 (fun h => h)) rfl (by simp [one]) (by simp) fun w7 o7' x7 s7 => ?_
    simp only [cY, List.set_cons_zero, List.set_cons_succ] at o7'
    have x17 : bZ w w7 (fun y => y = p7 ∨ w.heap.size ≤ y) := (xw5.seq (x6.mono fun _ _ h => h.elim)).seq (x7.mono fun _ _ h => .inl h)
    have o47 := (o45.ext x6 (fun _ _ h => h)).ext x7 (fun b h hh => by omega)
    refine ⟨f, by omega, i + 1, b', c, left - fL L a, out ++ [jO L a], v4, .agg #[.slice a6 ((bS l).take (left - fL L a)).length c6, .int .i64 (0 : Nat)], by omega, rfl, by omega, by rw [List.length_append, hol]; rfl, hb', g2, by omega, o7', hrb6'.ext x7 (fun b h1 h2 => by omega), ?_, o47.osl, ?_, x17⟩
    · rw [show 256 - (i + 1) = f from by omega]; exact hG
    · intro x hx
      rcases List.mem_append.1 hx with hx | hx
      · exact hout x hx
      · rw [List.mem_singleton.1 hx]; exact hsa
end Go.Proofs.Ytoepfjgekpdddaa
namespace Go.Proofs.Ytoepfjgekpdddaa
open Go Go.En Go.Pu
set_option maxRecDepth 4000
set_option linter.unusedSimpArgs false
set_option linter.unusedVariables false
theorem ZZ {l : List UInt8} {left : Int} {n : Nat} (h1 : left ≤ 8 * l.length) :
    ((bS l).take left.toNat).take (((bS l).take left.toNat).length - min n ((bS l).take left.toNat).length) = (bS l).take (left - n).toNat ∧
    (-left).toNat + (n - min n ((bS l).take left.toNat).length) = (-(left - n)).toNat := by
  have hlen : ((bS l).take left.toNat).length = left.toNat := by rw [List.length_take, gS]; omega
  rw [hlen]
  constructor
  · rw [List.take_take]; congr 1; omega
  · omega
theorem YG {x : ByteArray} {w : World} (hl : x.size ≤ 1000) :
    cC pg zE #[.string x] w (fun r w' => Vi (lY (nJ x)) r ∧ bZ w w' fN) := by
  refine O6 ?_
  obtain ⟨RR, hRR⟩ : ∃ RR : Value → World → Prop, RR = fun r w' => Vi (lY (nJ x)) r ∧ bZ w w' fN := ⟨_, rfl⟩
  rw [← hRR]
  have key : ∀ r w', Vi (lY (nJ x)) r → bZ w w' fN → RR r w' := fun r w' h1 h2 => by rw [hRR]; exact ⟨h1, h2⟩
  have hll := iV x
  unfold PR Dy C5
  refine (Zr (s := x) (most := 6) (sym := 12) (by omega) (by omega)).mono ?_
  rintro r w1 ⟨hr, x1⟩
  unfold lY at key
  cases hrd : uY (bS (nJ x)) 6 12 with
  | error e =>
    rw [hrd] at hr key
    have he := R8 hrd
    obtain rfl := hr
    have n1 : (e != 0) = true := by simp [he]
    simp (disch := omega) only [aD, UU, UY, Ul, aB, fP, Al]
    refine mM fun w2 o2 x2 s2 => ?_
    refine kF o2 rfl (by simp [one]) (by simp) fun w3 o3 x3 s3 => ?_
    simp (disch := omega) only [n1, aK]
    exact key _ _ rfl (x1.seq (x2.new x3 (by omega)))
  | ok z =>
    obtain ⟨lg, ps, n⟩ := z
    rw [hrd] at hr key
    simp only at key
    obtain ⟨hmay, hlg6, hps12⟩ := Wm hrd
    have hm := hmay (by omega)
    have hused := VQ hrd
    rw [gS] at hused
    obtain ⟨pv, rfl, op⟩ := hr
    obtain ⟨pa, pc, rfl⟩ := op.len
    have n1 : ((0 : Int) != 0) = false := rfl
    simp (disch := omega) only [aD, UU, UY, Ul, aB, fP, Al, Int.toNat_natCast]
    refine mM fun w2 o2 x2 s2 => ?_
    refine kF o2 rfl (by simp [one]) (by simp) fun w3 o3 x3 s3 => ?_
    simp only [cY, List.set_cons_zero, List.set_cons_succ] at o3
    have x13 : bZ w1 w3 fN := x2.new x3 (by omega)
    have x03 := x1.seq x13
    have tn : (n : Int).toNat = n := Int.toNat_natCast _
    have hle : nJ (x.extract n x.size) = (nJ x).drop n := by
      rw [Kp, List.take_of_length_le (by rw [List.length_drop]; omega)]
    have hsz' : (x.extract n x.size).size = (nJ x).length - n := by rw [← iV, hle, List.length_drop]
    simp (disch := omega) only [n1, aJ]
    generalize x.extract n x.size = y at *
    have hdl : ((nJ x).drop n).length ≤ 1000 := by rw [List.length_drop]; omega
    rw [← hle] at key hdl
    cases he : Wi (nJ y) with
    | none =>
      rw [he] at key
      refine (ZB he (by omega)).mono ?_
      rintro r w4 ⟨rfl, x4⟩
      have n2 : ((11 : Int) != 0) = true := rfl
      simp (disch := omega) only [vU, wU, aB, fP]
      refine iM fun w5 o5 x5 s5 => ?_
      refine dK o5 rfl (by simp [one]) (by simp) fun w6 o6 x6 s6 => ?_
      simp (disch := omega) only [n2, aK]
      exact key _ _ rfl ((x03.seq x4).seq (x5.new x6 (by omega)))
    | some k =>
      rw [he] at key
      simp only at key
      have hk := LP he
      refine (aaY he (by omega)).mono ?_
      rintro r w4 ⟨bv, hi, rfl, hhi, hrb, x4⟩
      generalize nJ y = l' at *
      have hrb' := hrb
      obtain ⟨v4, rfl, hs4, hat4⟩ := hrb
      obtain ⟨a4, c4, rfl, hc4⟩ := Br hs4
      simp (disch := omega) only [vU, wU, aB, fP]
      refine iM fun w5 o5 x5 s5 => ?_
      refine dK o5 rfl (by simp [one]) (by simp) fun w6 o6 x6 s6 => ?_
      simp only [cY, List.set_cons_zero, List.set_cons_succ] at o6
      have x46 : bZ w4 w6 fN := x5.new x6 (by omega)
      have x36 := x4.seq x46
      have l3 := jD (off := 0) (o3.ext x36 (fun h => h)) (by simp)
      simp only [List.drop_zero, List.take_succ_cons, List.take_zero] at l3
      simp (disch := omega) only [n1, l3, aB, aJ]
      have op6 := (op.ext x13 (fun _ _ h => h)).ext x36 (fun _ _ h => h)
      refine (Zb hm op6.sl).mono ?_
      rintro r w7 ⟨b, cc, rest, rfl, hb7, ob, x7⟩
      simp (disch := omega) only [vU, wU, aB, fP]
      refine sN fun w8 o8 x8 s8 => ?_
      refine qT o8 rfl (by simp [one]) (by simp) fun w9 o9 x9 s9 => ?_
      simp only [cY, List.set_cons_zero, List.set_cons_succ] at o9
      have x79 : bZ w7 w9 fN := x8.new x9 (by omega)
      have x69 := x7.seq x79
      have z46 := x46.size
      have z4 := x4.size
      have z03 := x03.size
      have z7 := x7.size
      have z79 := x79.size
      have qb := ob.lt
      have q9 := o9.lt
      have q6 := o6.lt
      have o69 := o6.ext x69 (fun h => h)
      have ob9 := ob.ext x79 (fun h => h)
      have hrb9 := (hrb'.ext x46 (fun _ _ _ h => h)).ext x69 (fun _ _ _ h => h)
      have x09 := (x03.seq x36).seq x69
      have hN : (nE lg ps).length = 2 ^ lg := nF lg ps
      have h15 := hm.log15
      have hv := OQ hm
      have hla := lC ((bS l').take k) lg
      have hlb := lC ((bS l').take (k - lg)) lg
      rw [← hN] at hla hlb o9
      generalize nE lg ps = L at *
      have hlen := hv.len
      have l9 := mC (off := 0) o9 (by simp)
      have l6 := fC (off := 0) o69 (by simp)
      simp only [List.drop_zero, List.take_succ_cons, List.take_zero] at l9 l6
      simp (disch := omega) only [n1, l9, aB, l6, aJ]
      have e0 : ((k : Int)).toNat = k := Int.toNat_natCast k
      have e00 : (-(k : Int)).toNat = 0 := by omega
      have h1 : (k : Int) ≤ 8 * l'.length := by omega
      have hrs := ZZ (n := lg) h1
      rw [e0, e00] at hrs
      have htk : ((bS l').take k).length = k := by rw [List.length_take, gS]; omega
      refine (V5 hrb9 (by omega) (by omega) (by omega) (by omega)).mono ?_
      rintro r w10 ⟨bv10, rfl, hrb10, x10⟩
      rw [hrs.1, hrs.2] at hrb10
      have hrb10' := hrb10
      obtain ⟨v10, rfl, hs10, hat10⟩ := hrb10
      obtain ⟨a10, c10, rfl, hc10⟩ := Br hs10
      obtain ⟨a, ha⟩ : ∃ a, kH ((bS l').take k) lg = a := ⟨_, rfl⟩
      obtain ⟨b', hb'⟩ : ∃ a, kH ((bS l').take (k - lg)) lg = a := ⟨_, rfl⟩
      have ekl : ((k : Int) - lg).toNat = k - lg := by omega
      have htk2 : ((bS l').take ((k : Int) - lg).toNat).length = k - lg := by rw [ekl, List.length_take, gS]; omega
      rw [ha] at key hla ⊢
      rw [hb'] at key hlb
      simp (disch := omega) only [vU, wU, aB]
      refine dK (o69.ext x10 (fun h => h)) rfl (by simp [one]) (by simp) fun w11 o11 x11 s11 => ?_
      simp only [cY, List.set_cons_zero, List.set_cons_succ] at o11
      have x911 : bZ w9 w11 (fun y => y = w4.heap.size) := (x10.mono fun _ _ h => h.elim).seq x11
      have l11 := fC (off := 0) o11 (by simp)
      have l911 := mC (off := 0) (o9.ext x911 (by omega)) (by simp)
      simp only [List.drop_zero, List.take_succ_cons, List.take_zero] at l11 l911
      simp (disch := omega) only [l911, aB, l11]
      have z10 := x10.size
      have z11 := x11.size
      have hrs2 := ZZ (l := l') (left := (k : Int) - lg) (n := lg) (by omega)
      refine (V5 (hrb10'.ext x11 (fun b h1 h2 => by omega)) (by omega) (by omega) (by omega) (by omega)).mono ?_
      rintro r w12 ⟨bv12, rfl, hrb12, x12⟩
      rw [hrs2.1, hrs2.2] at hrb12
      rw [ekl, hb']
      have hrb12' := hrb12
      obtain ⟨v12, rfl, hs12, hat12⟩ := hrb12
      obtain ⟨a12, c12, rfl, hc12⟩ := Br hs12
      simp (disch := omega) only [vU, wU, aB]
      refine dK (o11.ext x12 (fun h => h)) rfl (by simp [one]) (by simp) fun w13 o13 x13' s13 => ?_
      simp only [cY, List.set_cons_zero, List.set_cons_succ] at o13
      have x913 : bZ w9 w13 (fun y => y = w4.heap.size) := (x911.seq (x12.mono fun _ _ h => h.elim)).seq x13'
      have l13 := fC (off := 0) o13 (by simp)
      simp only [List.drop_zero, List.take_succ_cons, List.take_zero] at l13
      simp (disch := omega) only [l13, aB]
      have z12 := x12.size
      have z13 := x13'.size
      have hrb13 := hrb12'.ext x13' (fun b h1 h2 => by omega)
      have htk3 : ((bS l').take ((k : Int) - lg - lg).toNat).length = ((k : Int) - lg - lg).toNat := by rw [List.length_take, gS]; omega
      refine (WL hrb13 (by omega) (by omega)).mono ?_
      rintro r w14 ⟨rfl, x14⟩
      rw [htk3, show ((((k : Int) - lg - lg).toNat : Nat) : Int) - ((-((k : Int) - lg - lg)).toNat : Nat) = (k : Int) - lg - lg from by omega]
      have x914 : bZ w9 w14 (fun y => y = w4.heap.size) := x913.seq (x14.mono fun _ _ h => h.elim)
      have x014 : bZ w w14 fN := x09.trans x914 fun y hy h => by omega
      by_cases hlt : k < 2 * lg
      · rw [if_pos hlt] at key
        have d1 : decide ((k : Int) - (lg : Nat) - (lg : Nat) < 0) = true := by simp only [decide_eq_true_eq]; omega
        simp (disch := omega) only [bN, d1, aB, aK]
        exact key _ _ rfl x014
      · rw [if_neg hlt] at key
        have d1 : decide ((k : Int) - (lg : Nat) - (lg : Nat) < 0) = false := by simp only [decide_eq_false_iff_not]; omega
        simp (disch := omega) only [bN, d1, aB, aJ]
        have ek2 : ((k : Int) - lg - lg).toNat = k - 2 * lg := by omega
        have ek3 : (-((k : Int) - lg - lg)).toNat = 0 := by omega
        rw [ek2, ek3] at hrb13
        have z14 := x914.size
        refine Ue (w0 := w) (left0 := k - 2 * lg) (L := L) (l := l') (bv := .agg #[.slice a12 ((bS l').take ((k : Int) - lg - lg).toNat).length c12, .int .i64 ((-((k : Int) - lg - lg)).toNat : Nat)]) (G := Z4 L (bS l') 256 a b' (k - 2 * lg) []) hv (by omega) (o9.ext x914 (by omega)) (ob9.ext x914 (by omega)) (o13.ext x14 (fun h => h))
          (by rw [ek2, ek3]; exact hrb13.ext x14 (fun _ _ _ h => h)) (by omega) hla hlb (by omega) rfl x014 fun r w' hG hx => ?_
        refine key _ _ ?_ hx
        cases hs : Z4 L (bS l') 256 a b' (k - 2 * lg) [] with
        | none => rw [hs] at hG; exact hG
        | some m => rw [hs] at hG; exact hG
end Go.Proofs.Ytoepfjgekpdddaa
namespace Go.Pu
set_option linter.unusedVariables false
theorem Y4 {B : Nat} : ∀ {l : List Nat}, (∀ n ∈ l, n ≤ B) → l.sum ≤ l.length * B
  | [], _ => by simp
  | n :: l, h => by
    have h1 := h n (List.mem_cons_self ..)
    have h2 := Y4 (l := l) fun m hm => h m (List.mem_cons_of_mem _ hm)
    rw [List.sum_cons, List.length_cons, Nat.succ_mul]; omega
theorem aeK {n : Nat} : ∀ {l : List Nat}, n ∈ l → n ≤ l.sum
  | [], h => by cases h
  | m :: l, h => by
    rw [List.sum_cons]
    rcases List.mem_cons.1 h with rfl | h
    · omega
    · have := aeK h; omega
def Bh (n : Nat) : Bool := decide (0 < n)
def Ph (ns : List Nat) (i last : Nat) : Prop := (last = 0 ∧ ∀ j, j < i → ns.getD j 0 = 0) ∨ (last < i ∧ 0 < ns.getD last 0 ∧ ∀ j, last < j → j < i → ns.getD j 0 = 0)
theorem Ph.step {ns : List Nat} {i last : Nat} (h : Ph ns i last) : Ph ns (i + 1) (if 0 < ns.getD i 0 then i else last) := by
  split
  · rename_i h0
    exact .inr ⟨by omega, h0, fun j h1 h2 => by omega⟩
  · rename_i h0
    rcases h with ⟨rfl, h⟩ | ⟨h1, h2, h3⟩
    · refine .inl ⟨rfl, fun j hj => ?_⟩
      rcases Nat.lt_or_ge j i with h' | h'
      · exact h j h'
      · have : j = i := by omega
        subst this; omega
    · refine .inr ⟨by omega, h2, fun j hj hj2 => ?_⟩
      rcases Nat.lt_or_ge j i with h' | h'
      · exact h3 j hj h'
      · have : j = i := by omega
        subst this; omega
theorem Ph.one {ns : List Nat} {i a b : Nat} (ha : Ph ns i a) (hb : Ph ns i b) : a = b := by
  rcases ha with ⟨rfl, h⟩ | ⟨h1, h2, h3⟩
  · rcases hb with ⟨rfl, _⟩ | ⟨k1, k2, _⟩
    · rfl
    · have := h b k1; omega
  · rcases hb with ⟨rfl, k⟩ | ⟨k1, k2, k3⟩
    · have := k a h1; omega
    · rcases Nat.lt_trichotomy a b with h | h | h
      · have := h3 b h k1; omega
      · exact h
      · have := k3 a h h1; omega
theorem iZ {ns : List Nat} {i : Nat} (h : i < ns.length) : ns.getD i 0 = ns[i] := by rw [List.getD_eq_getElem?_getD, List.getElem?_eq_getElem h]; rfl
theorem abM {α : Type} {ns : List α} {i : Nat} (h : i < ns.length) : ns.take (i + 1) = ns.take i ++ [ns[i]] := by
  rw [List.take_add_one, List.getElem?_eq_getElem h]; rfl
theorem sW {ns : List Nat} {i : Nat} (h : i < ns.length) : ns.take (i + 1) = ns.take i ++ [ns.getD i 0] := by rw [abM h, iZ h]
theorem SP : ∀ {l : List Nat}, (∀ n ∈ l, n = 0) → l.sum = 0
  | [], _ => rfl
  | n :: l, h => by rw [List.sum_cons, h n (List.mem_cons_self ..), SP fun m hm => h m (List.mem_cons_of_mem _ hm)]
theorem Ss : ∀ {l : List Nat}, (∀ n ∈ l, n = 0) → l.countP Bh = 0
  | [], _ => rfl
  | n :: l, h => by
    rw [List.countP_cons, h n (List.mem_cons_self ..), Ss fun m hm => h m (List.mem_cons_of_mem _ hm)]; rfl
theorem HI {P : List Nat} {gr i : Nat} (x : Nat) (hg : gr < P.length) (hi : i < P.length) : (P.set gr x).getD i 0 = if i = gr then x else P.getD i 0 := by
  rw [List.getD_eq_getElem?_getD, List.getD_eq_getElem?_getD, List.getElem?_set]
  by_cases h : i = gr
  · subst h; simp [hi]
  · rw [if_neg (fun e => h e.symm), if_neg h]
end Go.Pu
namespace Go.Pu
open Go Go.En
set_option linter.unusedVariables false
theorem TW (f : Nat → Nat) : ∀ {l : List Nat} {i : Nat} (o : Nat) (h : i < l.length), ((l.set i o).map f).sum + f l[i] = (l.map f).sum + f o
  | [], i, o, h => by simp at h
  | x :: l, 0, o, h => by rw [List.set_cons_zero, List.map_cons, List.map_cons, List.sum_cons, List.sum_cons, List.getElem_cons_zero]; omega
  | x :: l, i + 1, o, h => by
    rw [List.set_cons_succ, List.map_cons, List.map_cons, List.sum_cons, List.sum_cons, List.getElem_cons_succ]
    have := TW f (l := l) (i := i) o (by simpa using h)
    omega
def Yq (out : List Nat) : Nat := (out.map fun o => 11 - o).sum
structure I6 (ns out : List Nat) : Prop where
  len : out.length = ns.length
  off : ∀ i, i < ns.length → ns.getD i 0 = 0 → out.getD i 0 = 0
  on : ∀ i, i < ns.length → 0 < ns.getD i 0 → 1 ≤ out.getD i 0 ∧ out.getD i 0 ≤ 11
theorem I6.set {ns out : List Nat} {i o : Nat} (h : I6 ns out) (hi : i < ns.length) (hn : 0 < ns.getD i 0) (h1 : 1 ≤ o) (h2 : o ≤ 11) : I6 ns (out.set i o) := by
  have hl := h.len
  refine ⟨by rw [List.length_set]; exact hl, fun j hj h0 => ?_, fun j hj h0 => ?_⟩
  · rw [HI _ (by omega) (by omega)]
    split
    · rename_i e; subst e; omega
    · exact h.off j hj h0
  · rw [HI _ (by omega) (by omega)]
    split
    · exact ⟨h1, h2⟩
    · exact h.on j hj h0
theorem I6.le {ns out : List Nat} (h : I6 ns out) {i : Nat} (hi : i < out.length) : out[i] ≤ 11 := by
  rw [← iZ hi]
  have hl := h.len
  rcases Nat.eq_zero_or_pos (ns.getD i 0) with h0 | h0
  · rw [h.off i (by omega) h0]; omega
  · exact (h.on i (by omega) h0).2
theorem YA {ns out : List Nat} (h : I6 ns out) (hl : ns.length ≤ 256) (hno : ∀ j, j < ns.length → ¬ (0 < ns.getD j 0 ∧ out.getD j 0 < 11)) : gM out ≤ 256 := by
  have hlen := h.len
  refine Nat.le_trans (RF fun o ho => ?_) (by omega)
  obtain ⟨i, hi, rfl⟩ := List.getElem_of_mem ho
  rw [← iZ hi]
  rcases Nat.eq_zero_or_pos (ns.getD i 0) with h0 | h0
  · exact .inl (h.off i (by omega) h0)
  · have := hno i (by omega)
    have := h.on i (by omega) h0
    omega
theorem Xp {ns out : List Nat} (h : I6 ns out) {there : Nat} (hth : there < ns.length) (hth0 : 0 < ns.getD there 0) (hroom : gM out < 2048) : ∃ j, j < ns.length ∧ 0 < ns.getD j 0 ∧ 2 ^ (11 - out.getD j 0) ≤ 2048 - gM out := by
  have hlen := h.len
  have hmax : ∀ k, k ≤ ns.length → (∃ j, j < k ∧ 0 < ns.getD j 0) → ∃ j, j < k ∧ 0 < ns.getD j 0 ∧ ∀ i, i < k → 0 < ns.getD i 0 → out.getD i 0 ≤ out.getD j 0 := by
    intro k
    induction k with
    | zero => rintro _ ⟨j, hj, _⟩; omega
    | succ k ih =>
      intro hk hex
      by_cases hex2 : ∃ j, j < k ∧ 0 < ns.getD j 0
      · obtain ⟨j, h1, h2, h3⟩ := ih (by omega) hex2
        by_cases hb : 0 < ns.getD k 0 ∧ out.getD j 0 < out.getD k 0
        · refine ⟨k, by omega, hb.1, fun i hi hi0 => ?_⟩
          by_cases hik : i = k
          · subst hik; omega
          · have := h3 i (by omega) hi0; omega
        · refine ⟨j, by omega, h2, fun i hi hi0 => ?_⟩
          by_cases hik : i = k
          · subst hik; omega
          · exact h3 i (by omega) hi0
      · obtain ⟨j, h1, h2⟩ := hex
        have hjk : j = k := by
          rcases Nat.lt_or_ge j k with h' | h'
          · exact absurd ⟨j, h', h2⟩ hex2
          · omega
        subst hjk
        refine ⟨j, by omega, h2, fun i hi hi0 => ?_⟩
        rcases Nat.lt_or_ge i j with h' | h'
        · exact absurd ⟨i, h', hi0⟩ hex2
        · have : i = j := by omega
          subst this; omega
  obtain ⟨j, hj, hj0, hjm⟩ := hmax ns.length (Nat.le_refl _) ⟨there, hth, hth0⟩
  obtain ⟨q1, q2⟩ := h.on j hj hj0
  refine ⟨j, hj, hj0, ?_⟩
  have hd := W0 (M := out.getD j 0) q2 (l := out) fun o ho => by
    obtain ⟨i, hi, rfl⟩ := List.getElem_of_mem ho
    rw [← iZ hi]
    rcases Nat.eq_zero_or_pos (ns.getD i 0) with h0 | h0
    · rw [h.off i (by omega) h0]; omega
    · exact hjm i (by omega) h0
  have h2048 : 2 ^ (11 - out.getD j 0) ∣ 2048 := by
    rw [show (2048 : Nat) = 2 ^ 11 from rfl]
    exact Nat.pow_dvd_pow 2 (by omega)
  have hd2 := Nat.dvd_sub h2048 hd
  exact Nat.le_of_dvd (by omega) hd2
theorem abV {ns out : List Nat} (h : I6 ns out) {a b : Nat} (ha : a < ns.length) (hb : b < ns.length) (hab : a ≠ b) (ha0 : 0 < ns.getD a 0) (hb0 : 0 < ns.getD b 0) (hr : 2 ^ (11 - out.getD a 0) ≤ 2048 - gM out) (hk : gM out ≤ 2048) : 2 ≤ out.getD a 0 := by
  have hlen := h.len
  obtain ⟨q1, q2⟩ := h.on a ha ha0
  obtain ⟨r1, r2⟩ := h.on b hb hb0
  rcases Nat.lt_or_ge (out.getD a 0) 2 with h1 | h1
  · exfalso
    have ea : out.getD a 0 = 1 := by omega
    rw [ea] at hr
    have hka : mT (out[a]'(by omega)) = 1024 := by rw [← iZ (by omega), ea]; rfl
    have hkb : 1 ≤ mT (out[b]'(by omega)) := abG (by rw [← iZ (by omega)]; omega)
    have : mT (out[a]'(by omega)) + mT (out[b]'(by omega)) ≤ gM out := by
      rcases Nat.lt_or_gt_of_ne hab with h | h
      · exact Sb (by omega) (by omega) h
      · have := Sb (l := out) (i := b) (j := a) (by omega) (by omega) h; omega
    have : (2 : Nat) ^ (11 - 1) = 1024 := rfl
    omega
  · exact h1
theorem adL {ns : List Nat} : ∀ {c : Nat}, 2 ≤ ns.countP Bh → ∃ b, b < ns.length ∧ 0 < ns.getD b 0 ∧ b ≠ c := by
  intro c h
  induction ns generalizing c with
  | nil => simp at h
  | cons x ns ih =>
    rw [List.countP_cons] at h
    by_cases hx : 0 < x
    · cases c with
      | succ c => exact ⟨0, by simp, by simpa using hx, by omega⟩
      | zero =>
        have h1 : 1 ≤ ns.countP Bh := by
          split at h <;> omega
        have : ∃ y ∈ ns, Bh y = true := by
          rw [← List.countP_pos_iff]; omega
        obtain ⟨y, hy, hy0⟩ := this
        obtain ⟨i, hi, rfl⟩ := List.getElem_of_mem hy
        refine ⟨i + 1, by simpa using hi, ?_, by omega⟩
        rw [iZ (by simpa using hi)]
        simpa [Bh] using hy0
    · have hon : Bh x = false := by unfold Bh; simpa using hx
      rw [hon] at h
      simp only [Bool.false_eq_true, if_false, Nat.add_zero] at h
      obtain ⟨b, h1, h2, h3⟩ := ih (c := c - 1) h
      cases c with
      | zero => exact ⟨b + 1, by simpa using h1, by simpa using h2, by omega⟩
      | succ c => exact ⟨b + 1, by simpa using h1, by simpa using h2, by simp at h3; omega⟩
end Go.Pu
namespace Go.Proofs.Ytoepfjgekpdddaa
open Go Go.En Go.Pu
set_option maxRecDepth 4000
set_option linter.unusedSimpArgs false
set_option linter.unusedVariables false
abbrev oc (out : List Nat) : List Value := out.map fun (n : Nat) => Value.int .i64 n
theorem Gy {out : List Nat} {i : Nat} (h : i < out.length) : (oc out)[i]? = some (.int .i64 (out.getD i 0 : Nat)) := by
  rw [List.getElem?_map, List.getElem?_eq_getElem h, ← iZ h]; rfl
theorem Y5 (out : List Nat) (i x : Nat) : (oc out).set i (.int .i64 x) = oc (out.set i x) := by unfold oc; rw [List.map_set]
abbrev Vp (ns : List Nat) : List Value := ns.map fun (n : Nat) => Value.int .u32 n
theorem LM {ns : List Nat} {i : Nat} (h : i < ns.length) : (Vp ns)[i]? = some (.int .u32 (ns.getD i 0 : Nat)) := by
  rw [List.getElem?_map, List.getElem?_eq_getElem h, ← iZ h]; rfl
theorem abH {pb S : Nat} {ov : Value} {ns : List Nat} {w : World} (hs : Sl w ov (Vp ns)) (hn : ∀ n ∈ ns, n ≤ 4294967295) (hl : ns.length ≤ 256) (hS0 : 0 < S) (hS : S ≤ 2147483647) (ob : fA w pb (oc (List.replicate ns.length 0))) (hat : ¬ YD ov (fun y => y = pb)) {RR : Value → World → Prop}
    (hK : ∀ out w', I6 ns out → fA w' pb (oc out) → bZ w w' (fun y => y = pb) → kA RR ov (.slice (some ⟨pb, 0, none⟩) ns.length ns.length) (.int .i64 (2048 - (gM out : Nat))) w') :
    lB RR ov (.int .u64 S) (.slice (some ⟨pb, 0, none⟩) ns.length ns.length) (.int .i64 2048) w := by
  unfold lB uL uK
  obtain ⟨a, c, hv, hc⟩ := hs.len
  rw [List.length_map] at hv
  subst hv
  simp (disch := omega) only [aD, gK, aB]
  unfold nT uH
  refine cV.rule (fun m (t : Value × Value) w' => ∃ (i : Nat) (out : List Nat), m = ns.length - i ∧ t = (.int .i64 (2048 - (gM out : Nat)), .int .i64 i) ∧ i ≤ ns.length ∧ out.length = ns.length ∧ (∀ j, i ≤ j → out.getD j 0 = 0) ∧
      (∀ j, j < i → ns.getD j 0 = 0 → out.getD j 0 = 0) ∧ (∀ j, j < i → 0 < ns.getD j 0 → 1 ≤ out.getD j 0 ∧ out.getD j 0 ≤ 11) ∧ gM out ≤ 1024 * i ∧ fA w' pb (oc out) ∧ bZ w w' (fun y => y = pb)) ns.length
    ⟨0, List.replicate ns.length 0, rfl, ?_, by omega, by simp, ?_, fun j h => by omega, fun j h => by omega, ?_, ob, bZ.refl _ _⟩ ?_
  · have : gM (List.replicate ns.length 0) = 0 := by
      unfold gM
      rw [List.map_replicate]
      exact SP fun n hn => by rw [List.eq_of_mem_replicate hn]; rfl
    rw [this]; rfl
  · intro j _
    rw [List.getD_eq_getElem?_getD, List.getElem?_replicate]
    split <;> rfl
  · unfold gM
    rw [List.map_replicate, SP fun n hn => by rw [List.eq_of_mem_replicate hn]; rfl]; omega
  rintro m t w1 ⟨i, out, rfl, rfl, hi, hlen, hz, hoff, hon, hkr, ob1, x1⟩
  unfold oA uC
  by_cases hlt : i < ns.length
  · have d1 : decide ((i : Int) < (ns.length : Int)) = true := by simp; omega
    obtain ⟨b1, off1, rfl, hcell1⟩ := slA (hs.ext x1 hat) (by omega)
    have g1 := hcell1 i hlt
    rw [LM hlt] at g1
    have hni : ns.getD i 0 ≤ 4294967295 := by rw [iZ hlt]; exact hn _ (List.getElem_mem hlt)
    generalize hnv : ns.getD i 0 = n at *
    unfold nS
    by_cases h0 : 0 < n
    · have d2 : decide ((0 : Int) < (n : Int)) = true := by simp; omega
      have e1 : (S : Int) - 1 = ((S - 1 : Nat) : Int) := by omega
      have e2 : ((S - 1 : Nat) : Int).tdiv (n : Int) = (((S - 1) / n : Nat) : Int) := by rw [Int.tdiv_eq_ediv_of_nonneg (by omega)]; simp
      have n2 : ((n : Int) == 0) = false := beq_eq_false_iff_ne.2 (by omega)
      have hq : (S - 1) / n ≤ S - 1 := Nat.div_le_self _ _
      generalize (S - 1) / n = qv at *
      simp (disch := omega) only [aD, bN, d1, fT, Int.toNat_natCast, dY, e1, lF, dN, Nat.zero_add, bY, bD, aB, cP, iT, g1, aP, dM, d2, gG, kX, e2, aK]
      refine (Z8 qv (by omega) w1).mono ?_
      rintro r w2 ⟨rfl, rfl⟩
      have hbl : bl qv ≤ 32 := lR (by omega)
      generalize bl qv = y at *
      have hmx : (if (1 : Int) > (y : Int) then (1 : Int) else (y : Int)) = ((max y 1 : Nat) : Int) := by split <;> omega
      have hmn : (if (11 : Int) < ((max y 1 : Nat) : Int) then (11 : Int) else ((max y 1 : Nat) : Int)) = ((min (max y 1) 11 : Nat) : Int) := by split <;> omega
      have hxb : 1 ≤ min (max y 1) 11 ∧ min (max y 1) 11 ≤ 11 := by omega
      generalize min (max y 1) 11 = x at *
      have hks := LS (l := out) (i := i) x (by omega)
      have hoi : out[i]'(by omega) = 0 := by rw [← iZ (by omega)]; exact hz i (Nat.le_refl _)
      rw [hoi] at hks
      have hk0 : mT 0 = 0 := rfl
      have hkx : mT x = 2 ^ (11 - x) := by unfold mT; rw [if_neg (by omega)]
      have hpx : 2 ^ (11 - x) ≤ 2 ^ 10 := Nat.pow_le_pow_right (by omega) (by omega)
      rw [hk0, hkx, Nat.add_zero] at hks
      simp only [gt_iff_lt] at hmx
      simp (disch := omega) only [F0, gt_iff_lt, hmx, aB, MH, hmn]
      refine pH ob1 rfl (by rw [List.length_map]; omega) fun w3 ob3 x3 s3 => ?_
      rw [Y5] at ob3
      have f1 := ob3.cell (off := i)
      rw [Gy (by rw [List.length_set]; omega), HI x (by omega) (by omega), if_pos rfl] at f1
      have e3 : (11 : Int) - (x : Int) = ((11 - x : Nat) : Int) := by omega
      have hsh := Ww (n := 11 - x) (by omega)
      have e4 : (2048 : Int) - ((gM out : Nat) : Int) - ((2 ^ (11 - x) : Nat) : Int) = 2048 - ((gM (out.set i x) : Nat) : Int) := by omega
      simp (disch := omega) only [f1, aP, aB, dY, e3, bD, lH, Int.toNat_natCast, hsh, e4]
      refine ⟨ns.length - (i + 1), by omega, i + 1, out.set i x, rfl, rfl, by omega, by rw [List.length_set]; exact hlen, ?_, ?_, ?_, by omega, ob3, x1.trans x3 fun _ _ h => h⟩
      · intro j hj
        rcases Nat.lt_or_ge j out.length with h | h
        · rw [HI x (by omega) h, if_neg (by omega)]; exact hz j (by omega)
        · rw [List.getD_eq_getElem?_getD, List.getElem?_eq_none (by rw [List.length_set]; exact h)]; rfl
      · intro j hj h0'
        rw [HI x (by omega) (by omega)]
        split
        · rename_i e; subst e; omega
        · exact hoff j (by omega) h0'
      · intro j hj h0'
        rw [HI x (by omega) (by omega)]
        split
        · exact hxb
        · exact hon j (by omega) h0'
    · have d2 : decide ((0 : Int) < (n : Int)) = false := by simp; omega
      simp (disch := omega) only [aD, bN, d1, fT, Int.toNat_natCast, dY, lF, dN, Nat.zero_add, bY, bD, aB, cP, iT, g1, aP, dM, d2, gG, aJ, aK]
      refine ⟨ns.length - (i + 1), by omega, i + 1, out, rfl, rfl, by omega, hlen, fun j hj => hz j (by omega), ?_, ?_, by omega, ob1, x1⟩
      · intro j hj h0'
        rcases Nat.lt_or_ge j i with h | h
        · exact hoff j h h0'
        · exact hz j h
      · intro j hj h0'
        rcases Nat.lt_or_ge j i with h | h
        · exact hon j h h0'
        · have : j = i := by omega
          subst this; omega
  · have d1 : decide ((i : Int) < (ns.length : Int)) = false := by simp; omega
    obtain rfl : i = ns.length := by omega
    simp (disch := omega) only [aD, bN, d1, dY, lF, aB, aJ]
    exact hK out w1 ⟨hlen, hoff, hon⟩ ob1 x1
end Go.Proofs.Ytoepfjgekpdddaa
namespace Go.Proofs.Ytoepfjgekpdddaa
open Go Go.En Go.Pu
set_option maxRecDepth 4000
set_option linter.unusedSimpArgs false
set_option linter.unusedVariables false
theorem Pg (b : Bool) : dW undef b = false := by cases b <;> rfl
def Yg (ns out : List Nat) (i : Nat) (at' : Int) : Prop := (at' = -1 ∧ ∀ j, j < i → ¬ (0 < ns.getD j 0 ∧ out.getD j 0 < 11)) ∨ (∃ a : Nat, at' = a ∧ a < ns.length ∧ 0 < ns.getD a 0 ∧ out.getD a 0 < 11)
theorem aaK {pb : Nat} {ov : Value} {room : Int} {ns out : List Nat} {w : World} (hs : Sl w ov (Vp ns)) (hn : ∀ n ∈ ns, n ≤ 4294967295) (hl : ns.length ≤ 256) (h : I6 ns out) (ob : fA w pb (oc out)) {kn : Value → Value → Value → Value → World → Prop}
    (hK : ∀ at' w', Yg ns out ns.length at' → bZ w w' fN → kn ov (.slice (some ⟨pb, 0, none⟩) ns.length ns.length) (.int .i64 room) (.int .i64 at') w') :
    nV kn ov (.slice (some ⟨pb, 0, none⟩) ns.length ns.length) (.int .i64 room) (.int .i64 (-1)) w := by
  unfold nV uT
  obtain ⟨a, c, hv, hc⟩ := hs.len
  rw [List.length_map] at hv
  subst hv
  have hlen := h.len
  simp (disch := omega) only [aD, gK, aB]
  unfold nL uA
  refine cV.rule (fun m (t : Value × Value) w' => ∃ (i : Nat) (at' : Int), m = ns.length - i ∧ t = (.int .i64 at', .int .i64 i) ∧ i ≤ ns.length ∧ Yg ns out i at' ∧ bZ w w' fN) ns.length
    ⟨0, -1, rfl, rfl, by omega, .inl ⟨rfl, fun j h => by omega⟩, bZ.refl _ _⟩ ?_
  rintro m t w1 ⟨i, at', rfl, rfl, hi, hp, x1⟩
  unfold nQ uF
  by_cases hlt : i < ns.length
  · have d1 : decide ((i : Int) < (ns.length : Int)) = true := by simp; omega
    have x1d : bZ w (dr w1) fN := x1.seq (bZ.dr _ _)
    obtain ⟨b1, off1, rfl, hcell1⟩ := slA (hs.ext x1 (eI _)) (by omega)
    have g1 := hcell1 i hlt
    rw [LM hlt] at g1
    have g1d : (dr w1).cell? ⟨b1, off1 + i, none⟩ = _ := g1
    have f1 := (ob.ext x1d (fun h => h)).cell (off := i)
    rw [Gy (by omega)] at f1
    have keep : ¬ (0 < ns.getD i 0 ∧ out.getD i 0 < 11) → Yg ns out (i + 1) at' := fun hb => by
      rcases hp with ⟨q1, q2⟩ | q
      · refine .inl ⟨q1, fun j hj => ?_⟩
        rcases Nat.lt_or_ge j i with h' | h'
        · exact q2 j h'
        · have : j = i := by omega
          subst this; exact hb
      · exact .inr q
    have keep2 : (0 : Int) ≤ at' → Yg ns out (i + 1) at' := fun hb => by
      rcases hp with ⟨q1, q2⟩ | q
      · omega
      · exact .inr q
    have new : 0 < ns.getD i 0 → out.getD i 0 < 11 → Yg ns out (i + 1) (i : Int) := fun q1 q2 => .inr ⟨i, rfl, hlt, q1, q2⟩
    unfold nO
    by_cases h0 : 0 < ns.getD i 0
    · have d2 : decide ((0 : Int) < ((ns.getD i 0 : Nat) : Int)) = true := by simp only [decide_eq_true_eq]; omega
      by_cases h11 : out.getD i 0 < 11
      · have d3 : decide (((out.getD i 0 : Nat) : Int) < (11 : Int)) = true := by simp only [decide_eq_true_eq]; omega
        rcases hp with ⟨rfl, q2⟩ | ⟨a, rfl, ha, ha0, ha11⟩
        · have d4 : decide ((-1 : Int) < 0) = true := rfl
          simp (disch := omega) only [aD, bN, d1, fT, Int.toNat_natCast, bY, bD, aB, true_and, iT, g1, aP, dM, d2, rU, cJ, if_true, cL, dN, Nat.zero_add, cP, f1, d3, d4, gD, aK, dG, Pg]
          exact ⟨ns.length - (i + 1), by omega, i + 1, _, rfl, rfl, by omega, new h0 h11, x1d⟩
        · have d4 : decide ((a : Int) < 0) = false := by simp
          have f2 := (ob.ext x1d (fun h => h)).cell (off := a)
          rw [Gy (by omega)] at f2
          have g2 : (dr w1).cell? ⟨b1, off1 + a, none⟩ = _ := hcell1 a ha
          rw [LM ha] at g2
          by_cases h5 : out.getD a 0 < out.getD i 0
          · have d5 : decide (((out.getD a 0 : Nat) : Int) < ((out.getD i 0 : Nat) : Int)) = true := by simp only [decide_eq_true_eq]; omega
            simp (disch := omega) only [aD, bN, d1, fT, Int.toNat_natCast, bY, bD, aB, true_and, iT, g1, aP, dM, d2, rU, cJ, if_true, cL, dN, Nat.zero_add, cP, f1, d3, d4, eD, Bool.false_eq_true, if_false, f2, d5, gD, aK, dG, Pg]
            exact ⟨ns.length - (i + 1), by omega, i + 1, _, rfl, rfl, by omega, new h0 h11, x1d⟩
          · have d5 : decide (((out.getD a 0 : Nat) : Int) < ((out.getD i 0 : Nat) : Int)) = false := by simp only [decide_eq_false_iff_not]; omega
            by_cases h6 : out.getD i 0 = out.getD a 0
            · have d6 : (((out.getD i 0 : Nat) : Int) == ((out.getD a 0 : Nat) : Int)) = true := by rw [h6]; simp
              by_cases h7 : ns.getD i 0 < ns.getD a 0
              · have d7 : decide (((ns.getD i 0 : Nat) : Int) < ((ns.getD a 0 : Nat) : Int)) = true := by simp only [decide_eq_true_eq]; omega
                simp (maxSteps := 4000000) (disch := omega) only [aD, gZ, aB, sX, bY, dY, qB, kX, rE, Gi, WB, TR, CJ, lH, uW, gY, fP, bN, DE, dM, kU, O1, TU, mR, cJ, MH, F0, CL, vU, wU, UU, UY, Ul, x40, x41, x42, x43, aP, Result.ok.injEq, Next.value.injEq, true_and, and_true, bD, lF, T5, T8, TG, CI, Int.toNat_natCast, rU, gD, BK, eD, cL, dG, Gl, CN, aK, aJ, if_true, if_false, Bool.false_eq_true, Nat.zero_add, Option.isNone_some, Option.isNone_none, Bool.not_true, Bool.not_false, List.getElem?_cons_succ, List.getElem?_cons_zero, cI, fZ, fI, gA, eJ, fX, eY, fS, gO, gQ, iF, fU, fY, gX, jW, gK, fT, iT, gG, jL, dT, dN, cP, jV, jQ, kD, jJ, Pg, d1, g1, g1d, d2, f1, d3, d4, f2, g2, d5, d6, d7]
                exact ⟨ns.length - (i + 1), by omega, i + 1, _, rfl, rfl, by omega, new h0 h11, x1d⟩
              · have d7 : decide (((ns.getD i 0 : Nat) : Int) < ((ns.getD a 0 : Nat) : Int)) = false := by simp only [decide_eq_false_iff_not]; omega
                simp (maxSteps := 4000000) (disch := omega) only [aD, gZ, aB, sX, bY, dY, qB, kX, rE, Gi, WB, TR, CJ, lH, uW, gY, fP, bN, DE, dM, kU, O1, TU, mR, cJ, MH, F0, CL, vU, wU, UU, UY, Ul, x40, x41, x42, x43, aP, Result.ok.injEq, Next.value.injEq, true_and, and_true, bD, lF, T5, T8, TG, CI, Int.toNat_natCast, rU, gD, BK, eD, cL, dG, Gl, CN, aK, aJ, if_true, if_false, Bool.false_eq_true, Nat.zero_add, Option.isNone_some, Option.isNone_none, Bool.not_true, Bool.not_false, List.getElem?_cons_succ, List.getElem?_cons_zero, cI, fZ, fI, gA, eJ, fX, eY, fS, gO, gQ, iF, fU, fY, gX, jW, gK, fT, iT, gG, jL, dT, dN, cP, jV, jQ, kD, jJ, Pg, d1, g1, g1d, d2, f1, d3, d4, f2, g2, d5, d6, d7]
                exact ⟨ns.length - (i + 1), by omega, i + 1, _, rfl, rfl, by omega, .inr ⟨a, rfl, ha, ha0, ha11⟩, x1d⟩
            · have d6 : (((out.getD i 0 : Nat) : Int) == ((out.getD a 0 : Nat) : Int)) = false := beq_eq_false_iff_ne.2 (by omega)
              simp (maxSteps := 4000000) (disch := omega) only [aD, gZ, aB, sX, bY, dY, qB, kX, rE, Gi, WB, TR, CJ, lH, uW, gY, fP, bN, DE, dM, kU, O1, TU, mR, cJ, MH, F0, CL, vU, wU, UU, UY, Ul, x40, x41, x42, x43, aP, Result.ok.injEq, Next.value.injEq, true_and, and_true, bD, lF, T5, T8, TG, CI, Int.toNat_natCast, rU, gD, BK, eD, cL, dG, Gl, CN, aK, aJ, if_true, if_false, Bool.false_eq_true, Nat.zero_add, Option.isNone_some, Option.isNone_none, Bool.not_true, Bool.not_false, List.getElem?_cons_succ, List.getElem?_cons_zero, cI, fZ, fI, gA, eJ, fX, eY, fS, gO, gQ, iF, fU, fY, gX, jW, gK, fT, iT, gG, jL, dT, dN, cP, jV, jQ, kD, jJ, Pg, d1, g1, g1d, d2, f1, d3, d4, f2, g2, d5, d6]
              exact ⟨ns.length - (i + 1), by omega, i + 1, _, rfl, rfl, by omega, .inr ⟨a, rfl, ha, ha0, ha11⟩, x1d⟩
      · have d3 : decide (((out.getD i 0 : Nat) : Int) < (11 : Int)) = false := by simp only [decide_eq_false_iff_not]; omega
        simp (disch := omega) only [aD, bN, d1, fT, Int.toNat_natCast, bY, bD, aB, true_and, iT, g1, aP, dM, d2, rU, cJ, if_true, cL, dN, Nat.zero_add, cP, f1, d3, BK, Bool.false_eq_true, if_false, aJ, dG, Pg, aK]
        exact ⟨ns.length - (i + 1), by omega, i + 1, _, rfl, rfl, by omega, keep (by omega), x1d⟩
    · have d2 : decide ((0 : Int) < ((ns.getD i 0 : Nat) : Int)) = false := by simp only [decide_eq_false_iff_not]; omega
      simp (disch := omega) only [aD, bN, d1, fT, Int.toNat_natCast, bY, bD, aB, true_and, iT, g1, aP, dM, d2, BK, cJ, Bool.false_eq_true, if_false, aJ, dG, Pg, aK]
      exact ⟨ns.length - (i + 1), by omega, i + 1, _, rfl, rfl, by omega, keep (by omega), x1d⟩
  · have d1 : decide ((i : Int) < (ns.length : Int)) = false := by simp; omega
    obtain rfl : i = ns.length := by omega
    simp (disch := omega) only [aD, bN, d1, true_and, aB, aJ]
    exact hK at' w1 hp x1
theorem acA {pb : Nat} {ov : Value} {ns out : List Nat} {w : World} (hs : Sl w ov (Vp ns)) (hn : ∀ n ∈ ns, n ≤ 4294967295) (hl : ns.length ≤ 256) (h : I6 ns out) (ob : fA w pb (oc out)) (hat : ¬ YD ov (fun y => y = pb)) {RR : Value → World → Prop}
    (hK : ∀ out w', I6 ns out → gM out ≤ 2048 → fA w' pb (oc out) → bZ w w' (fun y => y = pb) → jZ RR ov (.slice (some ⟨pb, 0, none⟩) ns.length ns.length) (.int .i64 (2048 - (gM out : Nat))) w') :
    kA RR ov (.slice (some ⟨pb, 0, none⟩) ns.length ns.length) (.int .i64 (2048 - (gM out : Nat))) w := by
  unfold kA uE uP
  refine cV.rule (fun m (t : Value) w' => ∃ out : List Nat, m = Yq out ∧ t = .int .i64 (2048 - (gM out : Nat)) ∧ I6 ns out ∧ fA w' pb (oc out) ∧ bZ w w' (fun y => y = pb)) (Yq out) ⟨out, rfl, rfl, h, ob, bZ.refl _ _⟩ ?_
  rintro m t w1 ⟨out, rfl, rfl, h1, ob1, x1⟩
  have hlen := h1.len
  have hkb : gM out ≤ 1024 * ns.length := by
    rw [← hlen]
    have : ∀ l : List Nat, gM l ≤ 1024 * l.length := fun l => by
      induction l with
      | nil => simp [gM]
      | cons x l ih =>
        rw [lP, List.length_cons]
        have : mT x ≤ 1024 := by
          unfold mT
          split
          · omega
          · have : 2 ^ (11 - x) ≤ 2 ^ 10 := Nat.pow_le_pow_right (by omega) (by omega)
            omega
        omega
    exact this out
  unfold nZ uI
  by_cases hneg : 2048 < gM out
  · have d1 : decide ((2048 : Int) - ((gM out : Nat) : Int) < 0) = true := by simp only [decide_eq_true_eq]; omega
    simp (disch := omega) only [aD, bN, d1, aB, aK]
    unfold nU uS uO nP
    refine aaK (room := 2048 - ((gM out : Nat) : Int)) (hs.ext x1 hat) hn hl h1 ob1 fun at' w2 hp x2 => ?_
    rcases hp with ⟨_, q⟩ | ⟨a, rfl, ha, ha0, ha11⟩
    · exfalso
      have := YA h1 hl q
      omega
    have ob2 := ob1.ext x2 (fun h => h)
    have f1 := ob2.cell (off := a)
    rw [Gy (by omega)] at f1
    have hon := h1.on a ha ha0
    have hks := LS (l := out) (i := a) (out.getD a 0 + 1) (by omega)
    have hsl := TW (fun o => 11 - o) (l := out) (i := a) (out.getD a 0 + 1) (by omega)
    have hset := h1.set (o := out.getD a 0 + 1) ha ha0 (by omega) (by omega)
    rw [← iZ (by omega)] at hks hsl
    have hk1 : mT (out.getD a 0) = 2 * 2 ^ (10 - out.getD a 0) := by
      unfold mT
      rw [if_neg (by omega), ← Nat.pow_succ', show (10 - out.getD a 0).succ = 11 - out.getD a 0 from by omega]
    have hk2 : mT (out.getD a 0 + 1) = 2 ^ (10 - out.getD a 0) := by
      unfold mT
      rw [if_neg (by omega)]
      congr 1; omega
    rw [hk1, hk2] at hks
    have hsl2 : Yq (out.set a (out.getD a 0 + 1)) + (11 - out.getD a 0) = Yq out + (11 - (out.getD a 0 + 1)) := hsl
    generalize hov : out.getD a 0 = o at *
    have e1 : (11 : Int) - (o : Int) = ((11 - o : Nat) : Int) := by omega
    have e2 : ((11 - o : Nat) : Int) - 1 = ((10 - o : Nat) : Int) := by omega
    have hsh := Ww (n := 10 - o) (by omega)
    have hp10 : 2 ^ (10 - o) ≤ 2 ^ 10 := Nat.pow_le_pow_right (by omega) (by omega)
    have e3 : (2048 : Int) - ((gM out : Nat) : Int) + ((2 ^ (10 - o) : Nat) : Int) = 2048 - ((gM (out.set a (o + 1)) : Nat) : Int) := by omega
    have e4 : (o : Int) + 1 = ((o + 1 : Nat) : Int) := by omega
    unfold oB
    simp (disch := omega) only [aD, dN, Int.toNat_natCast, Nat.zero_add, aB, cP, f1, aP, dY, e1, bD, e2, lH, hsh, bY, e3, e4]
    refine pH ob2 rfl (by rw [List.length_map]; omega) fun w3 ob3 x3 s3 => ?_
    rw [Y5] at ob3
    exact ⟨Yq (out.set a (o + 1)), by omega, _, rfl, rfl, hset, ob3, (x1.seq (x2.mono fun _ _ h => h.elim)).trans x3 fun _ _ h => h⟩
  · have d1 : decide ((2048 : Int) - ((gM out : Nat) : Int) < 0) = false := by simp only [decide_eq_false_iff_not]; omega
    simp (disch := omega) only [aD, bN, d1, aB, aJ]
    exact hK out w1 h1 (by omega) ob1 x1
end Go.Proofs.Ytoepfjgekpdddaa
namespace Go.Proofs.Ytoepfjgekpdddaa
open Go Go.En Go.Pu
set_option maxRecDepth 4000
set_option linter.unusedSimpArgs false
set_option linter.unusedVariables false
def Yj (r : Nat) (ns out : List Nat) (i : Nat) (at' : Int) : Prop := (at' = -1 ∧ ∀ j, j < i → ¬ (0 < ns.getD j 0 ∧ 2 ^ (11 - out.getD j 0) ≤ r)) ∨ (∃ a : Nat, at' = a ∧ a < ns.length ∧ 0 < ns.getD a 0 ∧ 2 ^ (11 - out.getD a 0) ≤ r)
theorem abW {pb : Nat} {ov : Value} {r : Nat} {ns out : List Nat} {w : World} (hs : Sl w ov (Vp ns)) (hn : ∀ n ∈ ns, n ≤ 4294967295) (hl : ns.length ≤ 256) (h : I6 ns out) (hr : r ≤ 2048) (ob : fA w pb (oc out)) {kn : Value → Value → Value → Value → World → Prop}
    (hK : ∀ at' w', Yj r ns out ns.length at' → bZ w w' fN → kn ov (.slice (some ⟨pb, 0, none⟩) ns.length ns.length) (.int .i64 r) (.int .i64 at') w') :
    oT kn ov (.slice (some ⟨pb, 0, none⟩) ns.length ns.length) (.int .i64 r) (.int .i64 (-1)) w := by
  unfold oT xU
  obtain ⟨a, c, hv, hc⟩ := hs.len
  rw [List.length_map] at hv
  subst hv
  have hlen := h.len
  simp (disch := omega) only [aD, gK, aB]
  unfold pD xZ
  refine cV.rule (fun m (t : Value × Value) w' => ∃ (i : Nat) (at' : Int), m = ns.length - i ∧ t = (.int .i64 at', .int .i64 i) ∧ i ≤ ns.length ∧ Yj r ns out i at' ∧ bZ w w' fN) ns.length
    ⟨0, -1, rfl, rfl, by omega, .inl ⟨rfl, fun j h => by omega⟩, bZ.refl _ _⟩ ?_
  rintro m t w1 ⟨i, at', rfl, rfl, hi, hp, x1⟩
  unfold oR xR
  by_cases hlt : i < ns.length
  · have d1 : decide ((i : Int) < (ns.length : Int)) = true := by simp; omega
    have x1d : bZ w (dr w1) fN := x1.seq (bZ.dr _ _)
    obtain ⟨b1, off1, rfl, hcell1⟩ := slA (hs.ext x1 (eI _)) (by omega)
    have g1 := hcell1 i hlt
    rw [LM hlt] at g1
    have g1d : (dr w1).cell? ⟨b1, off1 + i, none⟩ = _ := g1
    have f1 := (ob.ext x1d (fun h => h)).cell (off := i)
    rw [Gy (by omega)] at f1
    have keep : ¬ (0 < ns.getD i 0 ∧ 2 ^ (11 - out.getD i 0) ≤ r) → Yj r ns out (i + 1) at' := fun hb => by
      rcases hp with ⟨q1, q2⟩ | q
      · refine .inl ⟨q1, fun j hj => ?_⟩
        rcases Nat.lt_or_ge j i with h' | h'
        · exact q2 j h'
        · have : j = i := by omega
          subst this; exact hb
      · exact .inr q
    have keep2 : (0 : Int) ≤ at' → Yj r ns out (i + 1) at' := fun hb => by
      rcases hp with ⟨q1, q2⟩ | q
      · omega
      · exact .inr q
    have new : 0 < ns.getD i 0 → 2 ^ (11 - out.getD i 0) ≤ r → Yj r ns out (i + 1) (i : Int) := fun q1 q2 => .inr ⟨i, rfl, hlt, q1, q2⟩
    have hoi := h.le (i := i) (by omega)
    rw [← iZ (by omega)] at hoi
    have e8 : (11 : Int) - ((out.getD i 0 : Nat) : Int) = ((11 - out.getD i 0 : Nat) : Int) := by omega
    have hsh := Ww (n := 11 - out.getD i 0) (by omega)
    unfold pM
    by_cases h0 : 0 < ns.getD i 0
    · have d2 : decide ((0 : Int) < ((ns.getD i 0 : Nat) : Int)) = true := by simp only [decide_eq_true_eq]; omega
      by_cases h11 : 2 ^ (11 - out.getD i 0) ≤ r
      · have d3 : decide (((2 ^ (11 - out.getD i 0) : Nat) : Int) ≤ (r : Int)) = true := by simp only [decide_eq_true_eq]; omega
        rcases hp with ⟨rfl, q2⟩ | ⟨a, rfl, ha, ha0, har⟩
        · have d4 : decide ((-1 : Int) < 0) = true := rfl
          simp (disch := omega) only [aD, bN, d1, fT, Int.toNat_natCast, bY, bD, aB, true_and, iT, g1, aP, dM, d2, rU, cJ, if_true, cL, dN, Nat.zero_add, cP, f1, dY, e8, lH, hsh, DE, d3, d4, gD, aK, dG, Pg]
          exact ⟨ns.length - (i + 1), by omega, i + 1, _, rfl, rfl, by omega, new h0 h11, x1d⟩
        · have d4 : decide ((a : Int) < 0) = false := by simp
          have f2 := (ob.ext x1d (fun h => h)).cell (off := a)
          rw [Gy (by omega)] at f2
          have g2 : (dr w1).cell? ⟨b1, off1 + a, none⟩ = _ := hcell1 a ha
          rw [LM ha] at g2
          by_cases h5 : out.getD a 0 < out.getD i 0
          · have d5 : decide (((out.getD a 0 : Nat) : Int) < ((out.getD i 0 : Nat) : Int)) = true := by simp only [decide_eq_true_eq]; omega
            simp (maxSteps := 4000000) (disch := omega) only [aD, gZ, aB, sX, bY, dY, qB, kX, rE, Gi, WB, TR, CJ, lH, uW, gY, fP, bN, DE, dM, kU, O1, TU, mR, cJ, MH, F0, CL, vU, wU, UU, UY, Ul, x40, x41, x42, x43, aP, Result.ok.injEq, Next.value.injEq, true_and, and_true, bD, lF, T5, T8, TG, CI, Int.toNat_natCast, rU, gD, BK, eD, cL, dG, Gl, CN, aK, aJ, if_true, if_false, Bool.false_eq_true, Nat.zero_add, Option.isNone_some, Option.isNone_none, Bool.not_true, Bool.not_false, List.getElem?_cons_succ, List.getElem?_cons_zero, cI, fZ, fI, gA, eJ, fX, eY, fS, gO, gQ, iF, fU, fY, gX, jW, gK, fT, iT, gG, jL, dT, dN, cP, jV, jQ, kD, jJ, Pg, d1, g1, g1d, d2, f1, e8, hsh, d3, d4, f2, g2, d5]
            exact ⟨ns.length - (i + 1), by omega, i + 1, _, rfl, rfl, by omega, new h0 h11, x1d⟩
          · have d5 : decide (((out.getD a 0 : Nat) : Int) < ((out.getD i 0 : Nat) : Int)) = false := by simp only [decide_eq_false_iff_not]; omega
            by_cases h6 : out.getD i 0 = out.getD a 0
            · have d6 : (((out.getD i 0 : Nat) : Int) == ((out.getD a 0 : Nat) : Int)) = true := by rw [h6]; simp
              by_cases h7 : ns.getD a 0 < ns.getD i 0
              · have d7 : decide (((ns.getD a 0 : Nat) : Int) < ((ns.getD i 0 : Nat) : Int)) = true := by simp only [decide_eq_true_eq]; omega
                simp (maxSteps := 4000000) (disch := omega) only [aD, gZ, aB, sX, bY, dY, qB, kX, rE, Gi, WB, TR, CJ, lH, uW, gY, fP, bN, DE, dM, kU, O1, TU, mR, cJ, MH, F0, CL, vU, wU, UU, UY, Ul, x40, x41, x42, x43, aP, Result.ok.injEq, Next.value.injEq, true_and, and_true, bD, lF, T5, T8, TG, CI, Int.toNat_natCast, rU, gD, BK, eD, cL, dG, Gl, CN, aK, aJ, if_true, if_false, Bool.false_eq_true, Nat.zero_add, Option.isNone_some, Option.isNone_none, Bool.not_true, Bool.not_false, List.getElem?_cons_succ, List.getElem?_cons_zero, cI, fZ, fI, gA, eJ, fX, eY, fS, gO, gQ, iF, fU, fY, gX, jW, gK, fT, iT, gG, jL, dT, dN, cP, jV, jQ, kD, jJ, Pg, d1, g1, g1d, d2, f1, e8, hsh, d3, d4, f2, g2, d5, d6, d7]
                exact ⟨ns.length - (i + 1), by omega, i + 1, _, rfl, rfl, by omega, new h0 h11, x1d⟩
              · have d7 : decide (((ns.getD a 0 : Nat) : Int) < ((ns.getD i 0 : Nat) : Int)) = false := by simp only [decide_eq_false_iff_not]; omega
                simp (maxSteps := 4000000) (disch := omega) only [aD, gZ, aB, sX, bY, dY, qB, kX, rE, Gi, WB, TR, CJ, lH, uW, gY, fP, bN, DE, dM, kU, O1, TU, mR, cJ, MH, F0, CL, vU, wU, UU, UY, Ul, x40, x41, x42, x43, aP, Result.ok.injEq, Next.value.injEq, true_and, and_true, bD, lF, T5, T8, TG, CI, Int.toNat_natCast, rU, gD, BK, eD, cL, dG, Gl, CN, aK, aJ, if_true, if_false, Bool.false_eq_true, Nat.zero_add, Option.isNone_some, Option.isNone_none, Bool.not_true, Bool.not_false, List.getElem?_cons_succ, List.getElem?_cons_zero, cI, fZ, fI, gA, eJ, fX, eY, fS, gO, gQ, iF, fU, fY, gX, jW, gK, fT, iT, gG, jL, dT, dN, cP, jV, jQ, kD, jJ, Pg, d1, g1, g1d, d2, f1, e8, hsh, d3, d4, f2, g2, d5, d6, d7]
                exact ⟨ns.length - (i + 1), by omega, i + 1, _, rfl, rfl, by omega, .inr ⟨a, rfl, ha, ha0, har⟩, x1d⟩
            · have d6 : (((out.getD i 0 : Nat) : Int) == ((out.getD a 0 : Nat) : Int)) = false := beq_eq_false_iff_ne.2 (by omega)
              simp (maxSteps := 4000000) (disch := omega) only [aD, gZ, aB, sX, bY, dY, qB, kX, rE, Gi, WB, TR, CJ, lH, uW, gY, fP, bN, DE, dM, kU, O1, TU, mR, cJ, MH, F0, CL, vU, wU, UU, UY, Ul, x40, x41, x42, x43, aP, Result.ok.injEq, Next.value.injEq, true_and, and_true, bD, lF, T5, T8, TG, CI, Int.toNat_natCast, rU, gD, BK, eD, cL, dG, Gl, CN, aK, aJ, if_true, if_false, Bool.false_eq_true, Nat.zero_add, Option.isNone_some, Option.isNone_none, Bool.not_true, Bool.not_false, List.getElem?_cons_succ, List.getElem?_cons_zero, cI, fZ, fI, gA, eJ, fX, eY, fS, gO, gQ, iF, fU, fY, gX, jW, gK, fT, iT, gG, jL, dT, dN, cP, jV, jQ, kD, jJ, Pg, d1, g1, g1d, d2, f1, e8, hsh, d3, d4, f2, g2, d5, d6]
              exact ⟨ns.length - (i + 1), by omega, i + 1, _, rfl, rfl, by omega, .inr ⟨a, rfl, ha, ha0, har⟩, x1d⟩
      · have d3 : decide (((2 ^ (11 - out.getD i 0) : Nat) : Int) ≤ (r : Int)) = false := by simp only [decide_eq_false_iff_not]; omega
        simp (disch := omega) only [aD, bN, d1, fT, Int.toNat_natCast, bY, bD, aB, true_and, iT, g1, aP, dM, d2, rU, cJ, if_true, cL, dN, Nat.zero_add, cP, f1, dY, e8, lH, hsh, DE, d3, BK, Bool.false_eq_true, if_false, aJ, dG, Pg, aK]
        exact ⟨ns.length - (i + 1), by omega, i + 1, _, rfl, rfl, by omega, keep (by omega), x1d⟩
    · have d2 : decide ((0 : Int) < ((ns.getD i 0 : Nat) : Int)) = false := by simp only [decide_eq_false_iff_not]; omega
      simp (disch := omega) only [aD, bN, d1, fT, Int.toNat_natCast, bY, bD, aB, true_and, iT, g1, aP, dM, d2, BK, cJ, Bool.false_eq_true, if_false, aJ, dG, Pg, aK]
      exact ⟨ns.length - (i + 1), by omega, i + 1, _, rfl, rfl, by omega, keep (by omega), x1d⟩
  · have d1 : decide ((i : Int) < (ns.length : Int)) = false := by simp; omega
    obtain rfl : i = ns.length := by omega
    simp (disch := omega) only [aD, bN, d1, true_and, aB, aJ]
    exact hK at' w1 hp x1
theorem acD {pb : Nat} {ov : Value} {ns out : List Nat} {w : World} (hs : Sl w ov (Vp ns)) (hn : ∀ n ∈ ns, n ≤ 4294967295) (hl : ns.length ≤ 256) (h2 : 2 ≤ ns.countP Bh) (h : I6 ns out) (hk : gM out ≤ 2048) (ob : fA w pb (oc out)) (hat : ¬ YD ov (fun y => y = pb)) {RR : Value → World → Prop}
    (hK : ∀ out w', I6 ns out → gM out = 2048 → fA w' pb (oc out) → bZ w w' (fun y => y = pb) → RR (.slice (some ⟨pb, 0, none⟩) ns.length ns.length) w') :
    jZ RR ov (.slice (some ⟨pb, 0, none⟩) ns.length ns.length) (.int .i64 (2048 - (gM out : Nat))) w := by
  unfold jZ uJ tZ
  refine cV.rule (fun m (t : Value) w' => ∃ out : List Nat, m = 2048 - gM out ∧ t = .int .i64 (2048 - (gM out : Nat)) ∧ I6 ns out ∧ gM out ≤ 2048 ∧ fA w' pb (oc out) ∧ bZ w w' (fun y => y = pb)) (2048 - gM out) ⟨out, rfl, rfl, h, hk, ob, bZ.refl _ _⟩ ?_
  rintro m t w1 ⟨out, rfl, rfl, h1, hk1, ob1, x1⟩
  have hlen := h1.len
  have e0 : (2048 : Int) - ((gM out : Nat) : Int) = ((2048 - gM out : Nat) : Int) := by omega
  rw [e0]
  unfold nY uN
  by_cases hpos : gM out < 2048
  · have d1 : decide ((0 : Int) < ((2048 - gM out : Nat) : Int)) = true := by simp only [decide_eq_true_eq]; omega
    simp (disch := omega) only [aD, dM, d1, aB, aK]
    unfold nM tX uB nW
    refine abW (r := 2048 - gM out) (hs.ext x1 hat) hn hl h1 (by omega) ob1 fun at' w2 hp x2 => ?_
    obtain ⟨t0, ht0, ht1, _⟩ := adL (c := ns.length) h2
    rcases hp with ⟨_, q⟩ | ⟨a, rfl, ha, ha0, har⟩
    · exfalso
      obtain ⟨j, j1, j2, j3⟩ := Xp h1 ht0 ht1 hpos
      exact q j j1 ⟨j2, j3⟩
    obtain ⟨b, hb, hb0, hba⟩ := adL (c := a) h2
    have hge2 := abV h1 ha hb (fun e => hba e.symm) ha0 hb0 har hk1
    have ob2 := ob1.ext x2 (fun h => h)
    have f1 := ob2.cell (off := a)
    rw [Gy (by omega)] at f1
    have hon := h1.on a ha ha0
    have hks := LS (l := out) (i := a) (out.getD a 0 - 1) (by omega)
    have hset := h1.set (o := out.getD a 0 - 1) ha ha0 (by omega) (by omega)
    rw [← iZ (by omega)] at hks
    have hk3 : mT (out.getD a 0) = 2 ^ (11 - out.getD a 0) := by unfold mT; rw [if_neg (by omega)]
    have hk2 : mT (out.getD a 0 - 1) = 2 * 2 ^ (11 - out.getD a 0) := by
      unfold mT
      rw [if_neg (by omega), ← Nat.pow_succ']
      congr 1; omega
    rw [hk3, hk2] at hks
    generalize hov : out.getD a 0 = o at *
    have e1 : (11 : Int) - (o : Int) = ((11 - o : Nat) : Int) := by omega
    have hsh := Ww (n := 11 - o) (by omega)
    have hp10 := Nat.two_pow_pos (11 - o)
    have e3 : ((2048 - gM out : Nat) : Int) - ((2 ^ (11 - o) : Nat) : Int) = 2048 - ((gM (out.set a (o - 1)) : Nat) : Int) := by omega
    have e4 : (o : Int) - 1 = ((o - 1 : Nat) : Int) := by omega
    unfold oX
    simp (disch := omega) only [aD, dN, Int.toNat_natCast, Nat.zero_add, aB, cP, f1, aP, dY, e1, bD, lH, hsh, e3, e4]
    refine pH ob2 rfl (by rw [List.length_map]; omega) fun w3 ob3 x3 s3 => ?_
    rw [Y5] at ob3
    exact ⟨2048 - gM (out.set a (o - 1)), by omega, _, rfl, rfl, hset, by omega, ob3, (x1.seq (x2.mono fun _ _ h => h.elim)).trans x3 fun _ _ h => h⟩
  · have d1 : decide ((0 : Int) < ((2048 - gM out : Nat) : Int)) = false := by simp only [decide_eq_false_iff_not]; omega
    unfold oS
    simp (disch := omega) only [aD, dM, d1, aB, aJ]
    exact hK out w1 h1 (by omega) ob1 x1
theorem abC {ov : Value} {S : Nat} {ns : List Nat} {w : World} (hs : Sl w ov (Vp ns)) (hn : ∀ n ∈ ns, n ≤ 4294967295) (hl : ns.length ≤ 256) (h2 : 2 ≤ ns.countP Bh) (hS0 : 0 < S) (hS : S ≤ 2147483647) :
    cC pg rF #[ov, .int .u64 S] w (fun r w' => ∃ pb out, r = .slice (some ⟨pb, 0, none⟩) ns.length ns.length ∧ w.heap.size ≤ pb ∧ fA w' pb (oc out) ∧ I6 ns out ∧ gM out = 2048 ∧ bZ w w' fN) := by
  refine KA ?_
  obtain ⟨a, c, hv, hc⟩ := hs.len
  rw [List.length_map] at hv hc
  subst hv
  unfold Jl uQ uG
  simp (disch := omega) only [aD, gK, aB]
  refine WG (by omega) (by omega) fun w1 o1 x1 s1 => ?_
  rw [Int.toNat_natCast] at o1 ⊢
  have ho1 : fA w1 w.heap.size (oc (List.replicate ns.length 0)) := by
    unfold oc; rw [List.map_replicate]; exact o1
  have hat : ¬ YD (.slice a ns.length c) (fun y => y = w.heap.size) := fun h => hs.old (Yz h fun b hb => by omega)
  have hs1 := hs.ext x1 (eI _)
  refine abH hs1 hn hl hS0 hS ho1 hat fun out w2 h2' ob2 x2 => ?_
  refine acA (hs1.ext x2 hat) hn hl h2' ob2 hat fun out w3 h3 hk3 ob3 x3 => ?_
  refine acD ((hs1.ext x2 hat).ext x3 hat) hn hl h2 h3 hk3 ob3 hat fun out w4 h4 hk4 ob4 x4 => ?_
  exact ⟨_, out, rfl, Nat.le_refl _, ob4, h4, hk4, ((x1.trans x2 fun b hb h => by omega).trans x3 fun b hb h => by omega).trans x4 fun b hb h => by omega⟩
end Go.Proofs.Ytoepfjgekpdddaa
namespace Go.Proofs.Ytoepfjgekpdddaa
open Go Go.En Go.Pu
set_option maxRecDepth 4000
set_option linter.unusedSimpArgs false
set_option linter.unusedVariables false
theorem aiG {pb : Nat} {out : List Nat} {w : World} (ob : fA w pb (oc out)) (h0 : 0 < out.length) (hl : out.length ≤ 100000) (hb : ∀ o ∈ out, o ≤ 1000000) :
    cC pg rA #[.slice (some ⟨pb, 0, none⟩) out.length out.length] w (fun r w' => (∃ m : Nat, r = .int .i64 m ∧ (∀ x ∈ out, x ≤ m) ∧ m ∈ out) ∧ w' = w) := by
  refine Lc ?_
  unfold Jj uM uD
  have d0 : decide ((out.length : Int) < 1) = false := by simp; omega
  have g0 := ob.cell (off := 0)
  rw [Gy h0] at g0
  have t0 : (0 : Int).toNat = 0 := rfl
  simp (disch := omega) only [aD, dT, aB, bN, d0, aJ]
  unfold pE xW
  simp (disch := omega) only [aD, dN, t0, Nat.zero_add, aB, cP, g0, aP]
  unfold pF xT xE pA xC
  refine cV.rule (fun m (t : Value × Value) w' => ∃ i q : Nat, m = out.length - i ∧ t = (.int .i64 q, .int .i64 i) ∧ 1 ≤ i ∧ i ≤ out.length ∧ (∀ x ∈ out.take i, x ≤ q) ∧ q ∈ out.take i ∧ w' = w) (out.length - 1)
    ⟨1, out.getD 0 0, by omega, rfl, by omega, by omega, ?_, ?_, rfl⟩ ?_
  · intro x hx
    rw [sW (i := 0) h0] at hx
    simp at hx; simp; omega
  · rw [sW (i := 0) h0]; simp
  rintro m t w1 ⟨i, q, rfl, rfl, hi1, hi, hle, hmem, rfl⟩
  unfold pB
  by_cases hlt : i < out.length
  · have d1 : decide ((i : Int) < (out.length : Int)) = true := by simp; omega
    have g1 := ob.cell (off := i)
    rw [Gy hlt] at g1
    have ht := sW hlt
    have hxb : out.getD i 0 ≤ 1000000 := by rw [iZ hlt]; exact hb _ (List.getElem_mem hlt)
    have hqb : q ≤ 1000000 := hb q (List.mem_of_mem_take hmem)
    generalize out.getD i 0 = x at *
    have hmx : (if (q : Int) < (x : Int) then (x : Int) else (q : Int)) = ((max q x : Nat) : Int) := by split <;> omega
    have hmx2 : (if (x : Int) > (q : Int) then (x : Int) else (q : Int)) = ((max q x : Nat) : Int) := by split <;> omega
    simp (disch := omega) only [aD, dT, dN, Int.toNat_natCast, Nat.zero_add, bY, bD, aB, cP, bN, d1, g1, aP, F0, hmx, and_true, aK]
    refine ⟨out.length - (i + 1), by omega, i + 1, max q x, rfl, rfl, by omega, by omega, ?_, ?_⟩
    · intro y hy
      rw [ht] at hy
      rcases List.mem_append.1 hy with hy | hy
      · have := hle y hy; omega
      · rw [List.mem_singleton.1 hy]; omega
    · rw [ht, List.mem_append]
      rcases Nat.le_total q x with h | h
      · rw [Nat.max_eq_right h]; exact .inr (List.mem_singleton.2 rfl)
      · rw [Nat.max_eq_left h]; exact .inl hmem
  · have d1 : decide ((i : Int) < (out.length : Int)) = false := by simp; omega
    obtain rfl : i = out.length := by omega
    rw [List.take_length] at *
    unfold pK
    simp (disch := omega) only [aD, dT, bY, bD, aB, bN, d1, and_true, aJ]
    exact ⟨q, rfl, hle, hmem⟩
def W9 (ns : List Nat) : Bool := decide (ns.length ≤ 256 ∧ 2 ≤ ns.countP Bh ∧ ns.sum ≤ 2147483647)
theorem abR {ov : Value} {ns : List Nat} {w : World} (hs : Sl w ov (Vp ns)) (hn : ∀ n ∈ ns, n ≤ 4294967295) (hl : ns.length ≤ 300) {RR : Value → World → Prop}
    (hK : ∀ last, Ph ns ns.length last → sE RR ov (.int .u64 ns.sum) (.int .i64 (ns.countP Bh : Nat)) (.int .i64 last) w) :
    sS RR ov (.int .u64 0) (.int .i64 0) (.int .i64 0) w := by
  unfold sS FE Fv
  obtain ⟨a, c, hv, hc⟩ := hs.len
  rw [List.length_map] at hv
  subst hv
  simp (disch := omega) only [aD, gK, aB]
  unfold AY Ff
  refine cV.rule (fun m (t : Value × Value × Value × Value) w' => ∃ i last : Nat, m = ns.length - i ∧ t = (.int .u64 (ns.take i).sum, .int .i64 ((ns.take i).countP Bh : Nat), .int .i64 last, .int .i64 i) ∧ i ≤ ns.length ∧ Ph ns i last ∧ last ≤ i ∧ w' = w) ns.length
    ⟨0, 0, rfl, by simp, by omega, .inl ⟨rfl, fun j h => by omega⟩, by omega, rfl⟩ ?_
  rintro m t w1 ⟨i, last, rfl, rfl, hi, hla, hli, rfl⟩
  unfold AA FJ
  by_cases hlt : i < ns.length
  · have d1 : decide ((i : Int) < (ns.length : Int)) = true := by simp; omega
    obtain ⟨b, off, rfl, hcell⟩ := slA hs (by omega)
    have g1 := hcell i hlt
    rw [LM hlt] at g1
    have hni : ns.getD i 0 ≤ 4294967295 := by rw [iZ hlt]; exact hn _ (List.getElem_mem hlt)
    have hsl := Y4 (B := 4294967295) (l := ns.take i) fun n hn' => hn n (List.mem_of_mem_take hn')
    rw [List.length_take, Nat.min_eq_left (by omega)] at hsl
    have hsl2 : i * 4294967295 ≤ 300 * 4294967295 := Nat.mul_le_mul_right _ (by omega)
    have hct : (ns.take i).countP Bh ≤ i := by
      have := List.countP_le_length (l := ns.take i) (p := Bh)
      rw [List.length_take] at this; omega
    have hsum : (ns.take (i + 1)).sum = (ns.take i).sum + ns.getD i 0 := by rw [sW hlt, List.sum_append]; simp
    have hcnt : (ns.take (i + 1)).countP Bh = (ns.take i).countP Bh + (if 0 < ns.getD i 0 then 1 else 0) := by
      rw [sW hlt, List.countP_append, List.countP_singleton]
      unfold Bh; simp only [decide_eq_true_eq]
    have hstep := hla.step
    generalize ns.getD i 0 = n at *
    have e1 : (((ns.take i).sum : Nat) : Int) + (n : Int) = (((ns.take i).sum + n : Nat) : Int) := by omega
    by_cases h0 : 0 < n
    · have d2 : decide ((0 : Int) < (n : Int)) = true := by simp; omega
      rw [if_pos h0] at hcnt hstep
      unfold rV
      simp (disch := omega) only [aD, bN, d1, fT, Int.toNat_natCast, bY, bD, aB, iT, g1, aP, gG, lF, dM, d2, aK, e1, and_true]
      exact ⟨ns.length - (i + 1), by omega, i + 1, i, rfl, by rw [hsum, hcnt]; rfl, by omega, hstep, by omega⟩
    · have d2 : decide ((0 : Int) < (n : Int)) = false := by simp; omega
      rw [if_neg h0] at hcnt hstep
      unfold rV
      simp (disch := omega) only [aD, bN, d1, fT, Int.toNat_natCast, bY, bD, aB, iT, g1, aP, gG, lF, dM, d2, aJ, e1, and_true, aK]
      exact ⟨ns.length - (i + 1), by omega, i + 1, last, rfl, by rw [hsum, hcnt]; rfl, by omega, hstep, by omega⟩
  · have d1 : decide ((i : Int) < (ns.length : Int)) = false := by simp; omega
    obtain rfl : i = ns.length := by omega
    rw [List.take_of_length_le (Nat.le_refl _)]
    simp (disch := omega) only [aD, bN, d1, bY, aB, aJ]
    exact hK last hla
def ahK (w : World) (base : Nat) (ns : List Nat) (r : Value) : Prop :=
  (W9 ns = false ∧ r = .tuple #[.slice none 0 0, .int .i64 1]) ∨
  (W9 ns = true ∧ ∃ (last : Nat) (v : Value) (wl : List Nat), Ph ns ns.length last ∧ last < ns.length ∧ wl.length = last + 1 ∧ Bg wl ≠ 0 ∧ (∀ x ∈ wl, x ≤ 11) ∧ (∀ i, i < last + 1 → (0 < wl.getD i 0 ↔ 0 < ns.getD i 0)) ∧
    r = .tuple #[v, .int .i64 0] ∧ nG w base 1 v (last + 1) ((nH wl).map Ic))
theorem Zy {ns out : List Nat} {d last : Nat} (h : I6 (ns.take (last + 1)) out) (hk : gM out = 2048) (hd : ∀ o ∈ out, o ≤ d) (hdm : d ∈ out) (hl : last < ns.length) (hl2 : ns.length ≤ 256) (hlast : 0 < ns.getD last 0) (h2 : 2 ≤ (ns.take (last + 1)).countP Bh) :
    Bg (out.map (Ze d)) = d ∧ d ≠ 0 ∧ d ≤ 11 ∧ ∀ i, i < last + 1 → (0 < (out.map (Ze d)).getD i 0 ↔ 0 < ns.getD i 0) := by
  have hlen := h.len
  have htl : (ns.take (last + 1)).length = last + 1 := by rw [List.length_take]; omega
  have htd : ∀ i, i < last + 1 → (ns.take (last + 1)).getD i 0 = ns.getD i 0 := fun i hi => by
    rw [List.getD_eq_getElem?_getD, List.getD_eq_getElem?_getD, List.getElem?_take_of_lt hi]
  have hd11 : d ≤ 11 := by
    obtain ⟨i, hi, rfl⟩ := List.getElem_of_mem hdm
    exact h.le hi
  have hon := h.on last (by omega) (by rw [htd last (by omega)]; exact hlast)
  have hd0 : 1 ≤ d := by
    have := hd (out.getD last 0) (by rw [iZ (by omega)]; exact List.getElem_mem _)
    omega
  have hW := adT hd11 hd hk
  have hget : ∀ i, i < last + 1 → (out.map (Ze d)).getD i 0 = Ze d (out.getD i 0) := fun i hi => by
    rw [iZ (by rw [List.length_map]; omega), List.getElem_map, iZ (by omega)]
  have hiff : ∀ i, i < last + 1 → (0 < (out.map (Ze d)).getD i 0 ↔ 0 < ns.getD i 0) := fun i hi => by
    rw [hget i hi, ← htd i hi]
    have hdi := hd (out.getD i 0) (by rw [iZ (by omega)]; exact List.getElem_mem _)
    constructor
    · intro h0
      rcases Nat.eq_zero_or_pos ((ns.take (last + 1)).getD i 0) with h' | h'
      · rw [h.off i (by omega) h'] at h0
        simp [Ze] at h0
      · exact h'
    · intro h0
      have := h.on i (by omega) h0
      unfold Ze
      rw [if_neg (by omega)]; omega
  have hlast2 : 2 ≤ last + 1 := by
    have := List.countP_le_length (l := ns.take (last + 1)) (p := Bh)
    omega
  refine ⟨abD ?_ hd11 (by rw [List.length_map]; omega) (by rw [List.length_map]; omega) ?_ hW, by omega, hd11, hiff⟩
  · intro w hw
    obtain ⟨o, ho, rfl⟩ := List.mem_map.1 hw
    have := hd o ho
    unfold Ze
    split <;> omega
  · intro hq
    rw [List.getLast?_eq_getElem?, List.length_map, hlen, htl, Nat.add_sub_cancel] at hq
    have := (hiff last (by omega)).2 hlast
    rw [List.getD_eq_getElem?_getD, hq] at this
    simp at this
end Go.Proofs.Ytoepfjgekpdddaa
namespace Go.Proofs.Ytoepfjgekpdddaa
open Go Go.En Go.Pu
set_option maxRecDepth 4000
set_option linter.unusedSimpArgs false
set_option linter.unusedVariables false
theorem aaE {base i x : Nat} {d10 v' t51 t52 t53 : Value} {cells : List Value} {w : World} (o : nG w base 1 v' i cells) (hb : base ≤ w.heap.size) (hi : i ≤ 100000) (hx : x < 256) {kn : Value → Value → Value → Value → Value → World → Prop}
    (hK : ∀ v2 w2, nG w2 base 1 v2 (i + 1) (cells ++ [.int .u8 x]) → bZ w w2 (fun y => base ≤ y) → kn d10 v2 t51 t52 t53 w2) : vF kn d10 v' (.int .i64 x) t51 t52 t53 w := by
  unfold vF
  obtain ⟨av, cv, rfl⟩ := o.len
  have e8 : IntKind.u8.wrap (x : Int) = (x : Int) := CI (by omega) (by omega)
  simp (disch := omega) only [aD, fI, e8, aB]
  refine kP (cells := #[.int .u8 x]) (by decide) (by decide) (by kernel_rfl) fun w5 o5 x5 s5 => ?_
  have z5 := x5.size
  refine jN (m := 1) (news := [.int .u8 x]) (o.ext x5 (fun _ _ h => h)) (o5.cl (off := 0) (l := [.int .u8 x]) (n := 1) rfl (fun i hi => by rw [Nat.zero_add])) (by simp [one]) (by omega) (by omega) fun v6 w6 o6 x6 => ?_
  exact hK v6 w6 o6 ((x5.mono fun _ _ h => h.elim).seq x6)
theorem ajH {ov : Value} {ns : List Nat} {w : World} (hs : Sl w ov (Vp ns)) (hn : ∀ n ∈ ns, n ≤ 4294967295) (hl : ns.length ≤ 300) :
    cC pg DS #[ov] w (fun r w' => ahK w' w.heap.size ns r ∧ bZ w w' fN) := by
  refine Uk ?_
  unfold Wa EJ E8
  refine abR hs hn hl fun last hlast => ?_
  unfold sE Ex
  obtain ⟨a, c, hv, hc⟩ := hs.len
  rw [List.length_map] at hv hc
  subst hv
  have no : ¬ (ns.length ≤ 256 ∧ 2 ≤ ns.countP Bh ∧ ns.sum ≤ 2147483647) → W9 ns = false := fun h => by unfold W9; exact decide_eq_false h
  have hcl : ns.countP Bh ≤ ns.length := List.countP_le_length
  have hsl := Y4 (B := 4294967295) hn
  have hsl2 : ns.length * 4294967295 ≤ 300 * 4294967295 := Nat.mul_le_mul_right _ (by omega)
  by_cases h4 : 256 < ns.length
  · have d4 : decide ((256 : Int) < (ns.length : Int)) = true := by simp; omega
    simp (disch := omega) only [aD, gK, bY, aB, dM, d4, gD, cJ, if_true, aK, dG]
    exact ⟨.inl ⟨no (by omega), rfl⟩, bZ.refl _ _⟩
  have d4 : decide ((256 : Int) < (ns.length : Int)) = false := by simp; omega
  by_cases h5 : ns.countP Bh < 2
  · have d5 : decide (((ns.countP Bh : Nat) : Int) < 2) = true := by simp only [decide_eq_true_eq]; omega
    simp (disch := omega) only [aD, gK, bY, aB, dM, d4, eD, cJ, Bool.false_eq_true, if_false, cL, bN, d5, gD, if_true, aK, dG]
    exact ⟨.inl ⟨no (by omega), rfl⟩, bZ.refl _ _⟩
  have d5 : decide (((ns.countP Bh : Nat) : Int) < 2) = false := by simp only [decide_eq_false_iff_not]; omega
  by_cases h7 : 2147483647 < ns.sum
  · have d7 : decide ((2147483647 : Int) < ((ns.sum : Nat) : Int)) = true := by simp only [decide_eq_true_eq]; omega
    simp (disch := omega) only [aD, gK, bY, aB, dM, d4, eD, cJ, Bool.false_eq_true, if_false, cL, bN, d5, d7, aK]
    exact ⟨.inl ⟨no (by omega), rfl⟩, bZ.refl _ _⟩
  have d7 : decide ((2147483647 : Int) < ((ns.sum : Nat) : Int)) = false := by simp only [decide_eq_false_iff_not]; omega
  have hok : W9 ns = true := by unfold W9; exact decide_eq_true (by omega)
  have hl2 : last < ns.length ∧ 0 < ns.getD last 0 ∧ ∀ j, last < j → j < ns.length → ns.getD j 0 = 0 := by
    rcases hlast with ⟨rfl, h⟩ | h
    · exfalso
      have : ns.countP Bh = 0 := Ss fun n hn => by
        obtain ⟨i, hi, rfl⟩ := List.getElem_of_mem hn
        rw [← iZ hi]; exact h i hi
      omega
    · exact h
  obtain ⟨l1, l2, l3⟩ := hl2
  have hS0 : 0 < ns.sum := by
    have := aeK (l := ns) (n := ns.getD last 0) (by rw [iZ l1]; exact List.getElem_mem _)
    omega
  have hz : ∀ n ∈ ns.drop (last + 1), n = 0 := fun n hn => by
    obtain ⟨i, hi, rfl⟩ := List.getElem_of_mem hn
    rw [List.length_drop] at hi
    rw [List.getElem_drop, ← iZ (by omega)]
    exact l3 _ (by omega) (by omega)
  have hcnt : 2 ≤ (ns.take (last + 1)).countP Bh := by
    have : ns.countP Bh = (ns.take (last + 1) ++ ns.drop (last + 1)).countP Bh := by rw [List.take_append_drop]
    rw [List.countP_append, Ss hz] at this
    omega
  have htl : (ns.take (last + 1)).length = last + 1 := by rw [List.length_take]; omega
  have e1 : (last : Int) + 1 = ((last + 1 : Nat) : Int) := by omega
  obtain ⟨b0, off0, rfl, _⟩ := slA hs (by omega)
  have e2 : kW (some ⟨b0, off0, none⟩) c 0 1 = some ⟨b0, off0, none⟩ := by have := Zp (b := b0) (o := off0) (m := c) (l := 0) (by omega); simpa using this
  have hsub : Sl w (.slice (some ⟨b0, off0, none⟩) (last + 1) c) (Vp (ns.take (last + 1))) := by
    have := aeR hs (k := last + 1) (by omega)
    rw [← List.map_take] at this
    exact this
  simp (disch := omega) only [aD, gK, bY, e1, bD, aB, jL, e2, Int.toNat_natCast, Nat.sub_zero, dM, d4, eD, cJ, Bool.false_eq_true, if_false, cL, bN, d5, d7, aJ]
  refine (abC hsub (fun n h => hn n (List.mem_of_mem_take h)) (by omega) hcnt hS0 (by omega)).mono ?_
  rintro r w1 ⟨pb, out, rfl, hpb, ob, hLen, hkr, x1⟩
  rw [htl]
  have hol : out.length = last + 1 := by rw [hLen.len, htl]
  have hm := aiG (w := w1) (pb := pb) (out := out) ob (by omega) (by omega) (fun o ho => by
    obtain ⟨i, hi, rfl⟩ := List.getElem_of_mem ho
    have := hLen.le hi; omega)
  rw [hol] at hm
  refine hm.mono ?_
  rintro r w2 ⟨⟨d, rfl, hd1, hd2⟩, rfl⟩
  obtain ⟨hdep, hd0, hd11, hiff⟩ := Zy hLen hkr hd1 hd2 l1 (by omega) l2 hcnt
  obtain ⟨wl, hwl⟩ : ∃ wl, out.map (Ze d) = wl := ⟨_, rfl⟩
  have hwll : wl.length = last + 1 := by rw [← hwl, List.length_map, hol]
  have hwget : ∀ i, i < last + 1 → wl.getD i 0 = Ze d (out.getD i 0) := fun i hi => by
    rw [← hwl, iZ (by rw [List.length_map]; omega), List.getElem_map, iZ (by omega)]
  rw [hwl] at hdep hiff
  have hw11 := (SC hdep hd0).1
  unfold Am EC E6
  simp (disch := omega) only [aD, dT, aB]
  unfold Ao EN
  refine cV.rule (fun m (t : Value × Value) w' => ∃ (i : Nat) (v' : Value), m = last + 1 - i ∧ t = (v', .int .i64 i) ∧ i ≤ last + 1 ∧ nG w' w2.heap.size 1 v' i ((nH (wl.take i)).map Ic) ∧ bZ w2 w' fN) (last + 1)
    ⟨0, _, rfl, rfl, by omega, nG.nil _ _ _, bZ.refl _ _⟩ ?_
  rintro m t w3 ⟨i, v', rfl, rfl, hi, o3, x3⟩
  have z3 := x3.size
  have z1 := x1.size
  unfold B9 Hd
  by_cases hlt : i < last + 1
  · have d1 : decide ((i : Int) < ((last + 1 : Nat) : Int)) = true := by simp only [decide_eq_true_eq]; omega
    have f1 := (ob.ext x3 (fun h => h)).cell (off := i)
    rw [Gy (by omega)] at f1
    have hs1 := sW (ns := wl) (i := i) (by omega)
    rw [hwget i hlt] at hs1
    have hod := hd1 (out.getD i 0) (by rw [iZ (by omega)]; exact List.getElem_mem _)
    have hwo : Ze d (out.getD i 0) = if out.getD i 0 = 0 then 0 else d + 1 - out.getD i 0 := rfl
    generalize out.getD i 0 = o at *
    have hcells : ∀ x : Nat, Ze d o = x → x < 256 → ((nH (wl.take i)).map Ic ++ [.int .u8 x]) = (nH (wl.take (i + 1))).map Ic := fun x hx hx2 => by
      rw [hs1, hx]
      simp only [nH, List.map_append, List.map_cons, List.map_nil, Ty hx2]
    unfold Cm G5 Hi GA
    by_cases h0 : 0 < o
    · have d2 : decide ((0 : Int) < (o : Int)) = true := by simp; omega
      have e3 : (d : Int) + 1 - (o : Int) = ((d + 1 - o : Nat) : Int) := by omega
      rw [if_neg (by omega)] at hwo
      simp (disch := omega) only [aD, bN, d1, dN, Int.toNat_natCast, Nat.zero_add, bY, bD, aB, cP, f1, aP, dM, d2, dY, e3, aK]
      refine aaE o3 z3 (by omega) (by omega) fun v4 w4 o4 x4 => ?_
      rw [hcells _ hwo (by omega)] at o4
      unfold vA
      simp (disch := omega) only [aD, bY, bD, aB]
      exact ⟨last + 1 - (i + 1), by omega, i + 1, _, rfl, rfl, by omega, o4, x3.trans x4 fun b hb h => by omega⟩
    · have d2 : decide ((0 : Int) < (o : Int)) = false := by simp; omega
      rw [if_pos (by omega)] at hwo
      simp (disch := omega) only [aD, bN, d1, dN, Int.toNat_natCast, Nat.zero_add, bY, bD, aB, cP, f1, aP, dM, d2, dY, aJ, aK]
      refine aaE (x := 0) o3 z3 (by omega) (by omega) fun v4 w4 o4 x4 => ?_
      rw [hcells _ hwo (by omega)] at o4
      unfold vA
      simp (disch := omega) only [aD, bY, bD, aB]
      exact ⟨last + 1 - (i + 1), by omega, i + 1, _, rfl, rfl, by omega, o4, x3.trans x4 fun b hb h => by omega⟩
  · have d1 : decide ((i : Int) < ((last + 1 : Nat) : Int)) = false := by simp only [decide_eq_false_iff_not]; omega
    obtain rfl : i = last + 1 := by omega
    rw [List.take_of_length_le (by omega)] at o3
    unfold Cw
    simp (disch := omega) only [aD, bN, d1, aB, aJ]
    refine ⟨.inr ⟨hok, last, v', wl, hlast, l1, hwll, by omega, fun x hx => by have := hw11 x hx; omega, hiff, rfl, o3.1, ?_⟩, x1.seq x3⟩
    rcases o3.2 with h | ⟨b, c, rest', q1, q2, q3⟩
    · exact .inl h
    · exact .inr ⟨b, c, rest', q1, by omega, q3⟩
end Go.Proofs.Ytoepfjgekpdddaa
namespace Go.Proofs.Ytoepfjgekpdddaa
open Go Go.En Go.Pu
set_option maxRecDepth 4000
set_option linter.unusedSimpArgs false
set_option linter.unusedVariables false
def wrB (l : List Nat) : List Nat := (126 + l.length) :: Jk (l.take (l.length - 1))
theorem V1 {base i x : Nat} {l0 n4 v' i6 : Value} {cells : List Value} {w : World} (o : nG w base 1 v' i cells) (hb : base ≤ w.heap.size) (hi : i ≤ 100000) (hx : x < 256) {kn : Value → Value → Value → Value → World → Prop}
    (hK : ∀ v2 w2, nG w2 base 1 v2 (i + 1) (cells ++ [.int .u8 x]) → bZ w w2 (fun y => base ≤ y) → kn l0 n4 v2 i6 w2) : oL kn l0 n4 v' i6 (.int .u8 x) w := by
  unfold oL
  obtain ⟨av, cv, rfl⟩ := o.len
  refine kP (cells := #[.int .u8 x]) (by decide) (by decide) (by kernel_rfl) fun w5 o5 x5 s5 => ?_
  have z5 := x5.size
  refine jN (m := 1) (news := [.int .u8 x]) (o.ext x5 (fun _ _ h => h)) (o5.cl (off := 0) (l := [.int .u8 x]) (n := 1) rfl (fun i hi => by rw [Nat.zero_add])) (by simp [one]) (by omega) (by omega) fun v6 w6 o6 x6 => ?_
  exact hK v6 w6 o6 ((x5.mono fun _ _ h => h.elim).seq x6)
theorem aeV {v : Value} {l : List UInt8} {d : Nat} {w : World} (h : Bs w v l) (hd : Bg (dZ l) = d) (hd0 : d ≠ 0) (hl : l.length ≤ 129) :
    cC pg vW #[v] w (fun r w' => ∃ v', r = .tuple #[v', .int .i64 0] ∧ nG w' w.heap.size 1 v' (wrB (dZ l)).length ((nH (wrB (dZ l))).map Ic) ∧ bZ w w' fN) := by
  refine NI ?_
  obtain ⟨hall, hd11, hl2, hl256, hlast, hsum⟩ := SC hd hd0
  have hnl := sT l
  obtain ⟨b, off, c, rfl, hc, hcell⟩ := HW h (by omega)
  unfold MR zC Ac
  refine (ZW h (by omega)).mono ?_
  rintro r w1 ⟨rfl, rfl⟩
  rw [hd]
  have n1 : ((d : Int) == 0) = false := beq_eq_false_iff_ne.2 (by omega)
  have d1 : decide ((129 : Int) < (l.length : Int)) = false := by simp; omega
  have e1 : (l.length : Int) - 1 = ((l.length - 1 : Nat) : Int) := by omega
  have e2 : (127 : Int) + ((l.length - 1 : Nat) : Int) = ((126 + l.length : Nat) : Int) := by omega
  have e8 : IntKind.u8.wrap ((126 + l.length : Nat) : Int) = ((126 + l.length : Nat) : Int) := CI (by omega) (by omega)
  simp (disch := omega) only [aD, gY, n1, cI, aB, dY, e1, bD, bY, e2, fI, e8, dM, d1, aJ]
  refine kP (cells := #[.int .u8 (126 + l.length : Nat)]) (by decide) (by decide) (by kernel_rfl) fun w2 o2 x2 s2 => ?_
  obtain ⟨m, hm⟩ : ∃ m, m = (dZ l).take (l.length - 1) := ⟨_, rfl⟩
  have hml : m.length = l.length - 1 := by rw [hm, List.length_take, hnl]; omega
  have hmg : ∀ i, i < l.length - 1 → m.getD i 0 = (dZ l).getD i 0 := fun i hi => by
    rw [hm, List.getD_eq_getElem?_getD, List.getD_eq_getElem?_getD, List.getElem?_take_of_lt hi]
  have hm11 : ∀ x ∈ m, x ≤ 11 := fun x hx => by rw [hm] at hx; have := hall x (List.mem_of_mem_take hx); omega
  have hm16 : ∀ x ∈ m, x < 16 := fun x hx => by have := hm11 x hx; omega
  have hwr : wrB (dZ l) = (126 + l.length) :: Jk m := by unfold wrB; rw [hnl, hm]
  have hpl := XB m
  have ho2 : nG w2 w1.heap.size 1 (.slice (some ⟨w1.heap.size, 0, none⟩) 1 1) (0 + 1) ((nH ((126 + l.length) :: (Jk m).take 0)).map Ic) := by
    refine ⟨by simp, .inr ⟨_, 1, [], rfl, Nat.le_refl _, ?_, rfl, Nat.le_refl _⟩⟩
    simp only [nH, List.take_zero, List.map_cons, List.map_nil, Ty (show 126 + l.length < 256 by omega), List.append_nil]
    exact o2
  unfold rN yU yN rG A2
  refine cV.rule (fun q (t : Value × Value) w' => ∃ (j : Nat) (v' : Value), q = l.length - 1 + 1 - j ∧ t = (v', .int .i64 (2 * j : Nat)) ∧ j ≤ (m.length + 1) / 2 ∧ nG w' w1.heap.size 1 v' (j + 1) ((nH ((126 + l.length) :: (Jk m).take j)).map Ic) ∧ bZ w1 w' fN) (l.length - 1 + 1)
    ⟨0, _, rfl, rfl, by omega, ho2, x2⟩ ?_
  rintro q t w3 ⟨j, v', rfl, rfl, hj, o3, x3⟩
  have z3 := x3.size
  unfold tV BM
  by_cases hlt : 2 * j < l.length - 1
  · have d2 : decide (((2 * j : Nat) : Int) < ((l.length - 1 : Nat) : Int)) = true := by simp only [decide_eq_true_eq]; omega
    obtain ⟨_, _, _, he, _, hcell3⟩ := HW (h.ext x3 (eI _)) (by omega)
    cases he
    have g1 := hcell3 (2 * j) (by omega)
    have hg1 := X0 (l := l) (i := 2 * j) (by omega)
    rw [← hg1, ← hmg (2 * j) hlt] at g1
    have hs1 := sW (ns := Jk m) (i := j) (by omega)
    rw [abA (by omega)] at hs1
    have hx11 : m.getD (2 * j) 0 ≤ 11 := hm11 _ (HK (by omega))
    have hy11 := agF hm16 (2 * j + 1)
    have e3 : ((2 * j : Nat) : Int) + 1 = ((2 * j + 1 : Nat) : Int) := by omega
    have hcells : ∀ z : Nat, z = m.getD (2 * j) 0 * 16 + m.getD (2 * j + 1) 0 → z < 256 → ((nH ((126 + l.length) :: (Jk m).take j)).map Ic ++ [.int .u8 z]) = (nH ((126 + l.length) :: (Jk m).take (j + 1))).map Ic := fun z hz hz2 => by
      rw [hs1, ← hz]
      simp only [nH, List.map_append, List.map_cons, List.map_nil, Ty hz2, List.cons_append]
    have hodd : ¬ 2 * j + 1 < l.length - 1 → m.getD (2 * j + 1) 0 = 0 := fun h => by
      rw [List.getD_eq_getElem?_getD, List.getElem?_eq_none (by omega)]; rfl
    have g2 : 2 * j + 1 < l.length - 1 → w3.cell? ⟨b, off + (2 * j + 1), none⟩ = some (.int .u8 (m.getD (2 * j + 1) 0 : Nat)) := fun h => by
      have := hcell3 (2 * j + 1) (by omega)
      rw [← X0 (l := l) (i := 2 * j + 1) (by omega), ← hmg (2 * j + 1) h] at this
      exact this
    generalize m.getD (2 * j) 0 = x at *
    generalize m.getD (2 * j + 1) 0 = y at *
    have t4 : (4 : Int).toNat = 4 := rfl
    have e4 : IntKind.u8.wrap ((x : Int) * 2 ^ (min 4 IntKind.u8.bits)) = ((x * 16 : Nat) : Int) := by
      rw [show min 4 IntKind.u8.bits = 4 from rfl]
      have : (x : Int) * 2 ^ 4 = ((x * 16 : Nat) : Int) := by omega
      rw [this]
      exact CI (by omega) (by omega)
    unfold tT BI By BU
    by_cases h2 : 2 * j + 1 < l.length - 1
    · have d3 : decide (((2 * j + 1 : Nat) : Int) < ((l.length - 1 : Nat) : Int)) = true := by simp only [decide_eq_true_eq]; omega
      have g2 := g2 h2
      have e5 := aeB (a := x * 16) (b := y) (by omega) (by omega)
      have e6 : x * 16 ||| y = x * 16 + y := by
        rw [Nat.or_comm]
        have := acU (x := y) (i := 4) (by omega) x
        rw [show x * 2 ^ 4 = x * 16 from rfl] at this
        rw [this]; omega
      rw [e6] at e5
      simp (disch := omega) only [aD, bN, d2, eJ, Int.toNat_natCast, bY, e3, bD, aB, fX, d3, aK, g1, aP, lH, t4, e4, g2, WB, e5]
      refine V1 (x := x * 16 + y) o3 (by omega) (by omega) (by omega) fun v4 w4 o4 x4 => ?_
      rw [hcells _ rfl (by omega)] at o4
      unfold oN
      have e7 : ((2 * j : Nat) : Int) + 2 = ((2 * (j + 1) : Nat) : Int) := by omega
      simp (disch := omega) only [aD, bY, e7, bD, aB]
      exact ⟨l.length - 1 + 1 - (j + 1), by omega, j + 1, _, rfl, rfl, by omega, o4, x3.trans x4 fun b hb h => by omega⟩
    · have d3 : decide (((2 * j + 1 : Nat) : Int) < ((l.length - 1 : Nat) : Int)) = false := by simp only [decide_eq_false_iff_not]; omega
      have hy0 := hodd h2
      simp (disch := omega) only [aD, bN, d2, eJ, Int.toNat_natCast, bY, e3, bD, aB, fX, d3, aJ, g1, aP, lH, t4, e4, aK]
      refine V1 (x := x * 16) o3 (by omega) (by omega) (by omega) fun v4 w4 o4 x4 => ?_
      rw [hcells _ (by omega) (by omega)] at o4
      unfold oN
      have e7 : ((2 * j : Nat) : Int) + 2 = ((2 * (j + 1) : Nat) : Int) := by omega
      simp (disch := omega) only [aD, bY, e7, bD, aB]
      exact ⟨l.length - 1 + 1 - (j + 1), by omega, j + 1, _, rfl, rfl, by omega, o4, x3.trans x4 fun b hb h => by omega⟩
  · have d2 : decide (((2 * j : Nat) : Int) < ((l.length - 1 : Nat) : Int)) = false := by simp only [decide_eq_false_iff_not]; omega
    have hjE : j = (Jk m).length := by omega
    rw [List.take_of_length_le (by omega), ← hwr] at o3
    have hwl : (wrB (dZ l)).length = j + 1 := by rw [hwr, List.length_cons]; omega
    unfold tJ
    simp (disch := omega) only [aD, bN, d2, aB, aJ]
    exact ⟨v', rfl, by rw [hwl]; exact o3, x3⟩
end Go.Proofs.Ytoepfjgekpdddaa
namespace Go.Proofs.Ytoepfjgekpdddaa
open Go Go.En Go.Pu
set_option maxRecDepth 4000
set_option linter.unusedSimpArgs false
set_option linter.unusedVariables false
theorem QZ (x : ByteArray) : (dZ (nJ x)).length = x.size := by rw [sT, iV]
theorem ZX {x : ByteArray} {i : Nat} (h : i < x.size) : (x[i]'h).toNat = (dZ (nJ x)).getD i 0 := by
  rw [X0 (by rw [iV]; exact h), ← P5]
theorem YZ {x : ByteArray} {w : World} (hl : x.size ≤ 100000) :
    cC pg Cd #[.string x] w (fun r w' => r = .int .i64 (if kL 11 (dZ (nJ x)) = true then (eF (dZ (nJ x)) : Nat) else -1) ∧ w' = w) := by
  refine Tp ?_
  have hsz := QZ x
  obtain ⟨l, hlx⟩ : ∃ l, dZ (nJ x) = l := ⟨_, rfl⟩
  rw [hlx] at hsz ⊢
  unfold Ud CU Dm zT FM EZ AW Fa
  refine cV.rule (fun m (t : Value × Value) w' => ∃ i : Nat, m = x.size - i ∧ t = (.int .i64 (eF (l.take i) : Nat), .int .i64 i) ∧ i ≤ x.size ∧ kL 11 (l.take i) = true ∧ w' = w) x.size
    ⟨0, rfl, by simp [eF], by omega, by simp [kL], rfl⟩ ?_
  rintro m t w1 ⟨i, rfl, rfl, hi, hle, rfl⟩
  unfold An Fr
  by_cases hlt : i < x.size
  · have d1 : decide ((i : Int) < (x.size : Int)) = true := by simp; omega
    have hg := ZX hlt
    rw [hlx] at hg
    have ht := sW (ns := l) (i := i) (by omega)
    have hwl := Ed (mI.1 hle)
    rw [List.length_take] at hwl
    have hsn : kL 11 (l.take (i + 1)) = (kL 11 (l.take i) && decide (l.getD i 0 ≤ 11)) := by rw [ht, Wc]
    have hwn : eF (l.take (i + 1)) = eF (l.take i) + HP (l.getD i 0) := by rw [ht, MY, mP]; rfl
    have hbad : kL 11 (l.take (i + 1)) = false → kL 11 l = false := VM
    have hy : l.getD i 0 < 256 := by rw [← hlx]; exact LK _ _ (HK (by rw [QZ]; exact hlt))
    generalize l.getD i 0 = y at *
    unfold zM
    by_cases h11 : 11 < y
    · have d2 : decide ((11 : Int) < (y : Int)) = true := by simp; omega
      have hf := hbad (by rw [hsn, hle, decide_eq_false (by omega)]; rfl)
      simp (disch := omega) only [aD, gA, iF, Int.toNat_natCast, hg, bY, bD, aB, eY, dY, dM, d2, aK, bN, d1, and_true]
      rw [hf]; simp
    · have d2 : decide ((11 : Int) < (y : Int)) = false := by simp; omega
      have hle1 : kL 11 (l.take (i + 1)) = true := by rw [hsn, hle, decide_eq_true (by omega)]; rfl
      have hwp := Xl (w := y) (by omega)
      by_cases h0 : 0 < y
      · have d3 : decide ((0 : Int) < (y : Int)) = true := by simp; omega
        have e1 : (y : Int) - 1 = ((y - 1 : Nat) : Int) := by omega
        have hpw : HP y = 2 ^ (y - 1) := by unfold HP; rw [if_neg (by omega)]
        have hpow : ((2 ^ (y - 1) : Nat) : Int) = (2 : Int) ^ (y - 1) := by simp
        have e2 : ((eF (l.take i) : Nat) : Int) + ((2 ^ (y - 1) : Nat) : Int) = ((eF (l.take i) + 2 ^ (y - 1) : Nat) : Int) := by omega
        rw [hpw] at hwp hwn
        simp (disch := omega) only [aD, gA, iF, Int.toNat_natCast, hg, bY, bD, aB, eY, dY, e1, dM, d3, aK, d2, aJ, bN, d1]
        refine (Cq (y - 1) (by omega) w1).mono ?_
        rintro r w2 ⟨rfl, rfl⟩
        rw [← hpow]
        simp (disch := omega) only [bY, e2, bD, aB, and_true]
        exact ⟨x.size - (i + 1), by omega, i + 1, rfl, by rw [hwn]; rfl, by omega, hle1⟩
      · have d3 : decide ((0 : Int) < (y : Int)) = false := by simp; omega
        have hpw : HP y = 0 := by unfold HP; rw [if_pos (by omega)]
        simp (disch := omega) only [aD, gA, iF, Int.toNat_natCast, hg, bY, bD, aB, eY, dY, dM, d3, aJ, d2, bN, d1, and_true, aK]
        exact ⟨x.size - (i + 1), by omega, i + 1, rfl, by rw [hwn, hpw]; rfl, by omega, hle1⟩
  · have d1 : decide ((i : Int) < (x.size : Int)) = false := by simp; omega
    obtain rfl : i = x.size := by omega
    rw [List.take_of_length_le (by omega)] at *
    unfold zF
    simp (disch := omega) only [aD, gA, aB, bN, d1, and_true, aJ]
    rw [hle]; simp
theorem acY (x : Int) (w : World) : cC pg Ge #[.int .i64 x] w (fun r w' => ((∃ d : Nat, d < 20 ∧ x = (2 : Int) ^ d ∧ r = .int .i64 d) ∨ ((∀ d : Nat, d < 20 → x ≠ (2 : Int) ^ d) ∧ r = .int .i64 (-1))) ∧ w' = w) := by
  refine VC ?_
  unfold Xc Iz Id DH IC H3 DP IH
  refine cV.rule (fun m (t : Value) w' => ∃ d : Nat, m = 20 - d ∧ t = .int .i64 d ∧ d ≤ 20 ∧ (∀ e : Nat, e < d → x ≠ (2 : Int) ^ e) ∧ w' = w) 20 ⟨0, rfl, rfl, by omega, fun e h => by omega, rfl⟩ ?_
  rintro m t w1 ⟨d, rfl, rfl, hd, hno, rfl⟩
  unfold DQ
  by_cases hlt : d < 20
  · have d1 : decide ((d : Int) < 20) = true := by simp; omega
    simp (disch := omega) only [aD, bN, d1, bY, bD, aB, aK]
    refine (Cq d (by omega) w1).mono ?_
    rintro r w2 ⟨rfl, rfl⟩
    by_cases he : (2 : Int) ^ d = x
    · have d2 : ((2 : Int) ^ d == x) = true := by simpa using he
      simp (disch := omega) only [gY, d2, aB, and_true, aK]
      exact .inl ⟨d, hlt, he.symm, rfl⟩
    · have d2 : ((2 : Int) ^ d == x) = false := by simpa using he
      simp (disch := omega) only [gY, d2, aB, and_true, aJ]
      refine ⟨20 - (d + 1), by omega, d + 1, rfl, rfl, by omega, fun e h => ?_⟩
      rcases Nat.lt_or_ge e d with h' | h'
      · exact hno e h'
      · have : e = d := by omega
        subst this; exact fun h => he h.symm
  · have d1 : decide ((d : Int) < 20) = false := by simp; omega
    unfold DM
    simp (disch := omega) only [aD, bN, d1, bY, bD, aB, and_true, aJ]
    exact .inr (fun e h => hno e (by omega))
theorem afU {s : Nat} (h0 : 0 < s) (hs : s < 2 ^ 20) {r : Value} (h : (∃ d : Nat, d < 20 ∧ (s : Int) = (2 : Int) ^ d ∧ r = .int .i64 d) ∨ ((∀ d : Nat, d < 20 → (s : Int) ≠ (2 : Int) ^ d) ∧ r = .int .i64 (-1))) :
    (2 ^ s.log2 = s ∧ r = .int .i64 (s.log2 : Nat)) ∨ (2 ^ s.log2 ≠ s ∧ r = .int .i64 (-1)) := by
  rcases h with ⟨d, h1, h2, h3⟩ | ⟨h1, h2⟩
  · have : s = 2 ^ d := by
      have e : ((2 ^ d : Nat) : Int) = (2 : Int) ^ d := by simp
      omega
    subst this
    rw [Nat.log2_two_pow]
    exact .inl ⟨rfl, h3⟩
  · refine .inr ⟨fun he => ?_, h2⟩
    have hl : s.log2 < 20 := (Nat.log2_lt (by omega)).2 hs
    apply h1 _ hl
    have e : ((2 ^ s.log2 : Nat) : Int) = (2 : Int) ^ s.log2 := by simp
    rw [← e, he]
end Go.Proofs.Ytoepfjgekpdddaa
namespace Go.Proofs.Ytoepfjgekpdddaa
open Go Go.En Go.Pu
set_option maxRecDepth 4000
set_option linter.unusedSimpArgs false
set_option linter.unusedVariables false
theorem ahD {base i x : Nat} {v : Value} {cells : List Value} {w : World} (o : nG w base 1 v i cells) (hb : base ≤ w.heap.size) (hi : i ≤ 100000) {K : Value → World → Prop}
    (hK : ∀ v2 w2, nG w2 base 1 v2 (i + 1) (cells ++ [.int .u8 x]) → bZ w w2 (fun y => base ≤ y) → K v2 w2) :
    aD pg (cQ 22 1 [(0, .int .u8 x)]) w fun t w => aD pg (iJ .append #[22, 22] 22 [v, t]) w fun t' w => K t' w := by
  refine kP (cells := #[.int .u8 x]) (by decide) (by decide) (by kernel_rfl) fun w5 o5 x5 s5 => ?_
  have z5 := x5.size
  refine jN (m := 1) (news := [.int .u8 x]) (o.ext x5 (fun _ _ h => h)) (o5.cl (off := 0) (l := [.int .u8 x]) (n := 1) rfl (fun i hi => by rw [Nat.zero_add])) (by simp [one]) (by omega) (by omega) fun v6 w6 o6 x6 => ?_
  exact hK v6 w6 o6 ((x5.mono fun _ _ h => h.elim).seq x6)
theorem YE {x : ByteArray} {n : Nat} {w : World} (hl : x.size ≤ 1000) (hn : n ≤ 1000) :
    cC pg Ai #[.string x, .int .i64 n] w (fun r w' => ((x.size < (n + 1) / 2 ∧ r = .tuple #[.string ⟨#[]⟩, .int .i64 10]) ∨
      ((n + 1) / 2 ≤ x.size ∧ r = .tuple #[.string ⟨(nH (iL (dZ (nJ x)) n)).toArray⟩, .int .i64 0])) ∧ bZ w w' fN) := by
  refine Re ?_
  have hsz := QZ x
  unfold Qa BQ BC
  have e1 : (2 : Int) * (x.size : Int) = ((2 * x.size : Nat) : Int) := by omega
  by_cases hsh : x.size < (n + 1) / 2
  · have d1 : decide (((2 * x.size : Nat) : Int) < (n : Int)) = true := by simp only [decide_eq_true_eq]; omega
    simp (disch := omega) only [aD, gA, and_true, aB, qB, e1, bD, bN, d1, aK]
    exact ⟨.inl hsh, bZ.refl _ _⟩
  have d1 : decide (((2 * x.size : Nat) : Int) < (n : Int)) = false := by simp only [decide_eq_false_iff_not]; omega
  simp (disch := omega) only [aD, gA, and_true, aB, qB, e1, bD, bN, d1, aJ]
  unfold vN C1 Dr wN DB
  have hlt := LK (nJ x)
  refine cV.rule (fun m (t : Value × Value) w' => ∃ (i : Nat) (v' : Value), m = n - i ∧ t = (v', .int .i64 i) ∧ i ≤ n ∧ nG w' w.heap.size 1 v' i (ZA (iL (dZ (nJ x)) i)) ∧ bZ w w' fN) n
    ⟨0, _, rfl, rfl, by omega, nG.nil _ _ _, bZ.refl _ _⟩ ?_
  rintro m t w1 ⟨i, v', rfl, rfl, hi, o1, x1⟩
  have z1 := x1.size
  unfold wL Dx
  by_cases hlt2 : i < n
  · have d2 : decide ((i : Int) < (n : Int)) = true := by simp; omega
    have e3 : (i : Int).tdiv 2 = ((i / 2 : Nat) : Int) := by rw [Int.tdiv_eq_ediv_of_nonneg (by omega)]; omega
    have e4 : (i : Int).tmod 2 = ((i % 2 : Nat) : Int) := by rw [Int.tmod_eq_emod_of_nonneg (by omega)]; omega
    have hi2 : i / 2 < x.size := by omega
    have g1 := ZX (x := x) (i := i / 2) hi2
    have t2 : ((i / 2 : Nat) : Int).toNat = i / 2 := Int.toNat_natCast _
    have hs := Q9 (dZ (nJ x)) i
    have hf : O7 (dZ (nJ x)) i = if i % 2 = 0 then (dZ (nJ x)).getD (i / 2) 0 / 16 else (dZ (nJ x)).getD (i / 2) 0 % 16 := rfl
    have hc : (dZ (nJ x)).getD (i / 2) 0 < 256 := hlt _ (HK (by omega))
    have hcells : ZA (iL (dZ (nJ x)) i) ++ [.int .u8 (O7 (dZ (nJ x)) i : Nat)] = ZA (iL (dZ (nJ x)) (i + 1)) := by
      rw [hs]; show _ = List.map _ (_ ++ _); rw [List.map_append]; rfl
    generalize (dZ (nJ x)).getD (i / 2) 0 = c at *
    generalize O7 (dZ (nJ x)) i = y at *
    by_cases hev : i % 2 = 0
    · have n2 : (((i % 2 : Nat) : Int) == 0) = true := by rw [hev]; rfl
      rw [if_pos hev] at hf
      have e5 : (c : Int).tdiv 16 = (y : Int) := by rw [Int.tdiv_eq_ediv_of_nonneg (by omega)]; omega
      have e6 : IntKind.u8.wrap (y : Int) = (y : Int) := CI (by omega) (by omega)
      simp (disch := omega) only [aD, bN, d2, rE, e4, kX, e3, bD, aB, iF, t2, g1, e5, e6, gY, n2, aK]
      refine ahD o1 (by omega) (by omega) fun v2 w2 o2 x2 => ?_
      rw [hcells] at o2
      unfold qE
      simp (disch := omega) only [aD, bY, bD, aB]
      exact ⟨n - (i + 1), by omega, i + 1, _, rfl, rfl, by omega, o2, x1.trans x2 fun b hb h => by omega⟩
    · have n2 : (((i % 2 : Nat) : Int) == 0) = false := beq_eq_false_iff_ne.2 (by omega)
      rw [if_neg hev] at hf
      have e5 : (c : Int).tmod 16 = (y : Int) := by rw [Int.tmod_eq_emod_of_nonneg (by omega)]; omega
      have e6 : IntKind.u8.wrap (y : Int) = (y : Int) := CI (by omega) (by omega)
      simp (disch := omega) only [aD, bN, d2, rE, e4, kX, e3, bD, aB, iF, t2, g1, e5, gY, n2, aJ, aK]
      refine ahD o1 (by omega) (by omega) fun v2 w2 o2 x2 => ?_
      rw [hcells] at o2
      unfold qE
      simp (disch := omega) only [aD, bY, bD, aB]
      exact ⟨n - (i + 1), by omega, i + 1, _, rfl, rfl, by omega, o2, x1.trans x2 fun b hb h => by omega⟩
  · have d2 : decide ((i : Int) < (n : Int)) = false := by simp; omega
    obtain rfl : i = n := by omega
    unfold vR
    rw [← VI fun y hy => by have := Nr hlt i y hy; omega] at o1
    have hb1 : Bs w1 v' (nH (iL (dZ (nJ x)) i)) := o1.sl
    have hcv := kK hb1
    simp (disch := omega) only [aD, bN, d2, rE, kX, aB, gY, hcv, and_true, aJ]
    exact ⟨.inr (by omega), x1⟩
end Go.Proofs.Ytoepfjgekpdddaa
namespace Go.Proofs.Ytoepfjgekpdddaa
open Go Go.En Go.Pu
set_option maxRecDepth 4000
set_option linter.unusedSimpArgs false
set_option linter.unusedVariables false
def Wj (x : ByteArray) (o : Option Nat) (r : Value) : Prop := match o with
  | none => r = .tuple #[.string ⟨#[]⟩, .int .i64 11]
  | some k => ∃ y : ByteArray, nJ y = nJ x ++ [UInt8.ofNat k] ∧ r = .tuple #[.string y, .int .i64 0]
theorem ZE {x : ByteArray} {w : World} (hl : x.size ≤ 100000) :
    cC pg Co #[.string x] w (fun r w' => Wj x (pJ (dZ (nJ x))) r ∧ bZ w w' fN) := by
  refine SN ?_
  have hsz := QZ x
  obtain ⟨l, hnl⟩ : ∃ l, dZ (nJ x) = l := ⟨_, rfl⟩
  rw [hnl] at hsz ⊢
  have no : ¬ (kL 11 l = true ∧ 1 ≤ l.length ∧ l.length ≤ 255 ∧ 0 < eF l ∧ bl (eF l) ≤ 11 ∧ 2 ^ (2 ^ bl (eF l) - eF l).log2 = 2 ^ bl (eF l) - eF l) → pJ l = none := fun h => by
    unfold pJ; rw [if_neg h]
  unfold TY EW Fb
  refine (YZ hl).mono ?_
  rintro r w1 ⟨rfl, rfl⟩
  rw [hnl]
  rcases Nat.eq_zero_or_pos x.size with h0 | h0
  · have hx : x = ⟨#[]⟩ := Vm (List.length_eq_zero_iff.1 (by rw [iV, h0]))
    have := no (by omega)
    subst hx
    simp (disch := omega) only [aD, Be, Xx, aB, gD, cJ, if_true, aK, dG]
    rw [this]; exact ⟨rfl, bZ.refl _ _⟩
  have hne := XN h0
  by_cases h3 : 255 < x.size
  · have d3 : decide ((255 : Int) < (x.size : Int)) = true := by simp; omega
    have := no (by omega)
    simp (disch := omega) only [aD, Be, hne, aB, eD, cJ, Bool.false_eq_true, if_false, cL, gA, dM, d3, gD, if_true, aK, dG]
    rw [this]; exact ⟨rfl, bZ.refl _ _⟩
  have d3 : decide ((255 : Int) < (x.size : Int)) = false := by simp; omega
  cases hok : kL 11 l with
  | false =>
    have := no (by rw [hok]; simp)
    have d4 : decide ((-1 : Int) < 1) = true := rfl
    simp only [Bool.false_eq_true, if_false]
    simp (disch := omega) only [aD, Be, hne, aB, eD, cJ, Bool.false_eq_true, if_false, cL, gA, dM, d3, bN, d4, aK]
    rw [this]; exact ⟨rfl, bZ.refl _ _⟩
  | true =>
    have hw := Ed (mI.1 hok)
    simp only [if_true]
    obtain ⟨s, hs⟩ : ∃ s, eF l = s := ⟨_, rfl⟩
    rw [hs] at no hw ⊢
    by_cases h4 : s < 1
    · have d4 : decide ((s : Int) < 1) = true := by simp; omega
      have := no (by omega)
      simp (disch := omega) only [aD, Be, hne, aB, eD, cJ, Bool.false_eq_true, if_false, cL, gA, dM, d3, bN, d4, aK]
      rw [this]; exact ⟨rfl, bZ.refl _ _⟩
    have d4 : decide ((s : Int) < 1) = false := by simp; omega
    have hbl19 : bl s ≤ 19 := lR (by omega)
    have hlt := MM s
    have hle := Q5 (k := s) (by omega)
    have hbl0 := Hb (k := s) (by omega)
    simp (disch := omega) only [aD, Be, hne, aB, eD, cJ, Bool.false_eq_true, if_false, cL, gA, dM, d3, bN, d4, aJ]
    unfold AO Fx Ef
    refine cV.rule (fun m (t : Value) w' => ∃ d : Nat, m = bl s - d ∧ t = .int .i64 d ∧ 1 ≤ d ∧ d ≤ bl s ∧ w' = w1) (bl s - 1) ⟨1, rfl, rfl, by omega, by omega, rfl⟩ ?_
    rintro m t w2 ⟨d, rfl, rfl, hd1, hd2, rfl⟩
    unfold AM
    refine (Cq d (by omega) w2).mono ?_
    rintro r w3 ⟨rfl, rfl⟩
    have hpow : ((2 ^ d : Nat) : Int) = (2 : Int) ^ d := by simp
    rw [← hpow]
    by_cases hq : d < bl s
    · have hp : 2 ^ d ≤ 2 ^ (bl s - 1) := Nat.pow_le_pow_right (by omega) (by omega)
      have d5 : decide (((2 ^ d : Nat) : Int) ≤ (s : Int)) = true := by simp only [decide_eq_true_eq]; omega
      simp (disch := omega) only [aD, DE, d5, bY, bD, aB, and_true, aK]
      exact ⟨bl s - (d + 1), by omega, d + 1, rfl, rfl, by omega, by omega⟩
    · have hde : d = bl s := by omega
      rw [← hde] at no hlt hle
      have d5 : decide (((2 ^ d : Nat) : Int) ≤ (s : Int)) = false := by simp only [decide_eq_false_iff_not]; omega
      unfold Ag
      simp (disch := omega) only [aD, DE, d5, bY, bD, aB, dM, cJ, and_true, aJ]
      refine (Cq d (by omega) w3).mono ?_
      rintro r w4 ⟨rfl, rfl⟩
      rw [← hpow]
      have hp20 : 2 ^ d ≤ 2 ^ 19 := Nat.pow_le_pow_right (by omega) (by omega)
      have e1 : ((2 ^ d : Nat) : Int) - (s : Int) = ((2 ^ d - s : Nat) : Int) := by omega
      obtain ⟨q, hqq⟩ : ∃ q, 2 ^ d - s = q := ⟨_, rfl⟩
      rw [hqq] at no e1
      simp (disch := omega) only [dY, e1, bD, aB]
      refine (acY _ w4).mono ?_
      rintro r w5 ⟨hlog, rfl⟩
      by_cases h6 : 11 < d
      · have d6 : decide ((11 : Int) < (d : Int)) = true := by simp; omega
        have := no (by omega)
        obtain ⟨kr, hkr⟩ : ∃ kr : Int, r = .int .i64 kr := by
          rcases hlog with ⟨e, _, _, h⟩ | ⟨_, h⟩
          · exact ⟨_, h⟩
          · exact ⟨_, h⟩
        subst hkr
        simp (disch := omega) only [d6, gD, if_true, bY, aB, fI, aK, dG]
        rw [this]; exact ⟨rfl, bZ.refl _ _⟩
      have d6 : decide ((11 : Int) < (d : Int)) = false := by simp; omega
      rcases afU (by omega) (by omega) hlog with ⟨hp, rfl⟩ | ⟨hp, rfl⟩
      · have hlg : q.log2 < 20 := (Nat.log2_lt (by omega)).2 (by omega)
        have d7 : decide (((q.log2 : Nat) : Int) < 0) = false := by simp
        have hyes : pJ l = some (q.log2 + 1) := by
          unfold pJ
          rw [hs, ← hde, hqq, if_pos ⟨hok, by omega, by omega, by omega, by omega, hp⟩]
        have e2 : ((q.log2 : Nat) : Int) + 1 = ((q.log2 + 1 : Nat) : Int) := by omega
        have e8 : IntKind.u8.wrap ((q.log2 + 1 : Nat) : Int) = ((q.log2 + 1 : Nat) : Int) := CI (by omega) (by omega)
        rw [hyes]
        simp (disch := omega) only [d6, eD, Bool.false_eq_true, if_false, bY, e2, bD, aB, fI, e8, cL, bN, d7, aJ]
        refine kP (cells := #[.int .u8 (q.log2 + 1 : Nat)]) (by decide) (by decide) (by kernel_rfl) fun w6 o6 x6 s6 => ?_
        have hb6 : Bs w6 (.slice (some ⟨w5.heap.size, 0, none⟩) 1 1) [UInt8.ofNat (q.log2 + 1)] := by
          refine ⟨_, _, _, rfl, rfl, Nat.le_refl _, fun _ => ⟨_, _, rfl, fun i hi => ?_⟩⟩
          rw [o6.cell, Nat.zero_add, List.map_cons, List.map_nil, Ty (by omega)]
        have hcv := kK hb6
        have hcat := aeA (P := pg) (t := 9) (ox := .tmp 0) (oy := .tmp 0) (w := w6) x ⟨([UInt8.ofNat (q.log2 + 1)] : List UInt8).toArray⟩ (by
          have : (⟨([UInt8.ofNat (q.log2 + 1)] : List UInt8).toArray⟩ : ByteArray).size = 1 := rfl
          omega)
        have hsz1 : (⟨([UInt8.ofNat (q.log2 + 1)] : List UInt8).toArray⟩ : ByteArray).size = 1 := rfl
        simp (disch := omega) only [hcv, aB, aeA]
        refine ⟨⟨_, ?_, rfl⟩, x6⟩
        rw [Za]; rfl
      · have := no (fun h => hp h.2.2.2.2.2)
        have d7 : decide ((-1 : Int) < 0) = true := rfl
        simp (disch := omega) only [d6, eD, Bool.false_eq_true, if_false, bY, bD, aB, fI, CI, cL, bN, d7, aK]
        rw [this]; exact ⟨rfl, bZ.refl _ _⟩
end Go.Proofs.Ytoepfjgekpdddaa
namespace Go.Proofs.Ytoepfjgekpdddaa
open Go Go.En Go.Pu
set_option maxRecDepth 4000
set_option linter.unusedSimpArgs false
set_option linter.unusedVariables false
def XV (o : Except Int (List Nat)) (n : Nat) : Except Int (List UInt8 × Nat) := match o with
  | .error e => .error e
  | .ok m => match pJ m with
    | none => .error 11
    | some k => .ok (nH m ++ [UInt8.ofNat k], 1 + n)
def Wh (l : List UInt8) : Except Int (List UInt8 × Nat) := match l with
  | [] => .error 10
  | h :: rest =>
    if 128 ≤ h.toNat then (if rest.length < (h.toNat - 127 + 1) / 2 then .error 10 else XV (.ok (iL (dZ rest) (h.toNat - 127))) ((h.toNat - 127 + 1) / 2))
    else if rest.length < h.toNat then .error 10 else XV (lY (rest.take h.toNat)) h.toNat
theorem Xi (m : List Nat) (n : Nat) : XV (.ok m) n = match pJ m with
    | none => .error 11
    | some k => .ok (nH m ++ [UInt8.ofNat k], 1 + n) := rfl
theorem Vv (h : UInt8) (rest : List UInt8) : Wh (h :: rest) = if 128 ≤ h.toNat then (if rest.length < (h.toNat - 127 + 1) / 2 then .error 10 else XV (.ok (iL (dZ rest) (h.toNat - 127))) ((h.toNat - 127 + 1) / 2))
    else if rest.length < h.toNat then .error 10 else XV (lY (rest.take h.toNat)) h.toNat := rfl
def Xj (w : World) (base : Nat) (o : Except Int (List UInt8 × Nat)) (r : Value) : Prop := match o with
  | .error e => r = .tuple #[.slice none 0 0, .int .i64 0, .int .i64 e]
  | .ok (m, n) => ∃ v, r = .tuple #[v, .int .i64 (n : Nat), .int .i64 0] ∧ nG w base 1 v m.length (m.map Ic)
def HC (o : Except Int (List UInt8 × Nat)) (r : Value) : Prop := match o with
  | .error e => r = .tuple #[.string ⟨#[]⟩, .int .i64 0, .int .i64 e]
  | .ok (m, n) => r = .tuple #[.string ⟨m.toArray⟩, .int .i64 (n : Nat), .int .i64 0]
theorem TV {l : List UInt8} {e : Int} (h : lY l = .error e) : e ≠ 0 := by
  unfold lY at h
  split at h
  · rename_i hr
    cases h
    exact R8 hr
  · split at h
    · cases h; decide
    · split at h
      · cases h; decide
      · split at h
        · cases h; decide
        · cases h
theorem aaO {m : List Nat} {n : Nat} {v : Value} {w0 w : World} (hb : Bs w v (nH m)) (hm : ∀ x ∈ m, x < 256) (hml : m.length ≤ 1000) (hn : n ≤ 1000) (x0 : bZ w0 w fN) {RR : Value → World → Prop}
    (key : ∀ r w', Xj w' w0.heap.size (XV (.ok m) n) r → bZ w0 w' fN → RR r w') : jI RR v (.int .i64 n) (.int .i64 0) w := by
  have n1 : ((0 : Int) != 0) = false := rfl
  have hbl : (nH m).length = m.length := by simp
  obtain ⟨av, cv, hv, _⟩ := hb.len
  rw [List.length_map, hbl] at hv
  subst hv
  unfold jI
  simp (disch := omega) only [aD, fP, n1, bY, bD, aB, aJ]
  refine (XE hb (by rw [hbl]; omega)).mono ?_
  rintro r w2 ⟨hwo, x2⟩
  rw [Sv hm] at hwo
  rw [Xi] at key
  have z0 := x0.size
  cases hw : pJ m with
  | none =>
    rw [hw] at hwo key
    obtain rfl := hwo
    have n2 : ((11 : Int) != 0) = true := rfl
    simp (disch := omega) only [vU, wU, aB, fP, n2, aK]
    exact key _ _ rfl (x0.seq x2)
  | some k =>
    rw [hw] at hwo key
    obtain ⟨v2, rfl, o2⟩ := hwo
    have e5 : (1 : Int) + ((n : Nat) : Int) = ((1 + n : Nat) : Int) := by omega
    simp (disch := omega) only [vU, wU, e5, aB, fP, n1, aJ]
    refine key _ _ ⟨v2, rfl, ?_⟩ (x0.seq x2)
    have := o2.lower (a := w0.heap.size) z0
    rw [show (nH m ++ [UInt8.ofNat k]).length = (nH m).length + 1 from by simp]
    exact this
theorem P2 {m : List Nat} {n : Nat} {w0 w : World} (hm : ∀ x ∈ m, x < 256) (hml : m.length ≤ 1000) (hn : n ≤ 1000) (x0 : bZ w0 w fN) {RR : Value → World → Prop}
    (key : ∀ r w', HC (XV (.ok m) n) r → bZ w0 w' fN → RR r w') : lI RR (.string ⟨(nH m).toArray⟩) (.int .i64 0) (.int .i64 n) w := by
  have n1 : ((0 : Int) != 0) = false := rfl
  have hlm : nJ (⟨(nH m).toArray⟩ : ByteArray) = nH m := acX _
  have hzm : (⟨(nH m).toArray⟩ : ByteArray).size = m.length := by rw [← iV, hlm, List.length_map]
  unfold lI
  simp (disch := omega) only [aD, fP, n1, bY, bD, aB, aJ]
  refine (ZE (x := ⟨(nH m).toArray⟩) (by omega)).mono ?_
  rintro r w2 ⟨hwo, x2⟩
  rw [hlm, Sv hm] at hwo
  rw [Xi] at key
  unfold Wj at hwo
  cases hw : pJ m with
  | none =>
    rw [hw] at hwo key
    obtain rfl := hwo
    have n2 : ((11 : Int) != 0) = true := rfl
    simp (disch := omega) only [vU, wU, aB, fP, n2, aK]
    exact key _ _ rfl (x0.seq x2)
  | some k =>
    rw [hw] at hwo key
    obtain ⟨y, hy, rfl⟩ := hwo
    rw [hlm] at hy
    obtain rfl : y = ⟨(nH m ++ [UInt8.ofNat k]).toArray⟩ := Vm (by rw [hy]; rfl)
    have e5 : (1 : Int) + ((n : Nat) : Int) = ((1 + n : Nat) : Int) := by omega
    simp (disch := omega) only [vU, wU, e5, aB, fP, n1, aJ]
    exact key _ _ rfl (x0.seq x2)
theorem ahT {v : Value} {l : List UInt8} {w : World} (h : Bs w v l) (hl : l.length ≤ 1000) :
    cC pg oM #[v] w (fun r w' => Xj w' w.heap.size (Wh l) r ∧ bZ w w' fN) := by
  cases l with
  | nil =>
    refine Af ?_
    obtain ⟨a, c, rfl, _⟩ := h.len
    unfold DR pQ pV
    have n0 : ((([] : List Value).length : Int) == 0) = true := rfl
    simp (disch := omega) only [aD, cI, aB, gY]
    exact ⟨rfl, bZ.refl _ _⟩
  | cons hd rest =>
    have hhd : hd.toNat < 256 := UInt8.toNat_lt _
    have hof : UInt8.ofNat hd.toNat = hd := by simp
    rw [List.length_cons] at hl
    rw [Vv]
    by_cases h128 : 128 ≤ hd.toNat
    · rw [if_pos h128]
      refine (PO (h := hd.toNat) (rest := rest) h (by rw [hof]) h128 hhd (by omega)).mono ?_
      rintro r w' ⟨hdo, x⟩
      refine ⟨?_, x⟩
      unfold CF at hdo
      by_cases hsh : rest.length < (hd.toNat - 127 + 1) / 2
      · rw [if_pos hsh] at hdo ⊢; exact hdo
      · rw [if_neg hsh] at hdo ⊢
        rw [Xi]
        cases hw : pJ (iL (dZ rest) (hd.toNat - 127)) with
        | none => rw [hw] at hdo; exact hdo
        | some k =>
          rw [hw] at hdo
          obtain ⟨v', rfl, o⟩ := hdo
          refine ⟨v', rfl, ?_⟩
          rw [show (nH (iL (dZ rest) (hd.toNat - 127)) ++ [UInt8.ofNat k]).length = hd.toNat - 127 + 1 from by simp [yP]]
          exact o
    rw [if_neg h128]
    refine Af ?_
    obtain ⟨RR, hRR⟩ : ∃ RR : Value → World → Prop, RR = fun r w' => Xj w' w.heap.size (if rest.length < hd.toNat then .error 10 else XV (lY (rest.take hd.toNat)) hd.toNat) r ∧ bZ w w' fN := ⟨_, rfl⟩
    rw [← hRR]
    have key : ∀ r w', Xj w' w.heap.size (if rest.length < hd.toNat then .error 10 else XV (lY (rest.take hd.toNat)) hd.toNat) r → bZ w w' fN → RR r w' := fun r w' h1 h2 => by rw [hRR]; exact ⟨h1, h2⟩
    obtain ⟨b, off, c, rfl, hc, hcell⟩ := HW h (by simp)
    have g0 := hcell 0 (by simp)
    rw [List.getElem_cons_zero] at g0
    have hsub := h.drop' (k := 1) (by simp)
    rw [List.map_cons, List.drop_succ_cons, List.drop_zero, List.length_cons, Nat.add_sub_cancel] at hsub
    have hsub : Bs w _ rest := hsub
    rw [List.length_cons] at hc ⊢
    generalize hd.toNat = q at *
    have n0 : (((rest.length + 1 : Nat) : Int) == 0) = false := beq_eq_false_iff_ne.2 (by omega)
    have d1 : decide ((128 : Int) ≤ (q : Int)) = false := by simp; omega
    have t0 : (0 : Int).toNat = 0 := rfl
    have t1 : (1 : Int).toNat = 1 := rfl
    have e11 : rest.length + 1 - 1 = rest.length := by omega
    unfold DR pQ pV
    by_cases hsh : rest.length < q
    · rw [if_pos hsh] at key
      have d2 : decide ((rest.length : Int) < (q : Int)) = true := by simp; omega
      simp (disch := omega) only [aD, cI, eJ, t0, gX, t1, e11, aB, fX, gY, n0, g0, aP, eY, bD, kU, d1, dY, bY, kX, bN, d2, aK, aJ]
      have n1 : ((10 : Int) != 0) = true := rfl
      unfold jI
      simp (disch := omega) only [aD, fP, n1, bY, bD, aB, aK]
      exact key _ _ rfl (bZ.refl _ _)
    · rw [if_neg hsh] at key
      have d2 : decide ((rest.length : Int) < (q : Int)) = false := by simp; omega
      have tq : (q : Int).toNat = q := Int.toNat_natCast _
      have hcl : rest.length ≤ c - 1 := by omega
      have htk := hsub.take' (k := q) (by omega)
      rw [← List.map_take] at htk
      have htk : Bs w _ (rest.take q) := htk
      have htl : (rest.take q).length = q := by rw [List.length_take]; omega
      simp (disch := omega) only [aD, cI, eJ, t0, gX, t1, e11, aB, fX, gY, n0, g0, aP, eY, bD, kU, d1, dY, bY, kX, bN, d2, jW, tq, aJ]
      refine (adC htk (by omega)).mono ?_
      rintro r w2 ⟨hst, x2⟩
      cases hs : lY (rest.take q) with
      | error e =>
        rw [hs] at hst key
        have he := TV hs
        obtain rfl := hst
        have n1 : (e != 0) = true := by simp [he]
        unfold jI
        simp (disch := omega) only [vU, wU, aD, bY, bD, aB, fP, n1, aK]
        exact key _ _ rfl x2
      | ok m =>
        rw [hs] at hst key
        obtain ⟨hm1, hm2⟩ := VD hs
        obtain ⟨v2, rfl, o2⟩ := hst
        have hb2 : Bs w2 v2 (nH m) := o2.sl
        simp (disch := omega) only [vU, wU, aB]
        exact aaO hb2 hm1 (by omega) (by omega) x2 key
theorem ZD {x : ByteArray} {w : World} (hl : x.size ≤ 1000) :
    cC pg DZ #[.string x] w (fun r w' => HC (Wh (nJ x)) r ∧ bZ w w' fN) := by
  refine UE ?_
  obtain ⟨RR, hRR⟩ : ∃ RR : Value → World → Prop, RR = fun r w' => HC (Wh (nJ x)) r ∧ bZ w w' fN := ⟨_, rfl⟩
  rw [← hRR]
  have key : ∀ r w', HC (Wh (nJ x)) r → bZ w w' fN → RR r w' := fun r w' h1 h2 => by rw [hRR]; exact ⟨h1, h2⟩
  have hll := iV x
  unfold Wn Hc G3
  cases hx : nJ x with
  | nil =>
    rw [hx] at hll key
    have hxe : x = ⟨#[]⟩ := Vm hx
    subst hxe
    simp (disch := omega) only [aD, Be, Xx, gA, aB, dY, bD, aK]
    exact key _ _ rfl (bZ.refl _ _)
  | cons hd rest =>
    have hhd : hd.toNat < 256 := UInt8.toNat_lt _
    rw [hx, List.length_cons] at hll
    have hen := XN (x := x) (by omega)
    have g0 : (x[0]'(by omega)).toNat = hd.toNat := by
      have := P5 x 0 (by omega)
      rw [this]; simp only [hx, List.getElem_cons_zero]
    have t0 : (0 : Int).toNat = 0 := rfl
    have t1 : (1 : Int).toNat = 1 := rfl
    rw [hx] at key
    rw [Vv] at key
    have le1 : nJ (x.extract 1 x.size) = rest := by
      rw [Kp, hx, List.drop_succ_cons, List.drop_zero, List.take_of_length_le (by omega)]
    have lz1 : (x.extract 1 x.size).size = rest.length := by rw [← iV, le1]
    generalize hd.toNat = q at *
    by_cases h128 : 128 ≤ q
    · rw [if_pos h128] at key
      have d1 : decide ((128 : Int) ≤ (q : Int)) = true := by simp; omega
      have e1 : (q : Int) - 127 = ((q - 127 : Nat) : Int) := by omega
      have e2 : ((q - 127 : Nat) : Int) + 1 = ((q - 127 + 1 : Nat) : Int) := by omega
      have e3 : ((q - 127 + 1 : Nat) : Int).tdiv 2 = (((q - 127 + 1) / 2 : Nat) : Int) := by rw [Int.tdiv_eq_ediv_of_nonneg (by omega)]; omega
      simp (disch := omega) only [aD, Be, hen, iF, t0, g0, Al, t1, aB, gA, dY, bD, eY, kU, d1, e1, bY, e2, kX, e3, bN, aK, aJ]
      refine (YE (x := x.extract 1 x.size) (n := q - 127) (by omega) (by omega)).mono ?_
      rintro r w2 ⟨hr, x2⟩
      rw [le1, lz1] at hr
      rcases hr with ⟨hsh, rfl⟩ | ⟨hsh, rfl⟩
      · rw [if_pos hsh] at key
        have n1 : ((10 : Int) != 0) = true := rfl
        unfold lI
        simp (disch := omega) only [vU, wU, aD, bY, bD, aB, fP, n1, aK]
        exact key _ _ rfl x2
      · rw [if_neg (by omega)] at key
        simp (disch := omega) only [vU, wU, aB]
        exact P2 (m := iL (dZ rest) (q - 127)) (fun y hy => by have := Nr (LK rest) _ y hy; omega) (by rw [yP]; omega) (by omega) x2 key
    · rw [if_neg h128] at key
      have d1 : decide ((128 : Int) ≤ (q : Int)) = false := by simp; omega
      have e1 : (x.size : Int) - 1 = ((rest.length : Nat) : Int) := by omega
      by_cases hsh : rest.length < q
      · rw [if_pos hsh] at key
        have d2 : decide ((rest.length : Int) < (q : Int)) = true := by simp; omega
        simp (disch := omega) only [aD, Be, hen, iF, t0, g0, Al, t1, aB, gA, dY, e1, bD, eY, kU, d1, bY, kX, bN, d2, aK, aJ]
        have n1 : ((10 : Int) != 0) = true := rfl
        unfold lI
        simp (disch := omega) only [aD, fP, n1, bY, bD, aB, aK]
        exact key _ _ rfl (bZ.refl _ _)
      · rw [if_neg hsh] at key
        have d2 : decide ((rest.length : Int) < (q : Int)) = false := by simp; omega
        have e2 : (1 : Int) + (q : Int) = ((1 + q : Nat) : Int) := by omega
        have tq : ((1 + q : Nat) : Int).toNat = 1 + q := Int.toNat_natCast _
        have le2 : nJ (x.extract 1 (1 + q)) = rest.take q := by
          rw [Kp, hx, List.drop_succ_cons, List.drop_zero, Nat.add_sub_cancel_left]
        have lz2 : (x.extract 1 (1 + q)).size = q := by rw [← iV, le2, List.length_take]; omega
        simp (disch := omega) only [aD, Be, hen, iF, t0, g0, Al, t1, aB, gA, dY, e1, bD, eY, kU, d1, bY, kX, bN, d2, e2, V8, tq, aJ]
        refine (YG (x := x.extract 1 (1 + q)) (by omega)).mono ?_
        rintro r w2 ⟨hst, x2⟩
        rw [le2] at hst
        cases hs : lY (rest.take q) with
        | error e =>
          rw [hs] at hst key
          have he := TV hs
          obtain rfl := hst
          have n1 : (e != 0) = true := by simp [he]
          unfold lI
          simp (disch := omega) only [vU, wU, aD, bY, bD, aB, fP, n1, aK]
          exact key _ _ rfl x2
        | ok m =>
          rw [hs] at hst key
          obtain ⟨hm1, hm2⟩ := VD hs
          obtain rfl := hst
          simp (disch := omega) only [vU, wU, aB]
          exact P2 hm1 (by omega) (by omega) x2 key
end Go.Proofs.Ytoepfjgekpdddaa
namespace Go.Proofs.Ytoepfjgekpdddaa
open Go Go.En Go.Pu
set_option maxRecDepth 4000
set_option linter.unusedSimpArgs false
set_option linter.unusedVariables false
theorem adD (w : World) : cC pg Cs #[] w (fun r w' => r = .bool true ∧ bZ w w' fN) := by
  refine RX ?_
  unfold T1 Fd Fl
  refine kP (cells := #[.int .u8 1]) (by decide) (by decide) (by kernel_rfl) fun w1 o1 x1 s1 => ?_
  have hb1 : Bs w1 (.slice (some ⟨w.heap.size, 0, none⟩) 1 1) [1] := ⟨_, _, _, rfl, rfl, Nat.le_refl _, fun _ => ⟨_, _, rfl, fun i hi => by rw [o1.cell, Nat.zero_add]; rfl⟩⟩
  refine (XE hb1 (by decide)).mono ?_
  rintro r w2 ⟨hwo, x2⟩
  have hw1 : pJ (dZ [1]) = some 1 := by decide +kernel
  rw [hw1] at hwo
  obtain ⟨v2, rfl, o2⟩ := hwo
  have o2 : nG w2 w1.heap.size 1 v2 2 [.int .u8 1, .int .u8 1] := o2
  obtain ⟨a2, c2, rfl⟩ := o2.len
  simp (disch := omega) only [aD, vU, wU, aB]
  refine kP (cells := #[.int .u8 2, .int .u8 1, .int .u8 1]) (by decide) (by decide) (by kernel_rfl) fun w3 o3 x3 s3 => ?_
  have hb3 : Bs w3 (.slice (some ⟨w2.heap.size, 0, none⟩) 3 3) [2, 1, 1] := ⟨_, _, _, rfl, rfl, Nat.le_refl _, fun _ => ⟨_, _, rfl, fun i hi => by rw [o3.cell, Nat.zero_add]; rfl⟩⟩
  have hd2 : Bg (dZ [2, 1, 1]) = 2 := by decide +kernel
  refine (afF hb3 hd2 (by decide)).mono ?_
  rintro r w4 ⟨b4, rfl, hb4, o4, x4⟩
  have hcd : cc (Lf (dZ [2, 1, 1]) 2) = [.int .i64 1, .int .i64 1, .int .i64 2, .int .i64 0, .int .i64 2, .int .i64 1] := by
    have : Lf (dZ [2, 1, 1]) 2 = [(1, 1), (2, 0), (2, 1)] := by decide +kernel
    rw [this]; rfl
  rw [hcd] at o4
  simp (disch := omega) only [vU, wU, aB]
  refine kP (cells := #[.int .u8 2, .int .u8 1, .int .u8 1]) (by decide) (by decide) (by kernel_rfl) fun w5 o5 x5 s5 => ?_
  have hb5 : Bs w5 (.slice (some ⟨w4.heap.size, 0, none⟩) 3 3) [2, 1, 1] := ⟨_, _, _, rfl, rfl, Nat.le_refl _, fun _ => ⟨_, _, rfl, fun i hi => by rw [o5.cell, Nat.zero_add]; rfl⟩⟩
  refine (aeV hb5 hd2 (by decide) (by decide)).mono ?_
  rintro r w6 ⟨v6, rfl, o6, x6⟩
  have hwr : wrB (dZ [2, 1, 1]) = [129, 33] := by decide +kernel
  rw [hwr] at o6
  have hb6 : Bs w6 v6 [129, 33] := o6.sl
  have o6 : nG w6 w5.heap.size 1 v6 2 _ := o6
  obtain ⟨a6, c6, rfl⟩ := o6.len
  simp (disch := omega) only [vU, wU, aB]
  refine (PO (h := 129) (rest := [33]) hb6 rfl (by decide) (by decide) (by decide)).mono ?_
  rintro r w7 ⟨hdo, x7⟩
  unfold CF at hdo
  rw [if_neg (by decide)] at hdo
  have hw7 : pJ (iL (dZ [33]) (129 - 127)) = some 1 := by decide +kernel
  have hh7 : nH (iL (dZ [33]) (129 - 127)) ++ [UInt8.ofNat 1] = [2, 1, 1] := by decide +kernel
  rw [hw7] at hdo
  simp only [hh7] at hdo
  obtain ⟨v7, rfl, o7⟩ := hdo
  have o7 : nG w7 w6.heap.size 1 v7 3 (([2, 1, 1] : List UInt8).map Ic) := o7
  have hb7 : Bs w7 v7 [2, 1, 1] := o7.sl
  obtain ⟨a7, c7, rfl⟩ := o7.len
  simp (disch := omega) only [UU, UY, Ul, aB]
  refine Xm (cells := #[.int .u32 9, .int .u32 0, .int .u32 1]) (by decide) (by decide) (by kernel_rfl) fun w8 o8 x8 s8 => ?_
  have hs8 : Sl w8 (.slice (some ⟨w7.heap.size, 0, none⟩) 3 3) (Vp [9, 0, 1]) := ⟨_, _, _, rfl, rfl, Nat.le_refl _, fun _ => ⟨_, _, rfl, fun i hi => by rw [o8.cell, Nat.zero_add]; rfl⟩⟩
  refine (ajH hs8 (by decide) (by decide)).mono ?_
  rintro r w9 ⟨hof, x9⟩
  rcases hof with ⟨h, _⟩ | ⟨_, last, v9, wl, hla, _, _, _, _, _, rfl, o9⟩
  · exact absurd h (by decide)
  have hlast2 : last = 2 := hla.one (.inr ⟨by decide, by decide, fun j h1 h2 => by simp at h2; omega⟩)
  subst hlast2
  have o9 : nG w9 w8.heap.size 1 v9 3 _ := o9
  obtain ⟨a9, c9, rfl⟩ := o9.len
  have x79 := x8.seq x9
  have x49 := ((x5.seq x6).seq x7).seq x79
  have x29 := (x3.seq x4).seq x49
  have o2e := o2.ext x29 (fun _ _ h => h)
  have o4e := o4.ext x49 (fun h => h)
  have hb7e := hb7.ext x79 (eI _)
  obtain ⟨b2, off2, rfl, hcell2⟩ := slA o2e.sl (by decide)
  have g2 := hcell2 1 (by decide)
  have k0 := o4e.cell (off := 0)
  have k1 := o4e.cell (off := 1)
  have k5 := o4e.cell (off := 5)
  simp only [List.getElem?_cons_zero, List.getElem?_cons_succ] at g2 k0 k1 k5
  have hcv := kK hb7e
  have hse : ((⟨([2, 1, 1] : List UInt8).toArray⟩ : ByteArray).toList == (⟨#[2, 1, 1]⟩ : ByteArray).toList) = true := by
    have : (⟨([2, 1, 1] : List UInt8).toArray⟩ : ByteArray) = ⟨#[2, 1, 1]⟩ := rfl
    rw [this]; exact Yk _
  have n1 : ((0 : Int) == 0) = true := rfl
  have n2 : (((2 : Nat) : Int) == 2) = true := rfl
  have n3 : (((3 : Nat) : Int) == 3) = true := rfl
  have n4 : ((1 : Int) == 1) = true := rfl
  have n5 : (((1 + (129 - 127 + 1) / 2 : Nat) : Int) == ((2 : Nat) : Int)) = true := rfl
  have n6 : ((([2, 1, 1] : List UInt8).length : Int) == 3) = true := rfl
  have hL3 : ([2, 1, 1] : List UInt8).length = 3 := rfl
  have t0 : (0 : Int).toNat = 0 := rfl
  have t1 : (1 : Int).toNat = 1 := rfl
  have t2 : (2 : Int).toNat = 2 := rfl
  simp (disch := omega) only [vU, wU, aB]
  unfold AV EO
  simp (maxSteps := 4000000) (disch := omega) only [aD, gZ, aB, sX, bY, dY, qB, kX, rE, Gi, WB, TR, CJ, lH, uW, gY, fP, bN, DE, dM, kU, O1, TU, mR, cJ, MH, F0, CL, vU, wU, UU, UY, Ul, x40, x41, x42, x43, aP, Result.ok.injEq, Next.value.injEq, true_and, and_true, bD, lF, T5, T8, TG, CI, Int.toNat_natCast, rU, gD, BK, eD, cL, dG, Gl, CN, aK, aJ, if_true, if_false, Bool.false_eq_true, Nat.zero_add, Option.isNone_some, Option.isNone_none, Bool.not_true, Bool.not_false, List.getElem?_cons_succ, List.getElem?_cons_zero, cI, fZ, fI, gA, eJ, fX, eY, fS, gO, gQ, iF, fU, fY, gX, jW, gK, fT, iT, gG, jL, dT, dN, cP, jV, jQ, kD, jJ, NO, KH, Ly, hL3, g2, k0, k1, k5, hcv, Be, hse, n1, n2, n3, n4, n5, n6, t0, t1, t2]
  unfold yQ
  exact ⟨rfl, (x1.seq x2).seq x29⟩
end Go.Proofs.Ytoepfjgekpdddaa
namespace Go.Proofs.Ytoepfjgekpdddaa
open Go Go.En Go.Pu
set_option maxRecDepth 4000
set_option linter.unusedSimpArgs false
set_option linter.unusedVariables false
theorem Vw {v : Value} {l : List UInt8} {w : World} (h : Bs w v l) (hl : l.length ≤ 9223372036854775807) :
    cC pg sP #[v] w (fun r w' => r = .bool true ∧ bZ w w' fN) := by
  refine HF ?_
  unfold Fe qM
  obtain ⟨a, n, c, hv, hn, hc, _⟩ := id h
  rw [List.length_map] at hn
  subst hn
  have hv' := hv
  subst hv'
  refine (adD w).mono ?_
  rintro r w1 ⟨rfl, x1⟩
  by_cases h1 : 300 < l.length
  · have d1 : decide ((300 : Int) < (l.length : Int)) = true := by simp; omega
    simp (disch := omega) only [aD, mR, Bool.not_true, cI, true_and, aB, dM, d1, aK, aJ]
    exact x1
  have d1 : decide ((300 : Int) < (l.length : Int)) = false := by simp; omega
  simp (disch := omega) only [aD, mR, Bool.not_true, cI, true_and, aB, dM, d1, aJ]
  have hb1 := h.ext x1 (eI _)
  refine (ahT hb1 (by omega)).mono ?_
  rintro r w2 ⟨hr, x2⟩
  have hb2 := hb1.ext x2 (eI _)
  have hcv := kK hb2
  have hl1 : nJ (⟨l.toArray⟩ : ByteArray) = l := acX l
  have hz1 : (⟨l.toArray⟩ : ByteArray).size = l.length := by rw [← iV, hl1]
  obtain ⟨va, m, nn, e, rfl, hva, href⟩ : ∃ (va : Value) (m : List UInt8) (nn : Nat) (e : Int), r = .tuple #[va, .int .i64 nn, .int .i64 e] ∧ Bs w2 va m ∧ (∀ r', HC (Wh l) r' → r' = .tuple #[.string ⟨m.toArray⟩, .int .i64 nn, .int .i64 e]) := by
    cases ho : Wh l with
    | error e => rw [ho] at hr; exact ⟨_, [], 0, e, hr, Sl.nil _, fun r' h => h⟩
    | ok x =>
      obtain ⟨m, nn⟩ := x
      rw [ho] at hr
      obtain ⟨v', rfl, o⟩ := hr
      exact ⟨v', m, nn, 0, rfl, o.sl, fun r' h => h⟩
  simp (disch := omega) only [UU, UY, Ul, aB, hcv]
  refine (ZD (x := ⟨l.toArray⟩) (by omega)).mono ?_
  rintro r w3 ⟨hr3, x3⟩
  rw [hl1] at hr3
  obtain rfl := href r hr3
  have hcv3 := kK (hva.ext x3 (eI _))
  have hse : ((⟨m.toArray⟩ : ByteArray).toList == (⟨m.toArray⟩ : ByteArray).toList) = true := Yk _
  have n1 : ((nn : Int) == (nn : Int)) = true := by simp
  have n2 : (e == e) = true := by simp
  simp (disch := omega) only [UU, UY, Ul, aB, hcv3, Be, hse, rU, cJ, if_true, cL, gY, n1, n2, true_and]
  exact (x1.seq x2).seq x3
end Go.Proofs.Ytoepfjgekpdddaa
namespace Go.En
open Go Go.ChangeShapes Go.WideShapes Go.ChangeAt Go.RowKit
theorem Wz {H : Type} {enc : TypeId × Value → H} {P : Program} (hl : laidOutB P = true) {W W' : World} (hb : Below W.heap.size W W') : ∀ (ts : List TypeId) (vs : List Value) (ds : List (DataW H)) (ps : List MemPlace),
    (ts.all fun t => P.readableRec t && decide (t < P.types.size)) = true → DataW.TrodAll enc P W 0 (fun _ => true) true ts vs ds ps → (∀ x ∈ ps, x.block < W.heap.size) →
    DataW.TrodAll enc P W' 0 (fun b => decide (b < W.heap.size)) true ts vs ds ps := by
  intro ts
  induction ts with
  | nil =>
    intro vs ds ps _ h _
    cases vs <;> cases ds <;> simp [DataW.TrodAll] at h ⊢
    exact h
  | cons t ts ih =>
    intro vs ds ps hr h hlt
    cases vs with
    | nil => simp [DataW.TrodAll] at h
    | cons v vs =>
      cases ds with
      | nil => simp [DataW.TrodAll] at h
      | cons d ds =>
        obtain ⟨p, q, h1, h2, rfl⟩ := h
        rw [List.all_cons, Bool.and_eq_true, Bool.and_eq_true, decide_eq_true_eq] at hr
        exact ⟨p, q, Below.trod hl hr.1.1 hr.1.2 h1 hb (fun x hx => hlt x (List.mem_append_left _ hx)), ih _ _ _ hr.2 h2 (fun x hx => hlt x (List.mem_append_right _ hx)), rfl⟩
theorem aeC {H : Type} {enc : TypeId × Value → H} {P : Program} {f : Func} {s : ChangeSpec} {apart fresh handsOn : Bool} {tb : TypeId} {W W' : World} {args : Array Value} {ds gs : List (DataW H)} {before : List MemPlace}
    (hl : laidOutB P = true) (hr : (f.params.toList.all fun t => P.readableRec t && decide (t < P.types.size)) = true) (hres : f.resultTypes = #[tb]) (hbool : P.underlying tb = some .bool)
    (hW : DataW.Whole enc P f.params.toList s.vars apart W args.toList ds gs before) (hvars : s.vars = []) (h1 : (s.fn H (ds ++ gs)).results = [.lit (.bool true)]) (h2 : (s.fn H (ds ++ gs)).args = ds) (h3 : (s.fn H (ds ++ gs)).vars = [])
    (hx : bZ W W' fN) : s.post enc P f apart fresh handsOn false W args (.bool true) W' := by
  have hb := hx.below
  have hlt : ∀ x ∈ before, x.block < W.heap.size := fun x hx => hW.lt x hx
  have hW' := hW
  obtain ⟨p, q, hA, hV, rfl, _, _⟩ := hW
  rw [hvars] at hV
  obtain ⟨_, rfl⟩ := trodVars_none hV
  rw [List.append_nil] at hW' hlt
  refine ⟨ds, gs, p, [], p, [], hW', ?_, ?_, ?_, hb.frame _, fun h => by cases h⟩
  · rw [h1, hres]
    exact trodAll_cons_mk (shut_bool hbool _) trodAll_mk0
  · rw [h2]; exact Wz hl hb _ _ _ _ hr hA hlt
  · rw [h3, hvars]; rfl
theorem agE {H : Type} {enc : TypeId × Value → H} {P : Program} {W : World} {base b0 : Nat} {r : Reach} {sp : Nat → Bool} {hd : Bool} {t e : TypeId} {k : IntKind} {v : Value} {d : DataW H} {ps : List MemPlace} (ht : P.underlying t = some (.slice e)) (he : P.underlying e = some (.int k)) (hc : P.cellsOf e = 1)
    (hval : Value.okWide P W r b0 t v) (h : DataW.Trod enc P W base sp hd t v d ps) :
    ∃ zs : List Int, Sl W v (zs.map (Value.int k)) ∧ zs.length ≤ 9223372036854775807 ∧ ∀ z ∈ zs, (Lit.int k z).wf = true := by
  obtain ⟨a0, len, cap, rfl⟩ := okWide_slice ht hval
  obtain ⟨fuel, hf⟩ := h
  rcases open_ints ht he hc hf with ⟨hcs, -⟩ | ⟨a, len', cap', zs, hcs, _, hl, hm, hz, -, hcell, hwz⟩
  · have : Value.slice a0 len cap = .slice none 0 0 := by simpa [Value.cells] using hcs
    cases this
    exact ⟨[], ⟨none, 0, 0, rfl, rfl, Nat.le_refl _, fun h => absurd h (by simp)⟩, by simp, by simp⟩
  · have : Value.slice a0 len cap = .slice (some a) len' cap' := by simpa [Value.cells] using hcs
    cases this
    unfold maxLen at hm
    have hle : len ≤ zs.length := by rw [hz]; split <;> omega
    refine ⟨zs.take len, ⟨some a, len, cap, rfl, by rw [List.length_map, List.length_take]; omega, hl, fun h0 => ?_⟩, by rw [List.length_take]; omega, fun z hz => hwz z (List.mem_of_mem_take hz)⟩
    obtain ⟨b, off, spot⟩ := a
    have hs : spot = none := by
      have h0 := hcell 0 (by omega)
      unfold World.cell? at h0
      split at h0
      · cases spot
        · rfl
        · simp [Addr.add] at h0
      · cases h0
    subst hs
    refine ⟨b, off, rfl, fun i hi => ?_⟩
    rw [← EL, hcell i (by omega), List.getElem?_map, List.getElem?_take_of_lt hi, List.getD_eq_getElem?_getD, List.getElem?_eq_getElem (by omega)]
    rfl
theorem adV (zs : List Int) (h : ∀ z ∈ zs, (Lit.int .u8 z).wf = true) : ∃ l : List UInt8, zs.map (Value.int .u8) = l.map Ic ∧ l.length = zs.length := by
  refine ⟨zs.map fun z => UInt8.ofNat z.toNat, ?_, by simp⟩
  rw [List.map_map]
  refine List.map_congr_left fun z hz => ?_
  have := h z hz
  have hx : 0 ≤ z ∧ z ≤ 255 := by simpa [Lit.wf, IntKind.min, IntKind.max, IntKind.signed, IntKind.bits] using this
  show _ = Ic (UInt8.ofNat z.toNat)
  unfold Ic
  rw [UInt8.toNat_ofNat']
  congr 1
  omega
end Go.En
