/- Parts of the proof of LiteralsReads: merged and given short names by a program of ours. -/
import Derived.Test.YtgpimhlgaokobaaGreatZaD
set_option linter.unusedVariables false
set_option linter.unusedSimpArgs false
open Array renaming length_toList → aL5
open Bool renaming false_eq_true → aKQ, not_true → aLb
open Int renaming tdiv_eq_ediv_of_nonneg → aK6, toNat_natCast → aKO, tmod_eq_emod_of_nonneg → aLg, fdiv_eq_ediv_of_nonneg → aMn
open List renaming getD_eq_getElem?_getD → aK0, length_take → aK2, getElem?_eq_none → aK3, length_drop → aK7, getElem?_cons_zero → aKM, getElem?_cons_succ → aKN, set_cons_succ → aKR, set_cons_zero → aKS, take_succ_cons → aKT, drop_zero → aKU, length_append → aKV, getElem?_eq_getElem → aKW, take_zero → aKX, length_map → aKZ, map_cons → aL0, mem_append_left → aL2, drop_succ_cons → aL6, nil_append → aL8, getElem_mem → aLA, getElem?_take_of_lt → aLB, length_singleton → aLE, mem_cons → aLF, append_nil → aLG, length_replicate → aLJ, getElem?_eq_some_iff → aLK, take_add_one → aLL, getElem?_range → aLQ, mem_of_getElem? → aLU, cons_append → aLV, getElem?_toArray → aLX, ext_getElem? → aLY, mem_map → aLZ, length_cons → aLa, mem_cons_of_mem → aLc, getElem?_append_left → aLd, map_append → aLe, append_assoc → aLj, getElem?_map → aLl, take_of_length_le → aLn, length_eq_zero_iff → aLq, map_congr_left → aLs, mem_range → aLu, mem_append → aLx, replicate_succ → aLy, range_succ → aM3, drop_left' → aM5, map_nil → aM7, map_replicate → aM9, mem_singleton → aMC, map_take → aME, getLast?_eq_getElem? → aMH, replicate_succ' → aMI, take_left' → aMQ, getLast?_concat → aMX, ext_getElem → aMa, mem_of_mem_take → aMd, getElem?_replicate → aMe, getElem_of_mem → aMi, getElem_cons_zero → aMk, set_append_right → aMt, map_drop → aMx, take_append_of_le_length → aMy, take_length → aMz, take_take → aNa, map_map → aNh
open Nat renaming le_refl → aK1, lt_or_ge → aK9, zero_add → aKP, pow_le_pow_right → aKY, eq_zero_or_pos → aL9, add_mul → aLD, min_eq_left → aLH, pow_add → aLM, add_sub_cancel → aLO, div_le_self → aLP, le_trans → aLT, add_zero → aLW, two_pow_pos → aLh, mul_le_mul_right → aLk, mul_comm → aLm, pow_succ → aLr, mod_eq_of_lt → aLt, one_mul → aM0, mul_add → aM1, zero_le → aMJ, mod_lt → aMP, log2_two_pow → aMW, add_assoc → aMm, mod_two_eq_zero_or_one → aMo, lt_of_lt_of_le → aMp, sub_self → aMw, lt_trichotomy → aNb, div_eq_of_lt → aNe
open Option renaming map_some → aLC, getD_some → aMV
open Option.some renaming inj → aLf
open Prod.mk renaming inj → aMA
open UInt8 renaming toNat_lt → aLv, toNat_ofNat_of_lt' → aMb
namespace Go.Proofs.YtgpimhlgaokobaaGreat
open Go Go.En Go.Pu
set_option maxRecDepth 4000
theorem avU {log lo hi lack k cc : Nat} {a : Option Addr} {b : aNk} {L : List Bool} {w : aNj} (h : RB w lo hi b L lack) (hhi : hi <= w.heap.size) (hn : log <= 20) (hL : L.length <= 10000000) (hk : lack <= 100000000) :
 aS pg Cx #[.agg #[.int .i64 log, .slice a k cc], b] w (fun r w' => ∃ b', r = .tuple #[b', .int .i64 (qF L log : Nat)] /\ RB w' lo hi b' (L.take (L.length - min log L.length)) (lack + (log - min log L.length)) /\ aW w w' eU) := by
 refine anR ?_
 unfold arX M8
 have hb := h
 obtain ⟨v, rfl, hs, hat⟩ := h
 obtain ⟨a', c', rfl, hc⟩ := Gz hs
 refine nK fun w1 o1 x1 s1 => ?_
 refine nK fun w2 o2 x2 s2 => ?_
 refine jS fun w3 o3 x3 s3 => ?_
 simp only [Value.cells] at o1 o2
 have o13 := (o1.ext x2 (fun h => h)).ext x3 (fun h => h)
 have o23 := o2.ext x3 (fun h => h)
 have x03 : aW w w3 eU := (x1.seq x2).seq x3
 have c0 := o13.cell (off := 0)
 have l1 := fL (off := 0) o23 (by simp)
 simp only [aKM, aKN, aKU, aKT, aKX] at c0 l1
 simp (disch := omega) only [aD, l1, dP, aA, bO, c0, aH]
 refine (apU (hb.ext x03 (fun _ _ _ h => h)) (by omega) hL (by omega)).mono ?_
 rintro r w4 ⟨b', rfl, hb4, x4⟩
 have hlt := sO L log
 have hp : 2 ^ log <= 2 ^ 20 := aKY (by omega) hn
 generalize qF L log = x at *
 have hb4' := hb4
 obtain ⟨v4, rfl, hs4, hat4⟩ := hb4
 obtain ⟨a4, c4, rfl, hc4⟩ := Gz hs4
 simp (disch := omega) only [pP, pR, aA, bX, aP]
 refine cK (o23.ext x4 (fun h => h)) rfl (by simp [one]) (by simp) fun w5 o5 x5 s5 => ?_
 simp only [bK, aKS, aKR] at o5
 have l5 := fL (off := 0) o5 (by simp)
 simp only [aKU, aKT, aKX] at l5
 simp (disch := omega) only [l5, aA]
 refine cK ((o3.ext x4 (fun h => h)).ext x5 (by omega)) rfl (by simp [one]) (by simp) fun w6 o6 x6 s6 => ?_
 refine lT o6 (by simp [bK]) ?_
 simp only [bK, aKS, aKR, aKU, aKT, aKX]
 have z3 := x3.size
 have x46 : aW w3 w6 (fun y => y = w1.heap.size ∨ y = w2.heap.size) := ((x4.mono fun _ _ h => h.elim).seq (x5.mono fun _ _ h => .inl h)).seq (x6.mono fun _ _ h => .inr h)
 have x06 : aW w w6 eU := x03.trans x46 fun b hb h => by omega
 refine ⟨_, rfl, ?_, x06⟩
 exact ⟨_, rfl, hs4.ext ((x5.mono fun _ _ h => .inl h : aW w4 w5 (fun y => y = w1.heap.size ∨ y = w2.heap.size)).seq (x6.mono fun _ _ h => .inr h)) (hat4 _ fun b hb hh => by omega), hat4⟩
theorem aDk {log b lo hi lack : Nat} {v bv : aNk} {L : List T3} {s : Int} {B : List Bool} {w : aNj} (ht : RT w b log L v) (hL : Low L) (hlen : L.length <= 1000000) (h : RB w lo hi bv B lack) (hhi : hi <= w.heap.size) (hB : B.length <= 10000000) (hk : lack <= 100000000) :
 aS pg L6 #[v, .int .i64 s, bv] w (fun r w' => ∃ b', r = .tuple #[b', .int .i64 (uI L s (qF B (kZ L s)))] /\ RB w' lo hi b' (B.take (B.length - min (kZ L s) B.length)) (lack + (kZ L s - min (kZ L s) B.length)) /\ aW w w' eU) := by
 refine atG ?_
 have htt := ht
 obtain ⟨cc, rest, rfl, ob⟩ := ht
 have hb := h
 obtain ⟨v, rfl, hs, hat⟩ := h
 obtain ⟨a', c', rfl, hc⟩ := Gz hs
 unfold ayI QP
 refine nK fun w1 o1 x1 s1 => ?_
 refine nK fun w2 o2 x2 s2 => ?_
 refine jS fun w3 o3 x3 s3 => ?_
 simp only [Value.cells] at o1 o2
 have o13 := (o1.ext x2 (fun h => h)).ext x3 (fun h => h)
 have o23 := o2.ext x3 (fun h => h)
 have x03 : aW w w3 eU := (x1.seq x2).seq x3
 have c1 := o13.cell (off := 1)
 have l1 := fL (off := 0) o23 (by simp)
 simp only [aKM, aKN, aKU, aKT, aKX] at c1 l1
 have hlb := ob.lt
 have bad : kZ L s = 0 -> (∀ x, uI L s x = 0) -> ∀ w6, aW w3 w6 (fun y => y = w2.heap.size) -> ∃ b', Value.tuple #[.agg #[.slice a' B.length c', .int .i64 lack], .int .i64 0] = Value.tuple #[b', .int .i64 (uI L s (qF B (kZ L s)))] /\ RB w6 lo hi b' (B.take (B.length - min (kZ L s) B.length)) (lack + (kZ L s - min (kZ L s) B.length)) /\ aW w w6 eU := by
  intro e1 e2 w6 x6
  have x06 : aW w w6 eU := x03.new x6 (by omega)
  refine ⟨_, by rw [e2], ⟨_, ?_, ?_, hat⟩, x06⟩
  .rw [e1]; simp
  .have : B.take (B.length - min (kZ L s) B.length) = B := aLn (by omega)
   rw [this]
   exact hs.ext x06 (bZ _)
 by_cases hs0 : s < 0
 .have d1 : decide (s < 0) = true := by simpa using hs0
  have e1 : kZ L s = 0 := by unfold kZ; rw [if_neg (by omega)]
  have e2 : ∀ x, uI L s x = 0 := fun x => by unfold uI; rw [if_neg (by omega)]
  simp (disch := omega) only [aD, aU, d1, bL, aKP, aA, jF, and_true, Result.ok.injEq, Next.value.injEq, true_and, bF, jI, bH, if_true, aG, cY, l1]
  refine cK o3 rfl (by simp [one]) (by simp) fun w6 o6 x6 s6 => ?_
  refine lT o6 (by simp [bK]) ?_
  simp only [bK, aKS, aKR, aKU, aKT, aKX]
  exact bad e1 e2 w6 x6
 have d1 : decide (s < 0) = false := by simpa using hs0
 obtain ⟨i, rfl⟩ : ∃ i : Nat, s = i := ⟨s.toNat, by omega⟩
 by_cases hge : L.length <= i
 .have d2 : decide ((L.length : Int) <= (i : Int)) = true := by simp; omega
  have hnone : L[i]? = none := aK3 hge
  have e1 : kZ L i = 0 := by unfold kZ; simp [hnone]
  have e2 : ∀ x, uI L i x = 0 := fun x => by unfold uI; simp [hnone]
  simp (disch := omega) only [aD, aU, d1, bL, aKP, aA, jF, and_true, Result.ok.injEq, Next.value.injEq, true_and, bF, dG, bH, aKQ, if_false, bM, c1, aH, dN, nE, d2, l1, aG]
  refine cK o3 rfl (by simp [one]) (by simp) fun w6 o6 x6 s6 => ?_
  refine lT o6 (by simp [bK]) ?_
  simp only [bK, aKS, aKR, aKU, aKT, aKX]
  exact bad e1 e2 w6 x6
 clear bad
 have d2 : decide ((L.length : Int) <= (i : Int)) = false := by simp; omega
 have hlt : i < L.length := by omega
 obtain ⟨n, hn, hn2, hb0', hb1⟩ := hL _ (aLA hlt)
 have hsome : L[i]? = some L[i] := aKW hlt
 have e1 : kZ L i = n := by unfold kZ; simp [hsome, hn]
 have e2 : ∀ x : Nat, uI L i x = L[i].2.2 + x := fun x => by unfold uI; simp [hsome]
 obtain ⟨q1, q2, q3⟩ := aH8 (k := .i64) hsome
 have hq : i * 3 + 2 < (fe .i64 L).length := by rw [pS]; omega
 rw [<- aLd (l₂ := rest) (by omega)] at q1 q2 q3
 generalize L[i] = e at *
 obtain ⟨e0, en, eb⟩ := e
 simp only at hn hb0' hb1 q1 q2 q3 e2
 subst hn
 rw [e1, e2]
 have ob3 := ob.ext x03 (fun h => h)
 have od := jW o13
 have o2d := jW o23
 have obd := jW ob3
 have c1d := od.cell (off := 1)
 have l1d := fL (off := 0) o2d (by simp)
 have r2d := obd.cell (off := i * 3 + 1)
 have r2 := ob3.cell (off := i * 3 + 1)
 rw [q2] at r2 r2d
 simp only [aKM, aKN, aKU, aKT, aKX] at c1d l1d
 simp (disch := omega) only [aD, aU, d1, bL, aKP, aA, jF, and_true, Result.ok.injEq, Next.value.injEq, true_and, bF, dG, bH, aKQ, if_false, bM, c1, aH, dN, nE, d2, l1, l1d, c1d, bT, aKO, cM, bO, r2d, aE]
 refine (apU ((hb.ext x03 (fun _ _ _ h => h)).ext (aW.dr _ eU) (fun _ _ _ h => h)) (by omega) hB (by omega)).mono ?_
 rintro r w4 ⟨b', rfl, hb4, x4⟩
 have hlt := sO B n
 have hp : 2 ^ n <= 2 ^ 20 := aKY (by omega) hn2
 generalize qF B n = x at *
 obtain ⟨v4, rfl, hs4, hat4⟩ := hb4
 obtain ⟨a4, c4, rfl, hc4⟩ := Gz hs4
 simp (disch := omega) only [pP, pR, Result.ok.injEq, Next.value.injEq, and_true, aA, bX, aP, true_and]
 refine cK (o2d.ext x4 (fun h => h)) rfl (by simp [one]) (by simp) fun w5 o5 x5 s5 => ?_
 simp only [bK, aKS, aKR] at o5
 have z3 := x3.size
 have z4 : w3.heap.size <= w4.heap.size := x4.size
 have x35 : aW w3 w5 (fun y => y = w1.heap.size) := (((aW.dr w3 eU).seq x4).mono fun _ _ h => h.elim).seq x5
 have o15 := o13.ext x35 (by omega)
 have ob5 := ob3.ext x35 (by omega)
 have o5d := jW o5
 have l5 := fL (off := 0) o5d (by simp)
 have c15 := (jW o15).cell (off := 1)
 have r3 := (jW ob5).cell (off := i * 3 + 2)
 rw [q3] at r3
 simp only [aKM, aKN, aKU, aKT, aKX] at l5 c15
 simp (disch := omega) only [l5, c15, aH, aA, bT, aKO, aKP, Result.ok.injEq, Next.value.injEq, and_true, dB, true_and, bO, r3, bN, aP]
 refine cK (jW (o3.ext x35 (by omega))) rfl (by simp [one]) (by simp) fun w6 o6 x6 s6 => ?_
 simp only [bK, aKS, aKR] at o6
 have x56 : aW w5 w6 (fun y => y = w2.heap.size) := (aW.dr _ _).seq x6
 have c16 := (o15.ext x56 (by omega)).cell (off := 1)
 have r36 := (ob5.ext x56 (by omega)).cell (off := i * 3 + 2)
 rw [q3] at r36
 simp only [aKM, aKN] at c16
 simp (disch := omega) only [r36, aH, c16, and_true, true_and]
 refine lT o6 (by simp) ?_
 simp only [aKU, aKT, aKX]
 have x36 : aW w3 w6 (fun y => y = w1.heap.size ∨ y = w2.heap.size) := (x35.mono fun _ _ h => .inl h).seq (x56.mono fun _ _ h => .inr h)
 have x06 : aW w w6 eU := x03.trans x36 fun b hb h => by omega
 refine ⟨_, rfl, ⟨_, rfl, hs4.ext ((x5.mono fun _ _ h => .inl h : aW w4 w5 (fun y => y = w1.heap.size ∨ y = w2.heap.size)).seq (x56.mono fun _ _ h => .inr h)) (hat4 _ fun b hb hh => by omega), hat4⟩, x06⟩
end Go.Proofs.YtgpimhlgaokobaaGreat
namespace Go.Pu
open Go Go.En
def pX (L : List Bool) (st n : Nat) : Nat := vX ((L.drop st).take n)
theorem FW (L : List Bool) (st n : Nat) : pX L st n < 2 ^ n := by
 have h := afK ((L.drop st).take n)
 have : ((L.drop st).take n).length <= n := by rw [aK2]; omega
 exact aMp h (aKY (by omega) this)
def afP (L : List Bool) (st left : Nat) : Option (Nat × Nat) :=
 let n := bl (left + 1)
 if L.length < st + (n - 1) then none
 else
  let low := pX L st (n - 1)
  let free := 2 ^ n - 2 - left
  if low < free then some (low, st + (n - 1))
  else if L.length < st + (n - 1) + 1 then none
  else if pX L (st + (n - 1)) 1 = 0 then some (low, st + (n - 1) + 1)
  else some (low + 2 ^ (n - 1) - free, st + (n - 1) + 1)
def noR (L : List Bool) : Nat -> Nat -> Option (Nat × Nat)
 | 0, _ => none
 | f + 1, st => if L.length < st + 2 then none else if pX L st 2 < 3 then some (pX L st 2, st + 2) else match noR L f (st + 2) with
   | none => none
   | some (k, st') => some (3 + k, st')
def rdC (L : List Bool) (sym : Nat) : Nat -> Nat -> Nat -> List Int -> Except Int (List Int × Nat)
 | 0, _, _, _ => .error 10
 | f + 1, st, left, ps => if left = 0 then .ok (ps, st) else match afP L st left with
   | none => .error 10
   | some (v, st1) =>
     if v = 1 then match noR L (L.length + 1) st1 with
       | none => .error 10
       | some (k, st2) => if sym < ps.length + 1 + k then .error 11 else rdC L sym f st2 left (ps ++ 0 :: List.replicate k 0)
     else if sym < ps.length + 1 then .error 11 else rdC L sym f st1 (left - (iR ((v : Int) - 1)).toNat) (ps ++ [(v : Int) - 1])
theorem auV {L : List Bool} {st left v st1 : Nat} (h : afP L st left = some (v, st1)) (h0 : 0 < left) : st < st1 /\ st1 <= L.length /\ v <= left + 1 := by
 have hb1 := Nh (k := left + 1) (by omega)
 have hb2 := Y9 (k := left + 1) (by omega)
 have hb3 := Wk (left + 1)
 have hn : 2 <= bl (left + 1) := by
  rcases aK9 (bl (left + 1)) 2 with h | h
  .have : bl (left + 1) = 1 := by omega
   rw [this] at hb3; omega
  .exact h
 unfold afP at h
 simp only at h
 generalize bl (left + 1) = n at *
 obtain ⟨m, rfl⟩ : ∃ m, n = m + 1 := ⟨n - 1, by omega⟩
 rw [aLO] at *
 rw [aLr] at *
 have hl := FW L st m
 generalize 2 ^ m = q at *
 generalize pX L st m = low at *
 split at h
 .cases h
 .split at h
  .obtain ⟨rfl, rfl⟩ := aMA (aLf h); omega
  .split at h
   .cases h
   .split at h
    .obtain ⟨rfl, rfl⟩ := aMA (aLf h); omega
    .obtain ⟨rfl, rfl⟩ := aMA (aLf h); omega
theorem aBE {L : List Bool} : ∀ {f st k st1 : Nat}, noR L f st = some (k, st1) -> st < st1 /\ st1 <= L.length /\ 2 * k <= 3 * (st1 - st)
 | 0, st, k, st1, h => by cases h
 | f + 1, st, k, st1, h => by
   rw [noR] at h
   split at h
   .cases h
   .have hl := FW L st 2
    split at h
    .obtain ⟨rfl, rfl⟩ := aMA (aLf h); omega
    .cases hn : noR L f (st + 2) with
     | none => rw [hn] at h; cases h
     | some x =>
       obtain ⟨k', st'⟩ := x
       rw [hn] at h
       obtain ⟨rfl, rfl⟩ := aMA (aLf h)
       have := aBE hn
       omega
def Cv (L : List Bool) (most : Int) (sym : Nat) : Except Int (Nat × List Int × Nat) :=
 if L.length < 4 then .error 10
 else
  let log := pX L 0 4 + 5
  if most < log ∨ 15 < log then .error 12
  else match rdC L sym (L.length + 1) 4 (2 ^ log) [] with
   | .error e => .error e
   | .ok (ps, st) => .ok (log, ps, (st + 7) / 8)
theorem ayP : ∀ k : Nat, Fi (List.replicate k 0) = 0
 | 0 => rfl
 | k + 1 => by rw [aLy, HI, ayP k] <;> rfl
theorem aqF {L : List Bool} {sym : Nat} {out : List Int} {stE : Nat} {tot : Int} : ∀ {f st left : Nat} {ps : List Int}, rdC L sym f st left ps = .ok (out, stE) -> (∀ p ∈ ps, -1 <= p) -> Fi ps + left = tot →
 (left = 0 -> ps.length <= sym /\ ps.getLast? ≠ some 0 /\ 1 <= ps.length) -> (∀ p ∈ out, -1 <= p) /\ Fi out = tot /\ out.length <= sym /\ out.getLast? ≠ some 0 /\ 1 <= out.length
 | 0, st, left, ps, h, _, _, _ => by cases h
 | f + 1, st, left, ps, h, hlo, hs, hz => by
   rw [rdC] at h
   split at h
   .rename_i h0
    cases h
    obtain ⟨z1, z2, z3⟩ := hz h0
    exact ⟨hlo, by omega, z1, z2, z3⟩
   .rename_i h0
    cases hv : afP L st left with
    | none => rw [hv] at h; cases h
    | some x =>
      obtain ⟨v, st1⟩ := x
      obtain ⟨v1, v2, v3⟩ := auV hv (by omega)
      rw [hv] at h
      simp only at h
      split at h
      .rename_i hv1
       cases hn : noR L (L.length + 1) st1 with
       | none => rw [hn] at h; cases h
       | some y =>
         obtain ⟨k, st2⟩ := y
         rw [hn] at h
         simp only at h
         split at h
         .cases h
         .refine aqF h ?_ ?_ (fun h => absurd h h0)
          .intro p hp
           rcases aLx.1 hp with hp | hp
           .exact hlo p hp
           .rcases aLF.1 hp with rfl | hp
            .omega
            .rw [List.eq_of_mem_replicate hp]; omega
          .rw [VW, HI]
           have e := ayP k
           rw [e]
           have : iR 0 = 0 := rfl
           omega
      .rename_i hv1
       split at h
       .cases h
       .have hp1 : -1 <= (v : Int) - 1 := by omega
        have hpn := sL hp1
        have hpl : iR ((v : Int) - 1) <= left := by unfold iR; split <;> omega
        refine aqF h ?_ ?_ ?_
        .intro p hp
         rcases aLx.1 hp with hp | hp
         .exact hlo p hp
         .rw [aMC.1 hp]; exact hp1
        .rw [VW, HI]
         have e : Fi [] = 0 := rfl
         rw [e]; omega
        .intro _
         rw [aKV, aLE, aMX]
         refine ⟨by omega, ?_, by omega⟩
         intro e
         have := aLf e
         omega
end Go.Pu
namespace Go.En
open Go
section
variable {P : Program} {w : aNj} {t e : TypeId}
theorem aCP {S : Nat -> Prop} {sz n m : Nat} {i : TypeInfo} {z : aNk} {ty t2 : TypeId} {k : IntKind} (hu : P.underlying t = some (.slice e)) (hu2 : P.underlying t2 = some (.int k)) (hi : P.info? e = some i) (hsz : i.size = sz) (hz : i.zero = some z) (hzs : z.cells.size = sz)
 {v : aNk} {l : List aNk} (h : OSS w S sz v n l) (hsz0 : 0 < sz) (hone : ∀ y ∈ z.cells.toList, one y = true) (hb : ∀ b, w.heap.size <= b -> S b)
 (hn : n + m <= 9223372036854775807) (hbytes : (n + m) * i.bytes <= 140737488355328) (hmb : m * i.bytes <= 140737488355328)
 {K : aNk -> aNj -> Prop} (hk : ∀ v' w', OSS w' S sz v' (n + m) (l ++ (Builtin.zeroCells z.cells m).toList) -> aW w w' S -> K v' w') : aD P (lO .append #[t, t2] ty [v, .int k m]) w K := by
 generalize hnews : (Builtin.zeroCells z.cells m).toList = news at *
 have hnl : news.length = m * sz := by rw [<- hnews, aL5, uF, hzs]
 have hone' : ∀ y ∈ news, one y = true := by
  intro y hy
  rw [<- hnews] at hy
  simp only [Builtin.zeroCells, Array.toList_map, aLZ] at hy
  obtain ⟨j, _, rfl⟩ := hy
  refine hone _ ?_
  have : j % z.cells.size < z.cells.size := aMP _ (by omega)
  rw [getElem!_pos z.cells _ this]
  exact Array.getElem_mem_toList this
 have hmw : IntKind.i64.wrap ((m : Nat) : Int) = (m : Int) := aP (by omega) (by omega)
 have hm0 : ¬ ((m : Int) < 0) := by omega
 have hmx : ¬ ((m : Int) * (i.bytes : Nat) > 2 ^ 48) := by
  have : (m : Int) * (i.bytes : Nat) = ((m * i.bytes : Nat) : Int) := by simp
  rw [this]; omega
 have has : ∀ w, (asInt (.int k m)).run P w = .ok (m : Int) w := fun w => rfl
 have hz' : ∀ w, (zeroValue e).run P w = .ok z w := fun w => by simp [zeroValue, typeInfo, hi, hz]
 have hnw : ∀ w, (if m * sz = 0 then pure #[] else do pure (Builtin.zeroCells (<- zeroValue e).cells m) : Sem (Array aNk)).run P w = .ok news.toArray w := fun w => by
  by_cases h0 : m * sz = 0
  .rw [if_pos h0, Sem.run_pure]
   have : news = [] := aLq.1 (by omega)
   rw [this]
  .rw [if_neg h0, Sem.run_bind, hz', Result.andThen_ok, Sem.run_pure, <- hnews, Array.toArray_toList]
 have hmax : IntKind.i64.max = 9223372036854775807 := by decide
 have hnot : ¬ (((n + m : Nat) : Int) > IntKind.i64.max) := by rw [hmax]; omega
 have hlen := h.1
 rcases h.2 with ⟨rfl, rfl⟩ | ⟨b, c, rest, rfl, h2, h3, h4, h5⟩
 .have hl0 : l = [] := aLq.1 (by omega)
  subst hl0
  by_cases hm : m = 0
  .subst hm
   have hn0 : news = [] := aLq.1 (by omega)
   subst hn0
   have : (lO .append #[t, t2] ty [.slice none 0 0, .int k (0 : Nat)]).run P w = .ok (.value (.slice none 0 0)) w := by
    unfold lO builtin
    simp only [Builtin.append_, aLX, aKM, aKN]
    simp only [underlying, typeInfo, Sem.run_bind, run_program, Result.andThen_ok, hu, hu2, hi, Sem.run_pure, kX hi, hsz, has, hmw, hm0, hmx, if_true, if_false, aKO, aLb, aKQ, aK1, aLW, hnw]
   unfold aD
   rw [this]
   exact hk _ _ ⟨by simp, .inl ⟨rfl, by omega⟩⟩ (aW.refl _ _)
  .have hfit := growslice_fits (need := 0 + m) (old := 0) (bytes := i.bytes) (by omega) (by omega)
   have hfit' : ¬ (Builtin.nextslicecap (0 + m) 0 * i.bytes > 2 ^ 48) := by omega
   have hle : ¬ (0 + m <= 0) := by omega
   have hq : (Question.appendCap (0 + m) 0 e).forced = false := rfl
   obtain ⟨r, hr⟩ : ∃ r, (Question.appendCap (0 + m) 0 e).cut (w.tape w.drawn (.appendCap (0 + m) 0 e)) = m + r :=
    ⟨(w.tape w.drawn (.appendCap (0 + m) 0 e)) % (2 ^ 63 - (0 + m)), by simp only [Question.cut]; omega⟩
   have : (lO .append #[t, t2] ty [.slice none 0 0, .int k m]).run P w = .ok (.value (.slice (some ⟨w.heap.size, 0, none⟩) (0 + m) (m + r))) ((dr w).alloc (.cells (news ++ (Builtin.zeroCells z.cells (m + r - (0 + m))).toList).toArray e)) := by
    unfold lO builtin
    simp only [Builtin.append_, aLX, aKM, aKN]
    simp only [underlying, typeInfo, Sem.run_bind, run_program, Result.andThen_ok, hu, hu2, hi, Sem.run_pure, kX hi, hsz, has, hmw, hm0, hmx, if_true, if_false, aKO, aLb, aKQ, hle, hnot, false_and, hfit', run_choose, hq, hr, run_askRoom]
    change ((Sem.run P _ (dr w)).andThen _).andThen _ = _
    simp only [Sem.run_bind, hnw, run_firstCells_none, Result.andThen_ok, hz', Sem.run_pure, newRow, run_newObj]
    have e1 : (#[] ++ news.toArray ++ Builtin.zeroCells z.cells (m + r - (0 + m)) : Array aNk) = (news ++ (Builtin.zeroCells z.cells (m + r - (0 + m))).toList).toArray := by
     apply Array.ext'; simp
    rw [e1]
    rfl
   unfold aD
   rw [this]
   refine hk _ _ ⟨by simp only [aL8]; rw [hnl, aKP], .inr ⟨w.heap.size, m + r, (Builtin.zeroCells z.cells (m + r - (0 + m))).toList, by rw [aKP], hb _ (aK1 _), eM.alloc (dr w) _ _, ?_, by omega⟩⟩ ((aW.dr w _).seq (aW.alloc _ _ _))
   simp only [aL8, aKV, aL5, uF, hzs, hnl]
   rw [show m + r - (0 + m) = r from by omega, aLD]
 .by_cases hc : n + m <= c
  .have hroom : news.length <= rest.length := by
    rw [aKV, hlen] at h4
    have : (n + m) * sz <= c * sz := aLk _ hc
    rw [aLD] at this; omega
   obtain ⟨w', s1, s2, s3, s4, _⟩ := Fp (P := P) (M := S) h2 news w (n * sz) 0 (l ++ rest) h3 (by rw [aKV, hlen]; omega) hone'
   have : (lO .append #[t, t2] ty [.slice (some ⟨b, 0, none⟩) n c, .int k m]).run P w = .ok (.value (.slice (some ⟨b, 0, none⟩) (n + m) c)) w' := by
    unfold lO builtin
    simp only [Builtin.append_, aLX, aKM, aKN]
    simp only [underlying, typeInfo, Sem.run_bind, run_program, Result.andThen_ok, hu, hu2, hi, Sem.run_pure, kX hi, hsz, has, hmw, hm0, hmx, if_true, if_false, aKO, aLb, aKQ, hc, hnw, OA, aKP, s1]
   unfold aD
   rw [this]
   rw [aLW, <- hlen, YM _ _ _ hroom] at s2
   refine hk _ _ ⟨by rw [aKV, hlen, hnl, aLD], .inr ⟨b, c, rest.drop news.length, rfl, h2, s2, ?_, hc⟩⟩ s3
   rw [<- h4]; simp; omega
  .have hfit := growslice_fits (need := n + m) (old := c) (bytes := i.bytes) (by omega) hbytes
   have hfit' : ¬ (Builtin.nextslicecap (n + m) c * i.bytes > 2 ^ 48) := by omega
   have hq : (Question.appendCap (n + m) c e).forced = false := rfl
   obtain ⟨r, hr⟩ : ∃ r, (Question.appendCap (n + m) c e).cut (w.tape w.drawn (.appendCap (n + m) c e)) = n + m + r :=
    ⟨(w.tape w.drawn (.appendCap (n + m) c e)) % (2 ^ 63 - (n + m)), by simp only [Question.cut]⟩
   have hold : Cl (dr w) sz (.slice (some ⟨b, 0, none⟩) n c) n l := ⟨_, _, rfl, hlen, fun _ => ⟨b, 0, rfl, fun i hi => by
    show w.cell? _ = _
    rw [h3.cell, aKP, aLd hi]⟩⟩
   have : (lO .append #[t, t2] ty [.slice (some ⟨b, 0, none⟩) n c, .int k m]).run P w = .ok (.value (.slice (some ⟨w.heap.size, 0, none⟩) (n + m) (n + m + r))) ((dr w).alloc (.cells (l ++ news ++ (Builtin.zeroCells z.cells (n + m + r - (n + m))).toList).toArray e)) := by
    have hfo := Cu (P := P) hold
    unfold lO builtin
    simp only [Builtin.append_, aLX, aKM, aKN]
    simp only [underlying, typeInfo, Sem.run_bind, run_program, Result.andThen_ok, hu, hu2, hi, Sem.run_pure, kX hi, hsz, has, hmw, hm0, hmx, if_true, if_false, aKO, aLb, aKQ, hc, hnot, false_and, hfit', run_choose, hq, hr, run_askRoom]
    change ((Sem.run P _ (dr w)).andThen _).andThen _ = _
    simp only [Sem.run_bind, hnw, hfo, Result.andThen_ok, hz', Sem.run_pure, newRow, run_newObj]
    have e1 : (l.toArray ++ news.toArray ++ Builtin.zeroCells z.cells (n + m + r - (n + m)) : Array aNk) = (l ++ news ++ (Builtin.zeroCells z.cells (n + m + r - (n + m))).toList).toArray := by
     apply Array.ext'; simp
    rw [e1]
    rfl
   unfold aD
   rw [this]
   refine hk _ _ ⟨by rw [aKV, hlen, hnl, aLD], .inr ⟨w.heap.size, n + m + r, _, rfl, hb _ (aK1 _), eM.alloc (dr w) _ _, ?_, by omega⟩⟩ ((aW.dr w _).seq (aW.alloc _ _ _))
   simp only [aKV, aL5, uF, hzs, hnl, hlen]
   rw [show n + m + r - (n + m) = r from by omega, aLD, aLD]
end
end Go.En
namespace Go.Proofs.YtgpimhlgaokobaaGreat
open Go Go.En Go.Pu
set_option maxRecDepth 4000
theorem aId {y : Nat} (h : y ≠ 0) : bl y = bl (y / 2) + 1 := by
 by_cases h2 : y / 2 = 0
 .obtain rfl : y = 1 := by omega
  decide
 .have a := Y9 h2
  have b := Wk (y / 2)
  have c := Nh h2
  obtain ⟨m, hm⟩ : ∃ m, bl (y / 2) = m + 1 := ⟨bl (y / 2) - 1, by omega⟩
  rw [hm, aLO] at a
  rw [hm] at b ⊢
  refine aG9 ?_ ?_
  .rw [aLr]; omega
  .rw [aLr]; omega
theorem aIr {x : Nat} (hx : x < 2 ^ 40) (w : aNj) : aS pg IG #[.int .i64 x] w (fun r w' => r = .int .i64 (bl x : Nat) /\ w' = w) := by
 refine alX ?_
 unfold aqZ Pa MS NL O5 Nc
 have hb : bl x <= 40 := wH hx
 refine cU.rule (fun m (t : aNk × aNk) w' => ∃ n : Nat, t = (.int .i64 m, .int .i64 n) /\ bl m + n = bl x /\ m <= x /\ w' = w) x ⟨0, rfl, rfl, aK1 _, rfl⟩ ?_
 rintro m t w1 ⟨n, rfl, hn, hmx, rfl⟩
 unfold ED
 by_cases h0 : m = 0
 .subst h0
  have d1 : decide ((0 : Int) < ((0 : Nat) : Int)) = false := rfl
  unfold Fz
  have : n = bl x := by rw [<- hn]; simp [aHW]
  subst this
  simp (disch := omega) only [aD, dH, d1, oP, bN, aP, aA, true_and, and_true, aE]
 .have d1 : decide ((0 : Int) < (m : Int)) = true := by simp; omega
  have e1 : (m : Int).tdiv 2 = ((m / 2 : Nat) : Int) := by rw [aK6 (by omega)]; omega
  have hh := aId h0
  simp (disch := omega) only [aD, dH, d1, oP, e1, aP, bN, aA, and_true, aG]
  exact ⟨m / 2, by omega, n + 1, rfl, by omega, by omega⟩
theorem Xz {v : aNk} {L : List Bool} {st n : Nat} {w : aNj} (hs : Bl w v L) (hn : n <= 32) (hst : st <= L.length) (hl : L.length <= 10000000) :
 aS pg zA #[.agg #[v, .int .i64 st], .int .i64 n] w (fun r w' => ((L.length < st + n /\ r = .tuple #[.agg #[v, .int .i64 st], .int .u64 0, .int .i64 10]) ∨
  (st + n <= L.length /\ r = .tuple #[.agg #[v, .int .i64 (st + n : Nat)], .int .u64 (pX L st n : Nat), .int .i64 0])) /\ aW w w' eU) := by
 refine auM ?_
 obtain ⟨a, c, rfl, hc⟩ := Gz hs
 unfold awD Q0
 refine nK fun w1 o1 x1 s1 => ?_
 refine Bu fun w2 o2 x2 s2 => ?_
 simp only [Value.cells] at o1
 have o1 := o1.ext x2 (fun h => h)
 have c0 := o1.cell (off := 0)
 have c1 := o1.cell (off := 1)
 have l1 := jH (off := 0) o1 (by simp)
 simp only [aKM, aKN, aKU, aKT, aKX] at c0 c1 l1
 have x02 : aW w w2 eU := x1.seq x2
 have d1 : decide ((n : Int) < 0) = false := by simp
 have d2 : decide ((32 : Int) < (n : Int)) = false := by simp; omega
 by_cases hsh : L.length < st + n
 .have d3 : decide ((L.length : Int) - (st : Int) < (n : Int)) = true := by simp; omega
  simp (disch := omega) only [aD, aU, d1, eI, dJ, aKP, aA, bO, lR, dG, bH, aKQ, if_false, bM, dH, d2, l1, c0, aH, lE, c1, fE, aP, d3, bN, aG, aE]
  refine eY o2 rfl (by simp [one]) (by simp) fun w3 o3 x3 s3 => ?_
  refine pT o3 (by simp [bK]) ?_
  simp only [bK, aKS, aKR, aKU, aKT, aKX]
  exact ⟨.inl ⟨hsh, by trivial⟩, x02.new x3 (by omega)⟩
 .have d3 : decide ((L.length : Int) - (st : Int) < (n : Int)) = false := by simp; omega
  have e1 : (st : Int) + (n : Int) = ((st + n : Nat) : Int) := by omega
  have hs2 := (hs.ext x02 (bZ _)).drop' (k := st) (by omega)
  rw [<- aMx] at hs2
  have hs3 := aI4 hs2 (k := n) (by omega)
  rw [<- aME] at hs3
  have e2 : st + n - st = n := by omega
  simp (disch := omega) only [aD, aU, d1, eI, dJ, aKP, aA, bO, lR, dG, bH, aKQ, if_false, bM, dH, d2, c0, aH, lE, c1, fE, aP, d3, bN, e1, kF, aKO, e2, aE]
  refine (aqP hs3 (by rw [aK2]; omega)).mono ?_
  rintro r w3 ⟨rfl, rfl⟩
  simp (disch := omega) only [c1, aH, aA, bN, e1, aP]
  refine oY o1 rfl (by simp) fun w4 o4 x4 s4 => ?_
  simp only [aKS, aKR] at o4
  have l4 := jH (off := 0) o4 (by simp)
  simp only [aKU, aKT, aKX] at l4
  simp (disch := omega) only [l4, aA]
  refine eY (o2.ext x4 (by omega)) rfl (by simp [one]) (by simp) fun w5 o5 x5 s5 => ?_
  refine pT o5 (by simp [bK]) ?_
  simp only [bK, aKS, aKR, aKU, aKT, aKX]
  exact ⟨.inr ⟨by omega, by trivial⟩, (x02.new x4 (by omega)).new x5 (by omega)⟩
theorem aE5 {v : aNk} {st : Nat} {w : aNj} (hst : st <= 1000000000) : aS pg Ml #[.agg #[v, .int .i64 st]] w (fun r w' => r = .int .i64 (((st + 7) / 8 : Nat)) /\ aW w w' eU) := by
 refine atO ?_
 unfold ayD Rl
 refine nK fun w1 o1 x1 s1 => ?_
 simp only [Value.cells] at o1
 have c1 := o1.cell (off := 1)
 simp only [aKM, aKN] at c1
 have e1 : ((st : Int) + 7).tdiv 8 = (((st + 7) / 8 : Nat) : Int) := by rw [aK6 (by omega)]; omega
 simp (disch := omega) only [aD, dJ, aKP, aA, bO, c1, aH, bN, aP, oP, e1, true_and]
 exact x1
theorem aAe {left : Nat} (h0 : 0 < left) (h1 : left <= 32768) : ∃ m, bl (left + 1) = m + 1 /\ 1 <= m /\ m <= 16 /\ left + 1 < 2 ^ (m + 1) /\ 2 ^ m <= left + 1 /\ 2 ^ (m + 1) = 2 * 2 ^ m := by
 have hb2 := Y9 (k := left + 1) (by omega)
 have hb3 := Wk (left + 1)
 have hb4 := wH (k := left + 1) (n := 17) (by omega)
 have hn : 2 <= bl (left + 1) := by
  rcases aK9 (bl (left + 1)) 2 with h | h
  .have hb1 := Nh (k := left + 1) (by omega)
   have : bl (left + 1) = 1 := by omega
   rw [this] at hb3; omega
  .exact h
 obtain ⟨m, hm⟩ : ∃ m, bl (left + 1) = m + 1 := ⟨bl (left + 1) - 1, by omega⟩
 rw [hm] at hb2 hb3 hb4 hn ⊢
 exact ⟨m, rfl, by omega, by omega, hb3, hb2, by rw [aLr, aLm]⟩
theorem aCj (L : List Bool) (f st : Nat) : noR L (f + 1) st = if L.length < st + 2 then none else if pX L st 2 < 3 then some (pX L st 2, st + 2) else match noR L f (st + 2) with
 | none => none
 | some (k, st') => some (3 + k, st') := by rw [noR] <;> rfl
def aIH (w : aNj) (lo hi : Nat) (l : List UInt8) (o : Option (Nat × Nat)) (r : aNk) : Prop := match o with
 | none => r = .tuple #[.int .i64 0, .int .i64 10]
 | some (v, st) => r = .tuple #[.int .i64 v, .int .i64 0] /\ Fwd w lo hi l st
theorem aIl {l : List UInt8} {lo hi st left : Nat} {w : aNj} (h : Fwd w lo hi l st) (hlh : lo <= hi) (hst : st <= 8 * l.length) (hl : l.length <= 1000000) (h0 : 0 < left) (h1 : left <= 32768) :
 aS pg GL #[.pointer (some ⟨hi, 0, none⟩), .int .i64 left] w (fun r w' => aIH w' lo hi l (afP (aZ l) st left) r /\ aW w w' (fun y => y = hi)) := by
 refine aiU ?_
 obtain ⟨m, hm, hm1, hm2, hf1, hf2, hf3⟩ := aAe h0 h1
 unfold afH KX
 have e1 : (left : Int) + 1 = ((left + 1 : Nat) : Int) := by omega
 simp (disch := omega) only [aD, bN, e1, aP, aA, fY, kR]
 refine (aCi (x := left + 1) (by omega) w).mono ?_
 rintro r w1 ⟨rfl, rfl⟩
 rw [hm]
 have e2 : ((m + 1 : Nat) : Int) - 1 = (m : Int) := by omega
 simp (disch := omega) only [fE, e2, aP, pA, aKO, aA]
 refine (Xt (n := m) h hlh (by omega) hst hl).mono ?_
 have hbl := lW l
 unfold afP
 simp only [hm, aLO]
 rintro r w2 (⟨hsh, rfl, hf, x2⟩ | ⟨hsh, rfl, hf, x2⟩)
 .have n1 : ((10 : Int) != 0) = true := rfl
  rw [if_pos (by omega)]
  simp (disch := omega) only [pP, pR, aA, dC, n1, aG]
  exact ⟨rfl, x2.mono fun _ _ h => h.elim⟩
 .have n1 : ((0 : Int) != 0) = false := rfl
  rw [if_neg (by omega)]
  have hlt := FW (aZ l) st m
  have hnum : vX (((aZ l).drop st).take m) = pX (aZ l) st m := rfl
  rw [hnum]
  have hsh1 := aE9 (n := m + 1) (by omega)
  have hsh0 := aE9 (n := m) (by omega)
  have hp : 2 ^ m <= 2 ^ 16 := aKY (by omega) hm2
  generalize pX (aZ l) st m = low at *
  rw [hf3] at *
  generalize hq : 2 ^ m = q at *
  have e3 : ((2 * q : Nat) : Int) - 2 - (left : Int) = ((2 * q - 2 - left : Nat) : Int) := by omega
  by_cases hfr : low < 2 * q - 2 - left
  .have d1 : decide ((low : Int) < ((2 * q - 2 - left : Nat) : Int)) = true := by simp only [decide_eq_true_eq]; omega
   rw [if_pos hfr]
   simp (disch := omega) only [pP, pR, hsh1, aP, e3, aA, dC, n1, aE, bX, bN, fE, aU, d1, aG]
   exact ⟨⟨rfl, hf⟩, x2⟩
  .have d1 : decide ((low : Int) < ((2 * q - 2 - left : Nat) : Int)) = false := by simp only [decide_eq_false_iff_not]; omega
   rw [if_neg hfr]
   simp (disch := omega) only [pP, pR, hsh1, aP, e3, aA, dC, n1, aE, bX, bN, fE, aU, d1]
   refine (Xt (n := 1) hf hlh (by omega) hsh hl).mono ?_
   rintro r w3 (⟨hs3, rfl, hf3, x3⟩ | ⟨hs3, rfl, hf3, x3⟩)
   .have n1 : ((10 : Int) != 0) = true := rfl
    rw [if_pos (by omega)]
    simp (disch := omega) only [pP, pR, aA, dC, n1, aG]
    exact ⟨rfl, x2.seq (x3.mono fun _ _ h => h.elim)⟩
   .rw [if_neg (by omega)]
    have hnum : vX (((aZ l).drop (st + m)).take 1) = pX (aZ l) (st + m) 1 := rfl
    rw [hnum]
    by_cases hz : pX (aZ l) (st + m) 1 = 0
    .have n2 : (((pX (aZ l) (st + m) 1 : Nat) : Int) == 0) = true := by rw [hz] <;> rfl
     rw [if_pos hz]
     simp (disch := omega) only [pP, pR, aA, dC, n1, aE, dU, n2, aG]
     exact ⟨⟨rfl, hf3⟩, x2.seq x3⟩
    .have n2 : (((pX (aZ l) (st + m) 1 : Nat) : Int) == 0) = false := beq_eq_false_iff_ne.2 (by omega)
     have e4 : (low : Int) + (q : Int) - ((2 * q - 2 - left : Nat) : Int) = ((low + q - (2 * q - 2 - left) : Nat) : Int) := by omega
     rw [if_neg hz]
     simp (disch := omega) only [pP, pR, hsh0, e4, aA, dC, n1, aE, dU, n2]
     exact ⟨⟨rfl, hf3⟩, x2.seq x3⟩
theorem aFL {l : List UInt8} {lo hi st : Nat} {w : aNj} (h : Fwd w lo hi l st) (hlh : lo <= hi) (hst : st <= 8 * l.length) (hl : l.length <= 1000000) :
 aS pg BP #[.pointer (some ⟨hi, 0, none⟩)] w (fun r w' => aIH w' lo hi l (noR (aZ l) ((aZ l).length + 1) st) r /\ aW w w' (fun y => y = hi)) := by
 refine Ym ?_
 have hbl := lW l
 unfold Vp D1 F0 Ft PZ EG EI FX GM
 refine cU.rule (fun m (t : aNk) w' => ∃ k0 st' : Nat, t = .int .i64 k0 /\ noR (aZ l) ((aZ l).length + 1) st = (match noR (aZ l) m st' with | none => none | some (k, s) => some (k0 + k, s)) /\ (aZ l).length < 2 * m + st' /\ st' <= 8 * l.length /\ k0 <= 3 * st' /\ Fwd w' lo hi l st' /\ aW w w' (fun y => y = hi)) ((aZ l).length + 1)
  ⟨0, st, rfl, by cases noR (aZ l) ((aZ l).length + 1) st with
    | none => rfl
    | some x => simp, by omega, hst, by omega, h, aW.refl _ _⟩ ?_
 rintro m t w1 ⟨k0, st', rfl, hr, hm, hs', hk0, hf, x1⟩
 obtain ⟨m, rfl⟩ : ∃ m', m = m' + 1 := ⟨m - 1, by omega⟩
 unfold AA
 refine (Xt (n := 2) hf hlh (by omega) hs' hl).mono ?_
 rw [aCj (aZ l) m st'] at hr
 rintro r w2 (⟨hsh, rfl, hf2, x2⟩ | ⟨hsh, rfl, hf2, x2⟩)
 .have n1 : ((10 : Int) != 0) = true := rfl
  rw [if_pos (by omega)] at hr
  rw [hr]
  simp (disch := omega) only [aD, pP, pR, aA, dC, n1, aG]
  exact ⟨rfl, x1.seq (x2.mono fun _ _ h => h.elim)⟩
 .have n1 : ((0 : Int) != 0) = false := rfl
  rw [if_neg (by omega)] at hr
  have hlt := FW (aZ l) st' 2
  have hnum : vX (((aZ l).drop st').take 2) = pX (aZ l) st' 2 := rfl
  rw [hnum]
  generalize pX (aZ l) st' 2 = x at *
  have e1 : (k0 : Int) + (x : Int) = ((k0 + x : Nat) : Int) := by omega
  by_cases h3 : x < 3
  .have d1 : decide ((x : Int) < 3) = true := by simp; omega
   rw [if_pos h3] at hr
   rw [hr]
   unfold AP
   simp (disch := omega) only [aD, pP, pR, aA, dC, n1, aE, bX, aP, aU, d1, aG, bN, e1]
   exact ⟨⟨rfl, hf2⟩, x1.seq x2⟩
  .have d1 : decide ((x : Int) < 3) = false := by simp; omega
   rw [if_neg h3] at hr
   simp (disch := omega) only [aD, pP, pR, aA, dC, n1, aE, bX, aP, aU, d1, bN, e1]
   refine ⟨m, by omega, k0 + x, st' + 2, rfl, ?_, by omega, by omega, by omega, hf2, x1.seq x2⟩
   rw [hr]
   cases noR (aZ l) m (st' + 2) with
   | none => rfl
   | some y =>
     obtain ⟨k, s⟩ := y
     have : x = 3 := by omega
     subst this
     simp; omega
def aDH (v : aNk) (o : Option (Nat × Nat)) (r : aNk) : Prop := match o with
 | none => ∃ st' : Nat, r = .tuple #[.agg #[v, .int .i64 st'], .int .i64 0, .int .i64 10]
 | some (x, st) => r = .tuple #[.agg #[v, .int .i64 st], .int .i64 x, .int .i64 0]
theorem aFH {v : aNk} {L : List Bool} {st left : Nat} {w : aNj} (hs : Bl w v L) (hst : st <= L.length) (hl : L.length <= 10000000) (h0 : 0 < left) (h1 : left <= 32768) :
 aS pg Mn #[.agg #[v, .int .i64 st], .int .i64 left] w (fun r w' => aDH v (afP L st left) r /\ aW w w' eU) := by
 refine asL ?_
 obtain ⟨m, hm, hm1, hm2, hf1, hf2, hf3⟩ := aAe h0 h1
 obtain ⟨a, c, rfl, hc⟩ := Gz hs
 unfold awH Q5
 refine nK fun w1 o1 x1 s1 => ?_
 refine Bu fun w2 o2 x2 s2 => ?_
 simp only [Value.cells] at o1
 have o1 := o1.ext x2 (fun h => h)
 have l1 := jH (off := 0) o1 (by simp)
 simp only [aKU, aKT, aKX] at l1
 have x02 : aW w w2 eU := x1.seq x2
 have e1 : (left : Int) + 1 = ((left + 1 : Nat) : Int) := by omega
 have hw1 : w.heap.size <= w.heap.size := aK1 _
 have hw2 : w.heap.size <= w1.heap.size := x1.size
 have hne : w.heap.size ≠ w1.heap.size := by omega
 obtain ⟨p1, hp1⟩ : ∃ p1, p1 = w.heap.size := ⟨_, rfl⟩
 obtain ⟨p2, hp2⟩ : ∃ p2, p2 = w1.heap.size := ⟨_, rfl⟩
 rw [<- hp1, <- hp2] at hne
 rw [<- hp1] at o1 l1 ⊢
 rw [<- hp2] at o2 hw2 ⊢
 simp (disch := omega) only [aD, bN, e1, aP, aA]
 refine (aIr (x := left + 1) (by omega) w2).mono ?_
 rintro r w3 ⟨rfl, rfl⟩
 rw [hm]
 have e2 : ((m + 1 : Nat) : Int) - 1 = (m : Int) := by omega
 simp (disch := omega) only [l1, fE, e2, aP, aA]
 unfold afP
 simp only [hm, aLO]
 refine (Xz (n := m) (hs.ext x02 (bZ _)) (by omega) hst hl).mono ?_
 have fin : ∀ (st' : Nat) (xv : Int) (ev : Int) (w' : aNj) (RR : aNk -> aNj -> Prop), eM w' p1 [.slice a L.length c, .int .i64 st'] -> eM w' p2 [.slice none 0 0, .int .i64 0] -> aW w w' eU →
     (∀ w'', aW w w'' eU -> RR (.tuple #[.agg #[.slice a L.length c, .int .i64 st'], .int .i64 xv, .int .i64 ev]) w'') →
     aD pg (aL 176 (.pointer (some ⟨p1, 0, none⟩))) w' fun t15 w => aD pg (aR 176 (.pointer (some ⟨p2, 0, none⟩)) t15) w fun _u w => zN pg 176 (.pointer (some ⟨p2, 0, none⟩)) w fun r0 => RR (.tuple #[r0, .int .i64 xv, .int .i64 ev]) w := by
  intro st' xv ev w' RR q1 q2 qx qk
  have l1 := jH (off := 0) q1 (by simp)
  simp only [aKU, aKT, aKX] at l1
  simp (disch := omega) only [aD, l1, aA]
  refine eY q2 rfl (by simp [one]) (by simp) fun w6 o6 x6 s6 => ?_
  refine pT o6 (by simp [bK]) ?_
  simp only [bK, aKS, aKR, aKU, aKT, aKX]
  exact qk _ (qx.new x6 hw2)
 have hx1 : w.heap.size <= p1 := by omega
 rintro r w4 ⟨⟨hsh, rfl⟩ | ⟨hsh, rfl⟩, x4⟩
 .have n1 : ((10 : Int) != 0) = true := rfl
  rw [if_pos (by omega)]
  simp (disch := omega) only [Yb, Ya, YH, aA, dC, bX, aP]
  refine eY (o1.ext x4 (fun h => h)) rfl (by simp [one]) (by simp) fun w5 o5 x5 s5 => ?_
  simp only [bK, aKS, aKR] at o5
  simp (disch := omega) only [n1, aG]
  exact fin st 0 10 w5 (fun r w' => aDH (.slice a L.length c) none r /\ aW w w' eU) o5 ((o2.ext x4 (fun h => h)).ext x5 (by omega)) ((x02.seq x4).new x5 hx1) fun w6 x6 => ⟨⟨_, rfl⟩, x6⟩
 .have n1 : ((0 : Int) != 0) = false := rfl
  rw [if_neg (by omega)]
  have hlt := FW L st m
  have hsh1 : m + 1 <= 40 := by omega
  have hp : 2 ^ m <= 2 ^ 16 := aKY (by omega) hm2
  simp (disch := omega) only [Yb, Ya, YH, aA, dC, bX, aP]
  refine eY (o1.ext x4 (fun h => h)) rfl (by simp [one]) (by simp) fun w5 o5 x5 s5 => ?_
  simp only [bK, aKS, aKR] at o5
  have x05 : aW w w5 eU := (x02.seq x4).new x5 hx1
  have o25 := (o2.ext x4 (fun h => h)).ext x5 (by omega)
  simp (disch := omega) only [n1, aE]
  refine (IP m (by omega) _).mono ?_
  rintro r w6 ⟨rfl, rfl⟩
  have hpow : ((2 ^ m : Nat) : Int) = (2 : Int) ^ m := by simp
  rw [<- hpow]
  generalize pX L st m = low at *
  rw [hf3] at *
  generalize hq : 2 ^ m = q at *
  have e3 : 2 * (q : Int) - 2 - (left : Int) = ((2 * q - 2 - left : Nat) : Int) := by omega
  by_cases hfr : low < 2 * q - 2 - left
  .have d1 : decide ((low : Int) < ((2 * q - 2 - left : Nat) : Int)) = true := by simp only [decide_eq_true_eq]; omega
   rw [if_pos hfr]
   have l5 := jH (off := 0) o5 (by simp)
   simp only [aKU, aKT, aKX] at l5
   simp (disch := omega) only [oL, aP, bN, aA, fE, e3, aU, d1, l5, aG]
   refine eY o25 rfl (by simp [one]) (by simp) fun w7 o7 x7 s7 => ?_
   refine pT o7 (by simp [bK]) ?_
   simp only [bK, aKS, aKR, aKU, aKT, aKX]
   exact ⟨rfl, x05.new x7 hw2⟩
  .have d1 : decide ((low : Int) < ((2 * q - 2 - left : Nat) : Int)) = false := by simp only [decide_eq_false_iff_not]; omega
   rw [if_neg hfr]
   have l5 := jH (off := 0) o5 (by simp)
   simp only [aKU, aKT, aKX] at l5
   simp (disch := omega) only [oL, aP, bN, aA, fE, e3, aU, d1, l5, aE]
   refine (Xz (n := 1) (hs.ext x05 (bZ _)) (by omega) hsh hl).mono ?_
   rintro r w7 ⟨⟨hs3, rfl⟩ | ⟨hs3, rfl⟩, x7⟩
   .have n1 : ((10 : Int) != 0) = true := rfl
    rw [if_pos (by omega)]
    simp (disch := omega) only [Yb, Ya, YH, aA, dC, dU]
    refine eY (o5.ext x7 (fun h => h)) rfl (by simp [one]) (by simp) fun w8 o8 x8 s8 => ?_
    simp only [bK, aKS, aKR] at o8
    simp (disch := omega) only [n1, aG]
    exact fin _ 0 10 w8 (fun r w' => aDH (.slice a L.length c) none r /\ aW w w' eU) o8 ((o25.ext x7 (fun h => h)).ext x8 (by omega)) ((x05.seq x7).new x8 hx1) fun w6 x6 => ⟨⟨_, rfl⟩, x6⟩
   .rw [if_neg (by omega)]
    have hb1 := FW L (st + m) 1
    simp (disch := omega) only [Yb, Ya, YH, aA, dC, dU]
    refine eY (o5.ext x7 (fun h => h)) rfl (by simp [one]) (by simp) fun w8 o8 x8 s8 => ?_
    simp only [bK, aKS, aKR] at o8
    have x08 : aW w w8 eU := (x05.seq x7).new x8 hx1
    have o28 := (o25.ext x7 (fun h => h)).ext x8 (by omega)
    have l8 := jH (off := 0) o8 (by simp)
    simp only [aKU, aKT, aKX] at l8
    by_cases hz : pX L (st + m) 1 = 0
    .have n2 : (((pX L (st + m) 1 : Nat) : Int) == 1) = false := by rw [hz] <;> rfl
     rw [if_pos hz]
     simp (disch := omega) only [n1, l8, aA, n2, aE]
     refine eY o28 rfl (by simp [one]) (by simp) fun w9 o9 x9 s9 => ?_
     refine pT o9 (by simp [bK]) ?_
     simp only [bK, aKS, aKR, aKU, aKT, aKX]
     exact ⟨rfl, x08.new x9 hw2⟩
    .have n2 : (((pX L (st + m) 1 : Nat) : Int) == 1) = true := by rw [show pX L (st + m) 1 = 1 from by omega] <;> rfl
     have e4 : (low : Int) + (q : Int) - ((2 * q - 2 - left : Nat) : Int) = ((low + q - (2 * q - 2 - left) : Nat) : Int) := by omega
     rw [if_neg hz]
     simp (disch := omega) only [n1, l8, aA, n2, e4, aG, aE]
     refine eY o28 rfl (by simp [one]) (by simp) fun w9 o9 x9 s9 => ?_
     refine pT o9 (by simp [bK]) ?_
     simp only [bK, aKS, aKR, aKU, aKT, aKX]
     exact ⟨rfl, x08.new x9 hw2⟩
theorem avB (L : List Bool) (sym f st left : Nat) (ps : List Int) : rdC L sym (f + 1) st left ps = if left = 0 then .ok (ps, st) else match afP L st left with
 | none => .error 10
 | some (v, st1) =>
   if v = 1 then match noR L (L.length + 1) st1 with
     | none => .error 10
     | some (k, st2) => if sym < ps.length + 1 + k then .error 11 else rdC L sym f st2 left (ps ++ 0 :: List.replicate k 0)
   else if sym < ps.length + 1 then .error 11 else rdC L sym f st1 (left - (iR ((v : Int) - 1)).toNat) (ps ++ [(v : Int) - 1]) := by rw [rdC] <;> rfl
theorem aAV (k : Nat) : (Builtin.zeroCells (Value.int .i64 0).cells k).toList = List.replicate k (Value.int .i64 0) := by
 apply aMa
 .rw [aL5, uF, aLJ]; simp [Value.cells]
 .intro i h1 h2
  simp [Builtin.zeroCells, Value.cells, Nat.mod_one]
theorem aH5 {n m base : Nat} {ty : TypeId} {w : aNj} {v : aNk} {l : List aNk} (h : sM w base 1 v n l) (hb : base <= w.heap.size) (hn : (n + m) * 8 <= 140737488355328) {K : aNk -> aNj -> Prop}
 (hk : ∀ v' w', sM w' base 1 v' (n + m) (l ++ List.replicate m (.int .i64 0)) -> aW w w' (fun y => base <= y) -> K v' w') : aD pg (lO .append #[42, 3] ty [v, .int .i64 m]) w K :=
 aCP (i := Tryz.t3) (S := fun y => base <= y) Tryz.underlying42 Tryz.underlying3 A2 rfl rfl rfl h (by decide) (by intro y hy; simp [Value.cells] at hy; subst hy; rfl) (fun b hbb => aLT hb hbb) (by omega) (by rw [show Tryz.t3.bytes = 8 from rfl]; omega) (by rw [show Tryz.t3.bytes = 8 from rfl]; omega)
  (fun v' w' o x => hk v' w' (by rw [<- aAV]; exact o) x)
def aeJ (w : aNj) (base : Nat) (o : Except Int (Nat × List Int × Nat)) (r : aNk) : Prop := match o with
 | .error e => r = .tuple #[.agg #[.int .i64 0, .slice none 0 0], .int .i64 0, .int .i64 e]
 | .ok (log, ps, used) => ∃ v, r = .tuple #[.agg #[.int .i64 log, v], .int .i64 used, .int .i64 0] /\ sM w base 1 v ps.length (ps.map (Value.int .i64))
theorem TB {p6 : Nat} {w0 w : aNj} {e : Int} (o6 : eM w p6 [.int .i64 0, .slice none 0 0]) (hx : aW w0 w eU) (hp : w0.heap.size <= p6) {RR : aNk -> aNj -> Prop}
 (hR : ∀ w', aW w0 w' eU -> RR (.tuple #[.agg #[.int .i64 0, .slice none 0 0], .int .i64 0, .int .i64 e]) w') :
 aD pg (aR 100 (.pointer (some ⟨p6, 0, none⟩)) (.agg #[.int .i64 0, .slice none 0 0])) w fun _u w => zN pg 100 (.pointer (some ⟨p6, 0, none⟩)) w fun r0 => RR (.tuple #[r0, .int .i64 0, .int .i64 e]) w := by
 refine wO o6 rfl (by simp [one]) (by simp) fun w6 o6 x6 s6 => ?_
 refine PU o6 (by simp [bK]) ?_
 simp only [bK, aKS, aKR, aKU, aKT, aKX]
 exact hR _ (hx.new x6 hp)
theorem aFa {l : List UInt8} {log lo hi p6 pc sym : Nat} {w0 w : aNj} {res : Except Int (List Int × Nat)} (hlh : lo <= hi) (hlp : w0.heap.size <= p6) (hl : l.length <= 1000000) (h6 : p6 < lo) (hhp : hi < pc) (hsym : sym <= 1000000) (hlog : log <= 15)
 (o6 : eM w p6 [.int .i64 0, .slice none 0 0]) (oc : eM w pc [.int .i64 log, .slice none 0 0]) (hf : Fwd w lo hi l 4) (h4 : 4 <= 8 * l.length) (hx : aW w0 w eU)
 (hres : rdC (aZ l) sym ((aZ l).length + 1) 4 (2 ^ log) [] = res)
 {RR : aNk -> aNj -> Prop} (hE : ∀ e w', res = .error e -> aW w0 w' eU -> RR (.tuple #[.agg #[.int .i64 0, .slice none 0 0], .int .i64 0, .int .i64 e]) w')
 (hO : ∀ ps st v w', res = .ok (ps, st) -> sM w' w0.heap.size 1 v ps.length (ps.map (Value.int .i64)) -> aW w0 w' eU -> RR (.tuple #[.agg #[.int .i64 log, v], .int .i64 (((st + 7) / 8 : Nat)), .int .i64 0]) w') :
 CI RR (.int .i64 sym) (.pointer (some ⟨p6, 0, none⟩)) (.pointer (some ⟨hi, 0, none⟩)) (.pointer (some ⟨pc, 0, none⟩)) (.int .i64 (2 ^ log : Nat)) w := by
 have hbl := lW l
 have hp15 : 2 ^ log <= 2 ^ 15 := aKY (by omega) hlog
 unfold CI NK Oe
 have lpc := oc.lt
 refine cU.rule (fun m (t : aNk) w' => ∃ (st left : Nat) (ps : List Int) (v : aNk), t = .int .i64 left /\ rdC (aZ l) sym m st left ps = res /\ (aZ l).length < m + st /\ st <= 8 * l.length /\ left <= 32768 /\ ps.length <= 1000000 /\
  eM w' p6 [.int .i64 0, .slice none 0 0] /\ eM w' pc [.int .i64 log, v] /\ sM w' (pc + 1) 1 v ps.length (ps.map (Value.int .i64)) /\ Fwd w' lo hi l st /\ aW w w' (fun y => y = hi ∨ pc <= y)) ((aZ l).length + 1)
  ⟨4, 2 ^ log, [], _, rfl, hres, by omega, h4, by omega, by simp, o6, oc, sM.nil _ _ _, hf, aW.refl _ _⟩ ?_
 rintro m t w1 ⟨st, left, ps, v, rfl, hr, hm, hst, hleft, hpl, o61, oc1, ov, hf1, x1⟩
 have z1 := x1.size
 have hx0 := hx.size
 have hx1 : ∀ {w' : aNj}, aW w w' (fun y => y = hi ∨ pc <= y) -> aW w0 w' eU := fun h => hx.trans h fun b hb hh => by omega
 obtain ⟨m, rfl⟩ : ∃ m', m = m' + 1 := ⟨m - 1, by omega⟩
 rw [avB] at hr
 obtain ⟨av, cv, hv⟩ := ov.len
 unfold Gp Oj
 by_cases h0 : left = 0
 .have d1 : decide ((0 : Int) < (left : Int)) = false := by simp; omega
  rw [if_pos h0] at hr
  subst hv
  have lc := rB (off := 0) (jW oc1) (by simp)
  have lc' := rB (off := 0) oc1 (by simp)
  simp only [aKU, aKT, aKX] at lc lc'
  unfold Fa
  simp (disch := omega) only [aD, dH, d1, jF, and_true, true_and, aA, lc, aE]
  refine (aFM (hf1.ext (aW.dr w1 eU) (fun _ _ _ h => h) hlh) (by omega)).mono ?_
  rintro r w2 ⟨rfl, rfl⟩
  simp (disch := omega) only [lc, true_and]
  refine wO (jW o61) rfl (by simp [one]) (by simp) fun w6 o6 x6 s6 => ?_
  refine PU o6 (by simp [bK]) ?_
  simp only [bK, aKS, aKR, aKU, aKT, aKX]
  have x16 : aW w1 w6 (fun y => y = p6) := (aW.dr w1 _).seq x6
  have ov6 := ov.ext x16 (fun b hb h => by omega)
  refine hO ps st _ w6 hr.symm ⟨ov6.1, ?_⟩ ((hx1 x1).new x16 (by omega))
  rcases ov6.2 with h | ⟨b, c, rest, q1, q2, q3⟩
  .exact .inl h
  .exact .inr ⟨b, c, rest, q1, by omega, q3⟩
 .have d1 : decide ((0 : Int) < (left : Int)) = true := by simp; omega
  rw [if_neg h0] at hr
  simp (disch := omega) only [aD, dH, d1, aA, aG]
  unfold Pb Wu ML
  refine (aIl hf1 hlh hst hl (by omega) hleft).mono ?_
  rintro r w2 ⟨hv2, x2⟩
  have x12 : aW w w2 (fun y => y = hi ∨ pc <= y) := x1.seq (x2.mono fun y _ h => .inl h)
  have o62 := o61.ext x2 (by omega)
  have oc2 := oc1.ext x2 (by omega)
  have ov2 := ov.ext x2 (fun b hb h => by omega)
  have z2 := x2.size
  cases hval : afP (aZ l) st left with
  | none =>
    rw [hval] at hr hv2
    obtain rfl := hv2
    have n1 : ((10 : Int) != 0) = true := rfl
    simp (disch := omega) only [aD, pP, pR, fX, aA, bJ, aKP, dR, dC, n1, aG]
    exact TB (RR := RR) (e := 10) o62 (hx1 x12) hlp fun w' h => hE _ _ hr.symm h
  | some y =>
    obtain ⟨x, st1⟩ := y
    rw [hval] at hr hv2
    simp only at hr
    obtain ⟨rfl, hf2⟩ := hv2
    obtain ⟨b1, b2, b3⟩ := auV hval (by omega)
    have n1 : ((0 : Int) != 0) = false := rfl
    simp (disch := omega) only [aD, pP, pR, fX, aA, bJ, aKP, dR, dC, n1, aE, fE, aP, dU]
    refine (aA2 _ _).mono ?_
    rintro r w3 ⟨rfl, rfl⟩
    have c1 := oc2.cell (off := 1)
    simp only [aKM, aKN] at c1
    have hpp : iR ((x : Int) - 1) <= left := by unfold iR; split <;> omega
    have hpn := sL (p := (x : Int) - 1) (by omega)
    obtain ⟨pq, hpq⟩ : ∃ pq : Nat, iR ((x : Int) - 1) = pq := ⟨(iR ((x : Int) - 1)).toNat, by omega⟩
    rw [hpq] at hr hpp ⊢
    rw [aKO] at hr
    have e1 : (left : Int) - (pq : Int) = ((left - pq : Nat) : Int) := by omega
    simp (disch := omega) only [fE, e1, aP, aA, c1, aH]
    refine Xu (cells := #[.int .i64 ((x : Int) - 1)]) (by decide) (by decide) (by kernel_rfl) fun w4 o4 x4 s4 => ?_
    have z4 := x4.size
    refine R8 (m := 1) (news := [.int .i64 ((x : Int) - 1)]) (ov2.ext x4 (fun _ _ h => h)) (o4.cl (off := 0) (l := [.int .i64 ((x : Int) - 1)]) (n := 1) rfl (fun i hi => by rw [aKP])) (by simp [one]) (by omega) (by omega) fun v5 w5 o5 x5 => ?_
    have z5 := x5.size
    obtain ⟨av5, cv5, rfl⟩ := o5.len
    have oc5 := (oc2.ext x4 (fun h => h)).ext x5 (by omega)
    refine apD oc5 rfl (by simp) fun w6 oc6 x6 s6 => ?_
    simp only [aKS, aKR] at oc6
    have z6 := x6.size
    have ov6 := o5.ext x6 (fun b hb h => by omega)
    have x26 : aW w3 w6 (fun y => pc <= y) := ((x4.mono fun _ _ h => h.elim).seq (x5.mono fun y _ h => by omega)).seq (x6.mono fun y _ h => by omega)
    have x16 : aW w w6 (fun y => y = hi ∨ pc <= y) := x12.seq (x26.mono fun y _ h => .inr h)
    have o66 := o62.ext x26 (by omega)
    have hf6 := hf2.ext x26 (fun b _ _ => by omega) hlh
    have hsz : pc < w6.heap.size := oc6.lt
    rw [show (ps.map (Value.int .i64) ++ [Value.int .i64 ((x : Int) - 1)]) = (ps ++ [(x : Int) - 1]).map (Value.int .i64) from by simp] at ov6
    have hwl : IntKind.i64.wrap (left : Int) = left := aP (by omega) (by omega)
    have tail : ∀ (ps' : List Int) (st' left' : Nat) (a : Option Addr) (cc : Nat) (w' : aNj), (if sym < ps'.length then .error 11 else rdC (aZ l) sym m st' left' ps') = res -> ps'.length <= 10000000 -> left' <= 32768 -> st < st' -> st' <= 8 * l.length →
        eM w' p6 [.int .i64 0, .slice none 0 0] -> eM w' pc [.int .i64 log, .slice a ps'.length cc] -> sM w' (pc + 1) 1 (.slice a ps'.length cc) ps'.length (ps'.map (Value.int .i64)) -> Fwd w' lo hi l st' -> aW w w' (fun y => y = hi ∨ pc <= y) →
        A8 (fun _ _ _ _ aX w'' => ∃ m', m' < m + 1 /\ ∃ (st left : Nat) (ps : List Int) (v : aNk), aX = .int .i64 left /\ rdC (aZ l) sym m' st left ps = res /\ (aZ l).length < m' + st /\ st <= 8 * l.length /\ left <= 32768 /\ ps.length <= 1000000 /\
         eM w'' p6 [.int .i64 0, .slice none 0 0] /\ eM w'' pc [.int .i64 log, v] /\ sM w'' (pc + 1) 1 v ps.length (ps.map (Value.int .i64)) /\ Fwd w'' lo hi l st /\ aW w w'' (fun y => y = hi ∨ pc <= y)) RR
         (.int .i64 sym) (.pointer (some ⟨p6, 0, none⟩)) (.pointer (some ⟨hi, 0, none⟩)) (.pointer (some ⟨pc, 0, none⟩)) (.int .i64 left') w' := by
     intro ps' st' left' a cc w' q1 q2 q3 q4 q5 q6 q7 q8 q9 q10
     have c1 := q7.cell (off := 1)
     simp only [aKM, aKN] at c1
     unfold A8
     by_cases hgt : sym < ps'.length
     .have d1 : decide ((sym : Int) < (ps'.length : Int)) = true := by simp; omega
      rw [if_pos hgt] at q1
      simp (disch := omega) only [aD, bJ, aKP, fX, aA, dR, c1, aH, gD, dH, d1, jI, bH, if_true, aG, cY]
      exact TB (RR := RR) (e := 11) q6 (hx1 q10) hlp fun w' h => hE _ _ q1.symm h
     .have d1 : decide ((sym : Int) < (ps'.length : Int)) = false := by simp; omega
      have d2 : decide ((left' : Int) < 0) = false := by simp
      rw [if_neg hgt] at q1
      simp (disch := omega) only [aD, bJ, aKP, fX, aA, dR, c1, aH, gD, dH, d1, dG, bH, aKQ, if_false, bM, aU, d2, aE]
      exact ⟨m, by omega, st', left', ps', _, rfl, q1, by omega, q5, q3, by omega, q6, q7, q8, q9, q10⟩
    by_cases h1 : x = 1
    .subst h1
     have n2 : (((1 : Nat) : Int) - 1 == 0) = true := rfl
     obtain rfl : pq = 0 := by
      have : iR (((1 : Nat) : Int) - 1) = 0 := rfl
      omega
     rw [if_pos rfl] at hr
     simp (disch := omega) only [n2, aG]
     refine (aFL hf6 hlh (by omega) hl).mono ?_
     rintro r w7 ⟨hv7, x7⟩
     have x17 : aW w w7 (fun y => y = hi ∨ pc <= y) := x16.seq (x7.mono fun y _ h => .inl h)
     have o67 := o66.ext x7 (by omega)
     have oc7 := oc6.ext x7 (by omega)
     have ov7 := ov6.ext x7 (fun b hb h => by omega)
     have z7 := x7.size
     cases hno : noR (aZ l) ((aZ l).length + 1) st1 with
     | none =>
       rw [hno] at hr hv7
       obtain rfl := hv7
       have n1 : ((10 : Int) != 0) = true := rfl
       simp (disch := omega) only [pP, pR, aA, dC, n1, aG]
       exact TB (RR := RR) (e := 10) o67 (hx1 x17) hlp fun w' h => hE _ _ hr.symm h
     | some y =>
       obtain ⟨k, st2⟩ := y
       rw [hno] at hr hv7
       simp only at hr
       obtain ⟨rfl, hf7⟩ := hv7
       obtain ⟨k1, k2, k3⟩ := aBE hno
       have n1 : ((0 : Int) != 0) = false := rfl
       by_cases hgt : sym < k
       .have d1 : decide ((sym : Int) < (k : Int)) = true := by simp; omega
        rw [if_pos (by omega)] at hr
        simp (disch := omega) only [pP, pR, aA, dC, n1, aE, dH, d1, aG]
        exact TB (RR := RR) (e := 11) o67 (hx1 x17) hlp fun w' h => hE _ _ hr.symm h
       .have d1 : decide ((sym : Int) < (k : Int)) = false := by simp; omega
        have c7 := oc7.cell (off := 1)
        simp only [aKM, aKN] at c7
        simp (disch := omega) only [pP, pR, aA, dC, n1, aE, dH, d1, c7, aH]
        refine aH5 (m := k) ov7 (by omega) (by omega) fun v8 w8 o8 x8 => ?_
        obtain ⟨av8, cv8, rfl⟩ := o8.len
        have z8 := x8.size
        refine apD (oc7.ext x8 (by omega)) rfl (by simp) fun w9 oc9 x9 s9 => ?_
        simp only [aKS, aKR] at oc9
        have z9 := x9.size
        have x79 : aW w7 w9 (fun y => pc <= y) := (x8.mono fun y _ h => by omega).seq (x9.mono fun y _ h => by omega)
        have ov9 := o8.ext x9 (fun b hb h => by omega)
        have hlk : ps.length + 1 + k = (ps ++ 0 :: List.replicate k 0).length := by simp; omega
        have hmk : List.map (Value.int .i64) (ps ++ [((1 : Nat) : Int) - 1]) ++ List.replicate k (Value.int .i64 0) = (ps ++ 0 :: List.replicate k 0).map (Value.int .i64) := by simp
        rw [hmk, hlk] at ov9
        rw [hlk] at hr oc9
        refine tail _ st2 left _ _ w9 hr (by rw [<- hlk]; omega) hleft (by omega) (by omega) (o67.ext x79 (by omega)) oc9 ov9 (hf7.ext x79 (fun b _ _ => by omega) hlh) (x17.seq (x79.mono fun y _ h => .inr h))
    .have n2 : ((x : Int) - 1 == 0) = false := beq_eq_false_iff_ne.2 (by omega)
     rw [if_neg h1] at hr
     simp (disch := omega) only [n2, aE]
     rw [show ps.length + 1 = (ps ++ [(x : Int) - 1]).length from by simp] at hr ov6 oc6
     exact tail _ st1 _ _ _ w6 hr (by simp; omega) (by omega) b1 (by omega) o66 oc6 ov6 hf6 x16
theorem aDX {bv : aNk} {l : List UInt8} {most : Int} {sym : Nat} {w : aNj} (hb : Bs w bv l) (hl : l.length <= 1000000) (hsym : sym <= 1000000) :
 aS pg IV #[bv, .int .i64 most, .int .i64 sym] w (fun r w' => aeJ w' w.heap.size (Cv (aZ l) most sym) r /\ aW w w' eU) := by
 refine alS ?_
 obtain ⟨RR, hRR⟩ : ∃ RR : aNk -> aNj -> Prop, RR = fun r w' => aeJ w' w.heap.size (Cv (aZ l) most sym) r /\ aW w w' eU := ⟨_, rfl⟩
 rw [<- hRR]
 have hbl := lW l
 unfold arH Lm Kd
 refine BU fun w1 o1 x1 s1 => ?_
 refine (aBl (hb.ext x1 (bZ _)) (by omega)).mono ?_
 rintro r w2 ⟨hi, rfl, hi1, hi2, hf2, x2⟩
 have z1 := x1.size
 have z2 := x2.size
 simp (disch := omega) only [aD, fX, aA]
 refine (Xt (n := 4) hf2 hi1 (by omega) (by omega) hl).mono ?_
 rintro r w3 (⟨hsh, rfl, hf3, x3⟩ | ⟨hsh, rfl, hf3, x3⟩)
 .have n1 : ((10 : Int) != 0) = true := rfl
  have hrl : Cv (aZ l) most sym = .error 10 := by unfold Cv; rw [if_pos (by omega)]
  rw [hrl] at hRR
  simp (disch := omega) only [pP, pR, aA, dC, n1, aG]
  exact TB (RR := RR) (e := 10) ((o1.ext x2 (fun h => h)).ext x3 (fun h => h)) ((x1.seq x2).seq x3) (aK1 _) fun w' h => by rw [hRR]; exact ⟨rfl, h⟩
 .have n1 : ((0 : Int) != 0) = false := rfl
  have hnum : vX (((aZ l).drop 0).take 4) = pX (aZ l) 0 4 := rfl
  have hlt := FW (aZ l) 0 4
  have hrl : Cv (aZ l) most sym = (if most < ((pX (aZ l) 0 4 + 5 : Nat) : Int) ∨ 15 < pX (aZ l) 0 4 + 5 then .error 12 else match rdC (aZ l) sym ((aZ l).length + 1) 4 (2 ^ (pX (aZ l) 0 4 + 5)) [] with
   | .error e => .error e
   | .ok (ps, st) => .ok (pX (aZ l) 0 4 + 5, ps, (st + 7) / 8)) := by unfold Cv; rw [if_neg (by omega)] <;> rfl
  rw [hrl] at hRR
  rw [hnum]
  generalize pX (aZ l) 0 4 = x at *
  have e1 : (x : Int) + 5 = ((x + 5 : Nat) : Int) := by omega
  have x03 : aW w w3 eU := (x1.seq x2).trans x3 fun b hb h => by omega
  have o13 := (o1.ext x2 (fun h => h)).ext x3 (by omega)
  simp (disch := omega) only [pP, pR, aA, dC, n1, aE, bX, aP, bN, e1, iC]
  refine BU fun w4 o4 x4 s4 => ?_
  refine wO o4 rfl (by simp [one]) (by simp) fun w5 o5 x5 s5 => ?_
  simp only [bK, aKS, aKR] at o5
  have z3 := x3.size
  have z4 := x4.size
  have x05 : aW w w5 eU := (x03.seq x4).new x5 (by omega)
  have x35 : aW w3 w5 eU := x4.new x5 (by omega)
  have o15 := o13.ext x35 (fun h => h)
  have c5 := o5.cell (off := 0)
  simp only [aKM, aKN] at c5
  by_cases hmo : most < ((x + 5 : Nat) : Int)
  .have d1 : decide (most < ((x + 5 : Nat) : Int)) = true := by simpa using hmo
   rw [if_pos (.inl hmo)] at hRR
   simp (disch := omega) only [bV, aA, bO, c5, aH, dH, d1, jI, bH, if_true, aG, cY]
   exact TB (RR := RR) (e := 12) o15 x05 (aK1 _) fun w' h => by rw [hRR]; exact ⟨rfl, h⟩
  have d1 : decide (most < ((x + 5 : Nat) : Int)) = false := by simpa using hmo
  by_cases h15 : 15 < x + 5
  .have d2 : decide ((15 : Int) < ((x + 5 : Nat) : Int)) = true := by simp; omega
   rw [if_pos (.inr h15)] at hRR
   simp (disch := omega) only [bV, aA, bO, c5, aH, dH, d1, dG, bH, aKQ, if_false, bM, d2, pA, aKO, aG]
   exact TB (RR := RR) (e := 12) o15 x05 (aK1 _) fun w' h => by rw [hRR]; exact ⟨rfl, h⟩
  have d2 : decide ((15 : Int) < ((x + 5 : Nat) : Int)) = false := by simp; omega
  rw [if_neg (by omega)] at hRR
  have hsh := aE9 (n := x + 5) (by omega)
  simp (disch := omega) only [bV, aA, bO, c5, aH, dH, d1, dG, bH, aKQ, if_false, bM, d2, pA, aKO, hsh, aE]
  have hl5 := o5.lt
  refine aFa (l := l) (w0 := w) (log := x + 5) (res := rdC (aZ l) sym ((aZ l).length + 1) 4 (2 ^ (x + 5)) []) (lo := w1.heap.size) hi1 (aK1 _) hl (by omega) (by omega) hsym (by omega) o15 o5 (hf3.ext x35 (fun _ _ _ h => h) hi1) (by omega) x05 rfl ?_ ?_
  .intro e w' he hx
   rw [hRR, he]
   exact ⟨rfl, hx⟩
  .intro ps st v w' he ho hx
   rw [hRR, he]
   exact ⟨⟨v, rfl, ho⟩, hx⟩
def Qv (L : List Bool) (v st1 : Nat) : Option (Nat × Nat) := if v = 1 then noR L (L.length + 1) st1 else some (0, st1)
theorem aH9 {L : List Bool} {sym f st left : Nat} {ps : List Int} (h0 : left ≠ 0) : rdC L sym (f + 1) st left ps = match afP L st left with
 | none => .error 10
 | some (v, st1) => match Qv L v st1 with
   | none => .error 10
   | some (k, st2) => if sym < ps.length + 1 + k then .error 11 else rdC L sym f st2 (left - (iR ((v : Int) - 1)).toNat) (ps ++ ((v : Int) - 1) :: List.replicate k 0) := by
 rw [avB, if_neg h0]
 cases afP L st left with
 | none => rfl
 | some x =>
   obtain ⟨v, st1⟩ := x
   simp only
   unfold Qv
   by_cases h : v = 1
   .subst h
    rw [if_pos rfl, if_pos rfl]
    have : iR (((1 : Nat) : Int) - 1) = 0 := rfl
    rw [this] <;> rfl
   .rw [if_neg h, if_neg h]
    rfl
theorem aqH {p6 : Nat} {w0 w : aNj} {e : Int} (o6 : eM w p6 [.int .i64 0, .slice none 0 0]) (hx : aW w0 w eU) (hp : w0.heap.size <= p6) {RR : aNk -> aNj -> Prop}
 (hR : ∀ w', aW w0 w' eU -> RR (.tuple #[.agg #[.int .i64 0, .slice none 0 0], .int .i64 0, .int .i64 e]) w') :
 aD pg (aR 128 (.pointer (some ⟨p6, 0, none⟩)) (.agg #[.int .i64 0, .slice none 0 0])) w fun _u w => zN pg 128 (.pointer (some ⟨p6, 0, none⟩)) w fun r0 => RR (.tuple #[r0, .int .i64 0, .int .i64 e]) w := by
 refine rY o6 rfl (by simp [one]) (by simp) fun w6 o6 x6 s6 => ?_
 refine GY o6 (by simp [bK]) ?_
 simp only [bK, aKS, aKR, aKU, aKT, aKX]
 exact hR _ (hx.new x6 hp)
structure RdS (w : aNj) (p6 pf pc log st : Nat) (bv : aNk) (L : List Bool) (ps : List Int) (v : aNk) : Prop where
 o6 : eM w p6 [.int .i64 0, .slice none 0 0]
 of : eM w pf [bv, .int .i64 st]
 oc : eM w pc [.int .i64 log, v]
 os : sM w (pc + 1) 1 v ps.length (ps.map (Value.int .i64))
 bl : Bl w bv L
 at' : AtI bv 0 pf
 h6 : p6 < pf
 hf : pf < pc
theorem RdS.ext {w w' : aNj} {p6 pf pc log st : Nat} {bv : aNk} {L : List Bool} {ps : List Int} {v : aNk} (h : RdS w p6 pf pc log st bv L ps v) (hx : aW w w' eU) : RdS w' p6 pf pc log st bv L ps v :=
 ⟨h.o6.ext hx (fun h => h), h.of.ext hx (fun h => h), h.oc.ext hx (fun h => h), h.os.ext hx (fun _ _ h => h), h.bl.ext hx (bZ _), h.at', h.h6, h.hf⟩
theorem RdS.setF {w w' : aNj} {p6 pf pc log st st' : Nat} {bv : aNk} {L : List Bool} {ps : List Int} {v : aNk} (h : RdS w p6 pf pc log st bv L ps v) (hx : aW w w' (fun y => y = pf)) (o : eM w' pf [bv, .int .i64 st']) : RdS w' p6 pf pc log st' bv L ps v := by
 have h6 := h.h6
 have hf := h.hf
 exact ⟨h.o6.ext hx (by omega), o, h.oc.ext hx (by omega), h.os.ext hx (fun _ _ h => by omega), h.bl.ext hx (h.at' _ fun b _ hb => by omega), h.at', h.h6, h.hf⟩
theorem aGV {w : aNj} {p6 pf pc log st : Nat} {bv : aNk} {L : List Bool} {ps : List Int} {v : aNk} (h : RdS w p6 pf pc log st bv L ps v) (p : Int) (hl : ps.length <= 100000000) {K : aNj -> Prop}
 (hK : ∀ w' v', RdS w' p6 pf pc log st bv L (ps ++ [p]) v' -> aW w w' (fun y => pc <= y) -> K w') :
 aD pg (cT 42 1 [(0, .int .i64 p)]) w fun t64 w => aD pg (lO .append #[42, 42] 42 [v, t64]) w fun t65 w => aD pg (aJ 128 (.pointer (some ⟨pc, 0, none⟩)) 1) w fun t66 w => aD pg (aR 42 t66 t65) w fun _ w => K w := by
 have lpc := h.oc.lt
 have h6 := h.h6
 have hf := h.hf
 refine Xu (cells := #[.int .i64 p]) (by decide) (by decide) (by kernel_rfl) fun w4 o4 x4 s4 => ?_
 have z4 := x4.size
 refine R8 (m := 1) (news := [.int .i64 p]) (h.os.ext x4 (fun _ _ h => h)) (o4.cl (off := 0) (l := [.int .i64 p]) (n := 1) rfl (fun i hi => by rw [aKP])) (by simp [one]) (by omega) (by omega) fun v5 w5 o5 x5 => ?_
 have z5 := x5.size
 obtain ⟨av5, cv5, rfl⟩ := o5.len
 have oc5 := (h.oc.ext x4 (fun h => h)).ext x5 (by omega)
 simp (disch := omega) only [aD, aN, aKP, aA]
 refine apD oc5 rfl (by simp) fun w6 oc6 x6 s6 => ?_
 simp only [aKS, aKR] at oc6
 have ov6 := o5.ext x6 (fun b hb h => by omega)
 have x26 : aW w w6 (fun y => pc <= y) := ((x4.mono fun _ _ h => h.elim).seq (x5.mono fun y _ h => by omega)).seq (x6.mono fun y _ h => by omega)
 rw [show (ps.map (Value.int .i64) ++ [Value.int .i64 p]) = (ps ++ [p]).map (Value.int .i64) from by simp, show ps.length + 1 = (ps ++ [p]).length from by simp] at ov6
 rw [show ps.length + 1 = (ps ++ [p]).length from by simp] at oc6
 exact hK w6 _ ⟨h.o6.ext x26 (by omega), h.of.ext x26 (by omega), oc6, ov6, h.bl.ext x26 (h.at' _ fun b _ hb => by omega), h.at', h6, hf⟩ x26
theorem aFP {w : aNj} {p6 pf pc log st sym left : Nat} {bv : aNk} {L : List Bool} {ps : List Int} {v : aNk} (h : RdS w p6 pf pc log st bv L ps v) {x : Nat} (hx3 : x <= 3) (hl : ps.length <= 90000000) {kn : aNk -> aNk -> aNk -> aNk -> aNk -> aNk -> aNj -> Prop}
 (hK : ∀ w' v', RdS w' p6 pf pc log st bv L (ps ++ List.replicate x 0) v' -> aW w w' (fun y => pc <= y) -> kn (.int .i64 sym) (.pointer (some ⟨p6, 0, none⟩)) (.pointer (some ⟨pf, 0, none⟩)) (.pointer (some ⟨pc, 0, none⟩)) (.int .i64 left) (.bool (((x : Nat) : Int) == 3)) w') :
 It kn (.int .i64 sym) (.pointer (some ⟨p6, 0, none⟩)) (.pointer (some ⟨pf, 0, none⟩)) (.int .u64 x) (.pointer (some ⟨pc, 0, none⟩)) (.int .i64 left) w := by
 unfold It RP Rj RI Ql
 refine cU.rule (fun m (t : aNk) w' => ∃ (i : Nat) (v' : aNk), m = x - i /\ t = .int .i64 i /\ i <= x /\ RdS w' p6 pf pc log st bv L (ps ++ List.replicate i 0) v' /\ aW w w' (fun y => pc <= y)) x
  ⟨0, v, rfl, rfl, by omega, by simpa using h, aW.refl _ _⟩ ?_
 rintro m t w1 ⟨i, v', rfl, rfl, hi, h1, x1⟩
 unfold I0
 by_cases hlt : i < x
 .have d1 : decide ((i : Int) < (x : Int)) = true := by simp; omega
  have c1 := h1.oc.cell (off := 1)
  simp only [aKM, aKN] at c1
  simp (disch := omega) only [aD, bX, aP, aN, aKP, bN, aA, dR, aU, d1, c1, aH, aG]
  refine aGV h1 0 (by simp; omega) fun w2 v2 h2 x2 => ?_
  refine ⟨x - (i + 1), by omega, i + 1, v2, rfl, rfl, by omega, ?_, x1.seq x2⟩
  rw [aLj, <- aMI] at h2
  exact h2
 .have d1 : decide ((i : Int) < (x : Int)) = false := by simp; omega
  obtain rfl : i = x := by omega
  unfold IF
  simp (disch := omega) only [aD, bX, aP, aN, aKP, bN, aA, dR, dU, aU, d1, aE]
  exact hK _ _ h1 x1
theorem aB3 {w0 w : aNj} {p6 pf pc log st sym left x : Nat} {bv : aNk} {L : List Bool} {ps : List Int} {v : aNk} (h : RdS w p6 pf pc log st bv L ps v) (hl : ps.length <= 1000001) (hL : L.length <= 8000000) (hst : st <= L.length) (hx : aW w0 w eU) (hp : w0.heap.size <= p6) (hsym : sym <= 1000000)
 {kn : aNk -> aNk -> aNk -> aNk -> aNk -> aNj -> Prop} {RR : aNk -> aNj -> Prop}
 (hE : ∀ w', Qv L x st = none -> aW w0 w' eU -> RR (.tuple #[.agg #[.int .i64 0, .slice none 0 0], .int .i64 0, .int .i64 10]) w')
 (hB : ∀ k st2 w', Qv L x st = some (k, st2) -> sym < ps.length + k -> aW w0 w' eU -> RR (.tuple #[.agg #[.int .i64 0, .slice none 0 0], .int .i64 0, .int .i64 11]) w')
 (hK : ∀ k st2 w' v', Qv L x st = some (k, st2) -> ¬ sym < ps.length + k -> RdS w' p6 pf pc log st2 bv L (ps ++ List.replicate k 0) v' -> aW w0 w' eU -> kn (.int .i64 sym) (.pointer (some ⟨p6, 0, none⟩)) (.pointer (some ⟨pf, 0, none⟩)) (.pointer (some ⟨pc, 0, none⟩)) (.int .i64 left) w') :
 Bb kn RR (.int .i64 sym) (.pointer (some ⟨p6, 0, none⟩)) (.pointer (some ⟨pf, 0, none⟩)) (.pointer (some ⟨pc, 0, none⟩)) (.int .i64 left) (.int .i64 x) w := by
 have h6 := h.h6
 have hf := h.hf
 unfold Bb NS
 simp (disch := omega) only [aD, dU, aA]
 unfold NB Pj OR
 refine cU.rule (fun m (t : aNk) w' => ∃ (k0 st' : Nat) (bt : Bool) (v' : aNk), t = .bool bt /\ RdS w' p6 pf pc log st' bv L (ps ++ List.replicate k0 0) v' /\ aW w0 w' eU /\ st' <= L.length /\ k0 <= 3 * st' /\
  (bt = true -> Qv L x st = (match noR L m st' with | none => none | some (k, s) => some (k0 + k, s)) /\ L.length < 2 * m + st') /\ (bt = false -> Qv L x st = some (k0, st'))) (L.length + 1)
  ⟨0, st, _, v, rfl, by simpa using h, hx, hst, by omega, ?_, ?_⟩ ?_
 .intro hb
  have hx1 : x = 1 := by simp at hb; omega
  subst hx1
  refine ⟨?_, by omega⟩
  unfold Qv
  rw [if_pos rfl]
  cases noR L (L.length + 1) st with
  | none => rfl
  | some y => simp
 .intro hb
  have hx1 : x ≠ 1 := by
   intro h; subst h; simp at hb
  unfold Qv
  rw [if_neg hx1]
 rintro m t w1 ⟨k0, st', bt, v', rfl, h1, x1, hst', hk0, ht, hfa⟩
 unfold Gn Ok
 cases bt with
 | false =>
   have hb := hfa rfl
   obtain ⟨av, cv, hv⟩ := h1.os.len
   have c1 := h1.oc.cell (off := 1)
   subst hv
   simp only [aKM, aKN, aKV, aLJ] at c1
   have hlen : ((ps ++ List.replicate k0 0).length : Int) = ((ps.length + k0 : Nat) : Int) := by simp
   unfold Ir
   by_cases hgt : sym < ps.length + k0
   .have d1 : decide ((sym : Int) < ((ps.length + k0 : Nat) : Int)) = true := by simp only [decide_eq_true_eq]; omega
    simp (disch := omega) only [aD, aN, aKP, dK, aA, dR, c1, aH, gD, dH, d1, jI, bH, if_true, aG, cY, aE]
    exact aqH (RR := RR) (e := 11) h1.o6 x1 hp fun w' h => hB _ _ _ hb hgt h
   .have d1 : decide ((sym : Int) < ((ps.length + k0 : Nat) : Int)) = false := by simp only [decide_eq_false_iff_not]; omega
    have d2 : decide ((left : Int) < 0) = false := by simp
    simp (disch := omega) only [aD, aN, aKP, dK, aA, dR, c1, aH, gD, dH, d1, dG, bH, aKQ, if_false, bM, aU, d2, aE]
    exact hK _ _ _ _ hb hgt h1 x1
 | true =>
   obtain ⟨hb, hm⟩ := ht rfl
   obtain ⟨m, rfl⟩ : ∃ m', m = m' + 1 := ⟨m - 1, by omega⟩
   rw [aCj] at hb
   have lf := jH (off := 0) h1.of (by simp)
   simp only [aKU, aKT, aKX] at lf
   unfold OF VT O4
   simp (disch := omega) only [aD, lf, dK, aA, aG]
   refine (Xz (n := 2) h1.bl (by omega) hst' (by omega)).mono ?_
   rintro r w2 ⟨⟨hsh, rfl⟩ | ⟨hsh, rfl⟩, x2⟩
   .have n1 : ((10 : Int) != 0) = true := rfl
    rw [if_pos (by omega)] at hb
    obtain ⟨bn, bc, hbv, _⟩ := Gz h1.bl
    simp (disch := omega) only [Yb, Ya, YH, aA, dC]
    refine eY (h1.ext x2).of rfl (by subst hbv; simp [one]) (by simp) fun w3 o3 x3 s3 => ?_
    simp (disch := omega) only [n1, aG]
    exact aqH (RR := RR) (e := 10) ((h1.ext x2).o6.ext x3 (by omega)) ((x1.seq x2).new x3 (by omega)) hp fun w' h => hE _ hb h
   .have n1 : ((0 : Int) != 0) = false := rfl
    rw [if_neg (by omega)] at hb
    obtain ⟨bn, bc, hbv, _⟩ := Gz h1.bl
    have hlt := FW L st' 2
    simp (disch := omega) only [Yb, Ya, YH, aA, dC]
    refine eY (h1.ext x2).of rfl (by subst hbv; simp [one]) (by simp) fun w3 o3 x3 s3 => ?_
    simp only [bK, aKS, aKR] at o3
    have h3 := (h1.ext x2).setF x3 o3
    have x03 : aW w0 w3 eU := (x1.seq x2).new x3 (by omega)
    have z03 := x03.size
    simp (disch := omega) only [n1, aE]
    refine aFP h3 (by omega) (by simp; omega) fun w4 v4 h4 x4 => ?_
    have hpc := h3.hf
    have x04 : aW w0 w4 eU := x03.trans x4 fun b hb h => by omega
    rw [aLj, List.replicate_append_replicate] at h4
    refine ⟨m, by omega, k0 + pX L st' 2, st' + 2, _, v4, rfl, h4, x04, hsh, by omega, ?_, ?_⟩
    .intro hq
     have h3' : pX L st' 2 = 3 := by simp at hq; omega
     rw [if_neg (by omega)] at hb
     refine ⟨?_, by omega⟩
     rw [hb, h3']
     cases noR L m (st' + 2) with
     | none => rfl
     | some y =>
       obtain ⟨k, s⟩ := y
       simp; omega
    .intro hq
     have h3' : pX L st' 2 ≠ 3 := by
      intro h; rw [h] at hq; simp at hq
     rw [if_pos (by omega)] at hb
     exact hb
theorem aBH {log p6 pf pc sym : Nat} {w0 w : aNj} {bv v : aNk} {L : List Bool} {res : Except Int (List Int × Nat)} (hlp : w0.heap.size <= p6) (hl : L.length <= 8000000) (hsym : sym <= 1000000) (hlog : log <= 15)
 (h : RdS w p6 pf pc log 4 bv L [] v) (h4 : 4 <= L.length) (hx : aW w0 w eU)
 (hres : rdC L sym (L.length + 1) 4 (2 ^ log) [] = res)
 {RR : aNk -> aNj -> Prop} (hE : ∀ e w', res = .error e -> aW w0 w' eU -> RR (.tuple #[.agg #[.int .i64 0, .slice none 0 0], .int .i64 0, .int .i64 e]) w')
 (hO : ∀ ps st v w', res = .ok (ps, st) -> sM w' w0.heap.size 1 v ps.length (ps.map (Value.int .i64)) -> aW w0 w' eU -> RR (.tuple #[.agg #[.int .i64 log, v], .int .i64 (((st + 7) / 8 : Nat)), .int .i64 0]) w') :
 FF RR (.int .i64 sym) (.pointer (some ⟨p6, 0, none⟩)) (.pointer (some ⟨pf, 0, none⟩)) (.pointer (some ⟨pc, 0, none⟩)) (.int .i64 (2 ^ log : Nat)) w := by
 have hp15 : 2 ^ log <= 2 ^ 15 := aKY (by omega) hlog
 have h6 := h.h6
 have hf := h.hf
 unfold FF OK OS
 refine cU.rule (fun m (t : aNk) w' => ∃ (st left : Nat) (ps : List Int) (v : aNk), t = .int .i64 left /\ rdC L sym m st left ps = res /\ L.length < m + st /\ st <= L.length /\ left <= 32768 /\ ps.length <= 1000000 /\
  RdS w' p6 pf pc log st bv L ps v /\ aW w0 w' eU) (L.length + 1)
  ⟨4, 2 ^ log, [], v, rfl, hres, by omega, h4, by omega, by simp, h, hx⟩ ?_
 rintro m t w1 ⟨st, left, ps, v, rfl, hr, hm, hst, hleft, hpl, h1, x1⟩
 have hx0 := x1.size
 obtain ⟨m, rfl⟩ : ∃ m', m = m' + 1 := ⟨m - 1, by omega⟩
 obtain ⟨bn, bc, hbv, _⟩ := Gz h1.bl
 unfold FY ME
 by_cases h0 : left = 0
 .have d1 : decide ((0 : Int) < (left : Int)) = false := by simp; omega
  rw [avB, if_pos h0] at hr
  obtain ⟨av, cv, hv⟩ := h1.os.len
  subst hv hbv
  have lc := pW (off := 0) (jW h1.oc) (by simp)
  have lc' := pW (off := 0) h1.oc (by simp)
  have lf := jH (off := 0) (jW h1.of) (by simp)
  have lf' := jH (off := 0) h1.of (by simp)
  simp only [aKU, aKT, aKX] at lc lc' lf lf'
  unfold IM
  simp (disch := omega) only [aD, dH, d1, jF, and_true, true_and, aA, lc, lf, aE]
  refine (aE5 (by omega)).mono ?_
  rintro r w2 ⟨rfl, x2⟩
  have x12 : aW w1 w2 eU := (aW.dr w1 eU).seq x2
  have h2 := h1.ext x12
  have lc2 := pW (off := 0) h2.oc (by simp)
  simp only [aKU, aKT, aKX] at lc2
  simp (disch := omega) only [lc2, true_and]
  refine rY h2.o6 rfl (by simp [one]) (by simp) fun w6 o6 x6 s6 => ?_
  refine GY o6 (by simp [bK]) ?_
  simp only [bK, aKS, aKR, aKU, aKT, aKX]
  have ov6 := h2.os.ext x6 (fun b hb h => by omega)
  refine hO ps st _ w6 hr.symm ⟨ov6.1, ?_⟩ ((x1.seq x12).new x6 (by omega))
  rcases ov6.2 with h | ⟨b, c, rest, q1, q2, q3⟩
  .exact .inl h
  .exact .inr ⟨b, c, rest, q1, by omega, q3⟩
 .have d1 : decide ((0 : Int) < (left : Int)) = true := by simp; omega
  rw [aH9 h0] at hr
  have lf := jH (off := 0) h1.of (by simp)
  simp only [aKU, aKT, aKX] at lf
  unfold MB WH Od
  simp (disch := omega) only [aD, dH, d1, dK, aA, aN, aKP, fE, aP, dR, lf, aG]
  refine (aFH h1.bl hst (by omega) (by omega) hleft).mono ?_
  rintro r w2 ⟨hv2, x2⟩
  have h2 := h1.ext x2
  cases hval : afP L st left with
  | none =>
    rw [hval] at hr hv2
    obtain ⟨st', rfl⟩ := hv2
    have n1 : ((10 : Int) != 0) = true := rfl
    simp (disch := omega) only [Yb, Ya, YH, aA, dC, fE, aP, dU]
    refine eY h2.of rfl (by subst hbv; simp [one]) (by simp) fun w3 o3 x3 s3 => ?_
    simp (disch := omega) only [n1, aG]
    exact aqH (RR := RR) (e := 10) (h2.o6.ext x3 (by omega)) ((x1.seq x2).new x3 (by omega)) hlp fun w' h => hE _ _ hr.symm h
  | some y =>
    obtain ⟨x, st1⟩ := y
    rw [hval] at hr hv2
    simp only at hr
    obtain rfl := hv2
    obtain ⟨b1, b2, b3⟩ := auV hval (by omega)
    have n1 : ((0 : Int) != 0) = false := rfl
    simp (disch := omega) only [Yb, Ya, YH, aA, dC, fE, aP, dU]
    refine eY h2.of rfl (by subst hbv; simp [one]) (by simp) fun w3 o3 x3 s3 => ?_
    simp only [bK, aKS, aKR] at o3
    have h3 := h2.setF x3 o3
    have x03 : aW w0 w3 eU := (x1.seq x2).new x3 (by omega)
    have c3 := h3.oc.cell (off := 1)
    simp only [aKM, aKN] at c3
    simp (disch := omega) only [n1, c3, aH, aA, aE]
    refine aGV h3 ((x : Int) - 1) (by omega) fun w4 v4 h4 x4 => ?_
    have z03 := x03.size
    have hpc := h3.hf
    have x04 : aW w0 w4 eU := x03.trans x4 fun b hb h => by omega
    have hpn := sL (p := (x : Int) - 1) (by omega)
    have hfin : ∀ (left' : Nat), left' = left - (iR ((x : Int) - 1)).toNat -> Bb (fun _ _ _ _ aX w'' => ∃ m', m' < m + 1 /\ ∃ (st left : Nat) (ps : List Int) (v : aNk), aX = .int .i64 left /\ rdC L sym m' st left ps = res /\ L.length < m' + st /\ st <= L.length /\ left <= 32768 /\ ps.length <= 1000000 /\
        RdS w'' p6 pf pc log st bv L ps v /\ aW w0 w'' eU) RR (.int .i64 sym) (.pointer (some ⟨p6, 0, none⟩)) (.pointer (some ⟨pf, 0, none⟩)) (.pointer (some ⟨pc, 0, none⟩)) (.int .i64 left') (.int .i64 x) w4 := by
     intro left' hl'
     have hlen1 : (ps ++ [(x : Int) - 1]).length = ps.length + 1 := by simp
     refine aB3 (left := left') h4 (by omega) hl b2 x04 hlp hsym ?_ ?_ ?_
     .intro w' hbe hx
      rw [hbe] at hr
      exact hE _ _ hr.symm hx
     .intro k st2 w' hbe hgt hx
      rw [hbe] at hr
      simp only at hr
      rw [if_pos (by omega)] at hr
      exact hE _ _ hr.symm hx
     .intro k st2 w' v' hbe hgt h5 hx
      rw [hbe] at hr
      simp only at hr
      rw [if_neg (by omega), <- hl'] at hr
      have hb2 : st1 <= st2 /\ st2 <= L.length := by
       unfold Qv at hbe
       split at hbe
       .obtain ⟨q1, q2, _⟩ := aBE hbe; omega
       .obtain ⟨rfl, rfl⟩ := aMA (aLf hbe); omega
      rw [aLj, List.singleton_append] at h5
      exact ⟨m, by omega, st2, left', _, v', rfl, hr, by omega, hb2.2, by omega, by simp; omega, h5, hx⟩
    by_cases hx0 : x = 0
    .subst hx0
     have n2 : (((0 : Nat) : Int) == 0) = true := rfl
     have e1 : (left : Int) - 1 = ((left - 1 : Nat) : Int) := by omega
     simp (disch := omega) only [n2, e1, aG]
     exact hfin _ rfl
    .have n2 : ((x : Int) == 0) = false := beq_eq_false_iff_ne.2 (by omega)
     have e0 : (x : Int) - 1 = ((x - 1 : Nat) : Int) := by omega
     have e1 : (left : Int) - ((x : Int) - 1) = ((left - (x - 1) : Nat) : Int) := by omega
     simp (disch := omega) only [n2, e1, aE]
     refine hfin _ ?_
     unfold iR
     rw [if_neg (by omega), e0, aKO]
theorem aDV {s : ByteArray} {most : Int} {sym : Nat} {w : aNj} (hl : s.size <= 1000000) (hsym : sym <= 1000000) :
 aS pg Mj #[.string s, .int .i64 most, .int .i64 sym] w (fun r w' => aeJ w' w.heap.size (Cv (aZ (gA s)) most sym) r /\ aW w w' eU) := by
 refine auK ?_
 obtain ⟨RR, hRR⟩ : ∃ RR : aNk -> aNj -> Prop, RR = fun r w' => aeJ w' w.heap.size (Cv (aZ (gA s)) most sym) r /\ aW w w' eU := ⟨_, rfl⟩
 rw [<- hRR]
 have hll := gR s
 have hbl := lW (gA s)
 unfold awW Nz NV
 refine wF fun w1 o1 x1 s1 => ?_
 refine (awI hl).mono ?_
 rintro r w2 ⟨ob2, x2⟩
 have hbl2 : Bl w2 r (aZ (gA s)) := ob2.sl
 have hat := sM.atI ob2
 obtain ⟨bn, bc, rfl, _⟩ := Gz hbl2
 have z1 := x1.size
 have z2 := x2.size
 simp (disch := omega) only [aD, fD, dK, aA]
 refine Bu fun w3 o3 x3 s3 => ?_
 refine eY o3 rfl (by simp [one]) (by simp) fun w4 o4 x4 s4 => ?_
 simp only [bK, aKS, aKR] at o4
 have z3 := x3.size
 have z4 := x4.size
 have x24 : aW w2 w4 eU := x3.new x4 (by omega)
 have lf := jH (off := 0) o4 (by simp)
 simp only [aKU, aKT, aKX] at lf
 have hbl4 := hbl2.ext x24 (bZ _)
 have e0 : (0 : Int) = ((0 : Nat) : Int) := rfl
 rw [e0] at lf
 simp (disch := omega) only [lf, aA]
 refine (Xz (st := 0) (n := 4) hbl4 (by omega) (by omega) (by omega)).mono ?_
 rintro r w5 ⟨⟨hsh, rfl⟩ | ⟨hsh, rfl⟩, x5⟩
 .have n1 : ((10 : Int) != 0) = true := rfl
  have hrl : Cv (aZ (gA s)) most sym = .error 10 := by unfold Cv; rw [if_pos (by omega)]
  rw [hrl] at hRR
  simp (disch := omega) only [Yb, Ya, YH, aA, dC, bX, aP, bN, eE]
  refine eY (o4.ext x5 (fun h => h)) rfl (by simp [one]) (by simp) fun w6 o6 x6 s6 => ?_
  simp (disch := omega) only [n1, aG]
  exact aqH (RR := RR) (e := 10) ((((o1.ext x2 (fun h => h)).ext x24 (fun h => h)).ext x5 (fun h => h)).ext x6 (by omega)) ((((x1.seq x2).seq x24).seq x5).new x6 (by omega)) (aK1 _) fun w' h => by rw [hRR]; exact ⟨rfl, h⟩
 .have n1 : ((0 : Int) != 0) = false := rfl
  have hlt := FW (aZ (gA s)) 0 4
  have hrl : Cv (aZ (gA s)) most sym = (if most < ((pX (aZ (gA s)) 0 4 + 5 : Nat) : Int) ∨ 15 < pX (aZ (gA s)) 0 4 + 5 then .error 12 else match rdC (aZ (gA s)) sym ((aZ (gA s)).length + 1) 4 (2 ^ (pX (aZ (gA s)) 0 4 + 5)) [] with
   | .error e => .error e
   | .ok (ps, st) => .ok (pX (aZ (gA s)) 0 4 + 5, ps, (st + 7) / 8)) := by unfold Cv; rw [if_neg (by omega)] <;> rfl
  rw [hrl] at hRR
  generalize pX (aZ (gA s)) 0 4 = x at *
  have e1 : (x : Int) + 5 = ((x + 5 : Nat) : Int) := by omega
  have z5 := x5.size
  simp (disch := omega) only [aKP, Yb, Ya, YH, aA, dC, bX, aP, bN, eE]
  refine eY (o4.ext x5 (fun h => h)) rfl (by simp [one]) (by simp) fun w6 o6 x6 s6 => ?_
  simp only [bK, aKS, aKR] at o6
  have z6 := x6.size
  have x06 : aW w w6 eU := (((x1.seq x2).seq x24).seq x5).new x6 (by omega)
  have o16 := ((((o1.ext x2 (fun h => h)).ext x24 (fun h => h)).ext x5 (fun h => h)).ext x6 (by omega))
  have hbl6 : Bl w6 _ _ := (hbl4.ext x5 (bZ _)).ext x6 (hat _ fun b hb hh => by omega)
  simp (disch := omega) only [n1, e1, aE]
  refine wF fun w7 o7 x7 s7 => ?_
  refine rY o7 rfl (by simp [one]) (by simp) fun w8 o8 x8 s8 => ?_
  simp only [bK, aKS, aKR] at o8
  have x68 : aW w6 w8 eU := x7.new x8 (by omega)
  have x08 : aW w w8 eU := x06.seq x68
  have o18 := o16.ext x68 (fun h => h)
  have c8 := o8.cell (off := 0)
  simp only [aKM, aKN] at c8
  by_cases hmo : most < ((x + 5 : Nat) : Int)
  .have d1 : decide (most < ((x + 5 : Nat) : Int)) = true := by simpa using hmo
   rw [if_pos (.inl hmo)] at hRR
   simp (disch := omega) only [bB, aA, bO, c8, aH, dH, d1, jI, bH, if_true, aG, cY]
   exact aqH (RR := RR) (e := 12) o18 x08 (aK1 _) fun w' h => by rw [hRR]; exact ⟨rfl, h⟩
  have d1 : decide (most < ((x + 5 : Nat) : Int)) = false := by simpa using hmo
  by_cases h15 : 15 < x + 5
  .have d2 : decide ((15 : Int) < ((x + 5 : Nat) : Int)) = true := by simp; omega
   rw [if_pos (.inr h15)] at hRR
   simp (disch := omega) only [bB, aA, bO, c8, aH, dH, d1, dG, bH, aKQ, if_false, bM, d2, aG]
   exact aqH (RR := RR) (e := 12) o18 x08 (aK1 _) fun w' h => by rw [hRR]; exact ⟨rfl, h⟩
  have d2 : decide ((15 : Int) < ((x + 5 : Nat) : Int)) = false := by simp; omega
  rw [if_neg (by omega)] at hRR
  simp (disch := omega) only [bB, aA, bO, c8, aH, dH, d1, dG, bH, aKQ, if_false, bM, d2, aE]
  refine (IP (x + 5) (by omega) _).mono ?_
  rintro r w9 ⟨rfl, rfl⟩
  have hpow : ((2 ^ (x + 5) : Nat) : Int) = (2 : Int) ^ (x + 5) := by simp
  rw [<- hpow]
  have hS : RdS w9 w.heap.size w2.heap.size w6.heap.size (x + 5) 4 (.slice bn (aZ (gA s)).length bc) (aZ (gA s)) [] (.slice none 0 0) :=
   ⟨o18, o6.ext x68 (fun h => h), o8, sM.nil _ _ _, hbl6.ext x68 (bZ _), fun M hM => hat M fun b _ hb => hM b (by omega) (by omega), by omega, by omega⟩
  refine aBH (w0 := w) (res := rdC (aZ (gA s)) sym ((aZ (gA s)).length + 1) 4 (2 ^ (x + 5)) []) (aK1 _) (by omega) hsym (by omega) hS (by omega) x08 rfl ?_ ?_
  .intro e w' he hx
   rw [hRR, he]
   exact ⟨rfl, hx⟩
  .intro ps st v w' he ho hx
   rw [hRR, he]
   exact ⟨⟨v, rfl, ho⟩, hx⟩
end Go.Proofs.YtgpimhlgaokobaaGreat
namespace Go.Pu
open Go Go.En
theorem axS {L : List Bool} {most : Int} {sym log used : Nat} {ps : List Int} (h : Cv L most sym = .ok (log, ps, used)) : (ps.length <= 256 -> May log ps) /\ (log : Int) <= most /\ ps.length <= sym := by
 unfold Cv at h
 split at h
 .cases h
 .simp only at h
  split at h
  .cases h
  .rename_i h1 h2
   have hpow : ((2 ^ (pX L 0 4 + 5) : Nat) : Int) = (2 : Int) ^ (pX L 0 4 + 5) := by simp
   have hp := aLh (pX L 0 4 + 5)
   cases hr : rdC L sym (L.length + 1) 4 (2 ^ (pX L 0 4 + 5)) [] with
   | error e => rw [hr] at h; cases h
   | ok x =>
     obtain ⟨p, st⟩ := x
     rw [hr] at h
     cases h
     have e0 : Fi [] = 0 := rfl
     obtain ⟨q1, q2, q3, q4, q5⟩ := aqF (tot := (2 : Int) ^ (pX L 0 4 + 5)) hr (by simp) (by rw [e0, hpow]; omega) (fun h => by omega)
     exact ⟨fun hs => ⟨by omega, by omega, q5, hs, q4, q1, q2⟩, by omega, q3⟩
theorem aBI {L : List Bool} {sym : Nat} {e : Int} : ∀ {f st left : Nat} {ps : List Int}, rdC L sym f st left ps = .error e -> e = 10 ∨ e = 11
 | 0, st, left, ps, h => by cases h; exact .inl rfl
 | f + 1, st, left, ps, h => by
   rw [rdC] at h
   split at h
   .cases h
   .split at h
    .cases h; exact .inl rfl
    .split at h
     .split at h
      .cases h; exact .inl rfl
      .split at h
       .cases h; exact .inr rfl
       .exact aBI h
     .split at h
      .cases h; exact .inr rfl
      .exact aBI h
theorem alM {L : List Bool} {most : Int} {sym : Nat} {e : Int} (h : Cv L most sym = .error e) : e ≠ 0 := by
 unfold Cv at h
 split at h
 .cases h; decide
 .simp only at h
  split at h
  .cases h; decide
  .split at h
   .rename_i hr
    cases h
    rcases aBI hr with h | h <;> omega
   .cases h
theorem axZ {L : List Bool} {sym : Nat} {out : List Int} {stE : Nat} : ∀ {f st left : Nat} {ps : List Int}, rdC L sym f st left ps = .ok (out, stE) -> st <= L.length -> stE <= L.length
 | 0, st, left, ps, h, _ => by cases h
 | f + 1, st, left, ps, h, hst => by
   rw [rdC] at h
   split at h
   .cases h; exact hst
   .rename_i h0
    cases hv : afP L st left with
    | none => rw [hv] at h; cases h
    | some x =>
      obtain ⟨v, st1⟩ := x
      obtain ⟨v1, v2, v3⟩ := auV hv (by omega)
      rw [hv] at h
      simp only at h
      split at h
      .cases hn : noR L (L.length + 1) st1 with
       | none => rw [hn] at h; cases h
       | some y =>
         obtain ⟨k, st2⟩ := y
         rw [hn] at h
         simp only at h
         split at h
         .cases h
         .exact axZ h (aBE hn).2.1
      .split at h
       .cases h
       .exact axZ h v2
theorem axK {L : List Bool} {most : Int} {sym log used : Nat} {ps : List Int} (h : Cv L most sym = .ok (log, ps, used)) : 8 * used <= L.length + 7 := by
 unfold Cv at h
 split at h
 .cases h
 .simp only at h
  split at h
  .cases h
  .cases hr : rdC L sym (L.length + 1) 4 (2 ^ (pX L 0 4 + 5)) [] with
   | error e => rw [hr] at h; cases h
   | ok x =>
     obtain ⟨p, st⟩ := x
     rw [hr] at h
     cases h
     have := axZ hr (by omega)
     omega
def WV (b : List Nat) (i : Nat) : Nat := if i % 2 = 0 then b.getD (i / 2) 0 / 16 else b.getD (i / 2) 0 % 16
def mP (b : List Nat) (n : Nat) : List Nat := (List.range n).map (WV b)
theorem A9 (b : List Nat) (n : Nat) : (mP b n).length = n := by simp [mP]
theorem agV (b : List Nat) (n : Nat) : mP b (n + 1) = mP b n ++ [WV b n] := by
 unfold mP; rw [aM3, aLe] <;> rfl
theorem aB9 {b : List Nat} (h : ∀ x ∈ b, x < 256) (i : Nat) : WV b i < 16 := by
 unfold WV
 have : b.getD (i / 2) 0 < 256 := by
  rcases aK9 (i / 2) b.length with hi | hi
  .exact h _ (tN hi)
  .rw [aK0, aK3 hi]; decide
 split <;> omega
theorem ZV {b : List Nat} (h : ∀ x ∈ b, x < 256) (n : Nat) : ∀ x ∈ mP b n, x < 16 := fun x hx => by
 obtain ⟨i, _, rfl⟩ := aLZ.1 hx
 exact aB9 h i
def Ca (m : List Nat) : List Nat := (List.range ((m.length + 1) / 2)).map fun j => m.getD (2 * j) 0 * 16 + m.getD (2 * j + 1) 0
theorem BZ (m : List Nat) : (Ca m).length = (m.length + 1) / 2 := by simp [Ca]
theorem anA {m : List Nat} {j : Nat} (h : j < (m.length + 1) / 2) : (Ca m).getD j 0 = m.getD (2 * j) 0 * 16 + m.getD (2 * j + 1) 0 := by
 rw [aK0]
 unfold Ca
 rw [aLl, aLQ h] <;> rfl
theorem akK {m : List Nat} (h : ∀ x ∈ m, x < 16) (i : Nat) : m.getD i 0 < 16 := by
 rcases aK9 i m.length with hi | hi
 .exact h _ (tN hi)
 .rw [aK0, aK3 hi]; decide
theorem aCN {m : List Nat} (h : ∀ x ∈ m, x < 16) : mP (Ca m) m.length = m := by
 apply aLY
 intro i
 rcases aK9 i m.length with hi | hi
 .unfold mP
  rw [aLl, aLQ hi]
  have hp := anA (m := m) (j := i / 2) (by omega)
  have e : m[i]? = some (m.getD i 0) := by rw [aK0, aKW hi] <;> rfl
  rw [e]
  simp only [aLC, Option.some.injEq]
  unfold WV
  rw [hp]
  have h1 := akK h (2 * (i / 2))
  have h2 := akK h (2 * (i / 2) + 1)
  split
  .rw [show 2 * (i / 2) = i from by omega] at *; omega
  .rw [show 2 * (i / 2) + 1 = i from by omega] at *; omega
 .rw [aK3 (by rw [A9]; exact hi), aK3 hi]
theorem axG {m : List Nat} {k d : Nat} (h : jD (m ++ [k]) = d) (hd : d ≠ 0) : tJ m = some k := by
 obtain ⟨h1, h2, h3, h4, h5, h6⟩ := yA h hd
 rw [aMX] at h5
 have hk0 : k ≠ 0 := fun e => h5 (by rw [e])
 have hkd : k <= d := h1 k (by simp)
 rw [CA, pB] at h6
 have e0 : dV [] = 0 := rfl
 have ek : FQ k = 2 ^ (k - 1) := by unfold FQ; rw [if_neg hk0]
 rw [e0, ek] at h6
 have hp : 2 ^ (k - 1) <= 2 ^ (d - 1) := aKY (by omega) (by omega)
 obtain ⟨e, rfl⟩ : ∃ e, d = e + 1 := ⟨d - 1, by omega⟩
 rw [aLO] at hp
 have hpe : 2 ^ (e + 1) = 2 ^ e + 2 ^ e := by rw [aLr]; omega
 have hpk := aLh (k - 1)
 have hpe0 := aLh e
 have hbl : bl (dV m) = e + 1 := aG9 (by omega) (by omega)
 have hleft : 2 ^ (e + 1) - dV m = 2 ^ (k - 1) := by omega
 unfold tJ
 rw [hbl, hleft, aMW, if_pos]
 .congr 1; omega
 .simp at h3 h4
  exact ⟨rJ.2 fun w hw => aLT (h1 w (aL2 _ hw)) h2, by omega, by omega, by omega, h2, rfl⟩
end Go.Pu
namespace Go.Proofs.YtgpimhlgaokobaaGreat
open Go Go.En Go.Pu
set_option maxRecDepth 4000
abbrev nR (m : List Nat) : List UInt8 := m.map UInt8.ofNat
theorem Xy {m : List Nat} (h : ∀ x ∈ m, x < 256) : cF (nR m) = m := by
 unfold cF nR
 rw [aNh]
 conv => rhs; rw [<- List.map_id m]
 apply aLs
 intro x hx
 show (UInt8.ofNat x).toNat = x
 exact aMb (h x hx)
theorem avT {x : Nat} (h : x < 256) : vC (UInt8.ofNat x) = .int .u8 (x : Nat) := by
 unfold vC; rw [aMb h]
theorem aAw (l : List UInt8) : nR (cF l) = l := by
 unfold nR cF
 rw [aNh]
 conv => rhs; rw [<- List.map_id l]
 apply aLs
 intro x _
 show UInt8.ofNat x.toNat = x
 simp
theorem aJ3 {x : Nat} (h : x < 256) : UD .u8 (x : Int) 15 = ((x % 16 : Nat) : Int) := by
 have : ∀ k : Fin 256, UD .u8 (k.val : Int) 15 = ((k.val % 16 : Nat) : Int) := by decide +kernel
 exact this ⟨x, h⟩
theorem arA {base i c : Nat} {bv t15 t16 v' : aNk} {cells : List aNk} {w : aNj} (o : sM w base 1 v' i cells) (hb : base <= w.heap.size) (hi : i <= 100000) (hc : c < 256) {kn : aNk -> aNk -> aNk -> aNk -> aNj -> Prop}
 (hK : ∀ v2 w2, sM w2 base 1 v2 (i + 1) (cells ++ [.int .u8 (c % 16 : Nat)]) -> aW w w2 (fun y => base <= y) -> kn bv v2 t15 t16 w2) : wM kn bv v' (.int .u8 c) t15 t16 w := by
 unfold wM
 have e6 := aJ3 (x := c) hc
 obtain ⟨av, cv, rfl⟩ := o.len
 simp (disch := omega) only [aD, xA, e6, aA]
 refine oZ (cells := #[.int .u8 (c % 16 : Nat)]) (by decide) (by decide) (by kernel_rfl) fun w5 o5 x5 s5 => ?_
 have z5 := x5.size
 refine mF (m := 1) (news := [.int .u8 (c % 16 : Nat)]) (o.ext x5 (fun _ _ h => h)) (o5.cl (off := 0) (l := [.int .u8 (c % 16 : Nat)]) (n := 1) rfl (fun i hi => by rw [aKP])) (by simp [one]) (by omega) (by omega) fun v6 w6 o6 x6 => ?_
 exact hK v6 w6 o6 ((x5.mono fun _ _ h => h.elim).seq x6)
theorem aGZ {v : aNk} {l : List UInt8} {n : Nat} {w : aNj} (h : Bs w v l) (hl : l.length <= 100000) (hn : n <= 100000) :
 aS pg B8 #[v, .int .i64 n] w (fun r w' => ((l.length < (n + 1) / 2 /\ r = .tuple #[.slice none 0 0, .int .i64 10]) ∨
  ((n + 1) / 2 <= l.length /\ ∃ v', r = .tuple #[v', .int .i64 0] /\ sM w' w.heap.size 1 v' n ((nR (mP (cF l) n)).map vC))) /\ aW w w' eU) := by
 refine Yw ?_
 obtain ⟨a, n', c, rfl, hn', hc, hh⟩ := id h
 rw [aKZ] at hn'
 subst hn'
 have e1 : (n : Int) + 1 = ((n + 1 : Nat) : Int) := by omega
 have e2 : ((n + 1 : Nat) : Int).tdiv 2 = (((n + 1) / 2 : Nat) : Int) := by rw [aK6 (by omega)]; omega
 unfold VZ D3 Dw
 by_cases hsh : l.length < (n + 1) / 2
 .have d1 : decide ((l.length : Int) < (((n + 1) / 2 : Nat) : Int)) = true := by simp only [decide_eq_true_eq]; omega
  simp (disch := omega) only [aD, aV, bN, e1, aP, and_true, aA, oP, e2, aU, d1, aG]
  exact ⟨.inl hsh, aW.refl _ _⟩
 have d1 : decide ((l.length : Int) < (((n + 1) / 2 : Nat) : Int)) = false := by simp only [decide_eq_false_iff_not]; omega
 simp (disch := omega) only [aD, aV, bN, e1, aP, and_true, aA, oP, e2, aU, d1, aE]
 unfold DE DH D2 D5 DZ
 refine cU.rule (fun m (t : aNk × aNk) w' => ∃ (i : Nat) (v' : aNk), m = n - i /\ t = (v', .int .i64 i) /\ i <= n /\ sM w' w.heap.size 1 v' i ((nR (mP (cF l) i)).map vC) /\ aW w w' eU) n
  ⟨0, _, rfl, rfl, by omega, sM.nil _ _ _, aW.refl _ _⟩ ?_
 rintro m t w1 ⟨i, v', rfl, rfl, hi, o1, x1⟩
 unfold AS GB
 by_cases hlt : i < n
 .have d2 : decide ((i : Int) < (n : Int)) = true := by simp; omega
  obtain ⟨b, off, rfl, hcell⟩ := slA (h.ext x1 (bZ _)) (by omega)
  have e3 : (i : Int).tdiv 2 = ((i / 2 : Nat) : Int) := by rw [aK6 (by omega)]; omega
  have e4 : (i : Int).tmod 2 = ((i % 2 : Nat) : Int) := by rw [aLg (by omega)]; omega
  have hi2 : i / 2 < l.length := by omega
  have g1 := hcell (i / 2) hi2
  rw [aLl, aKW hi2] at g1
  simp only [aLC, vC] at g1
  have hgd := aCB hi2
  have hs := agV (cF l) i
  have hf : WV (cF l) i = if i % 2 = 0 then (cF l).getD (i / 2) 0 / 16 else (cF l).getD (i / 2) 0 % 16 := rfl
  rw [hgd] at hf
  have hx : (l[i / 2]).toNat < 256 := aLv _
  have hf16 := aB9 (P1 l) i
  generalize (l[i / 2]).toNat = x at *
  generalize WV (cF l) i = y at *
  have z1 := x1.size
  have hy : vC (UInt8.ofNat y) = .int .u8 (y : Nat) := avT (by omega)
  have hcells : ∀ c : Nat, c % 16 = y -> ((nR (mP (cF l) i)).map vC ++ [.int .u8 (c % 16 : Nat)]) = (nR (mP (cF l) (i + 1))).map vC := fun c hc => by
   rw [hs, hc]
   simp only [nR, aLe, aL0, aM7, hy]
  unfold GN GU Qa Gx
  by_cases hev : i % 2 = 0
  .have n2 : (((i % 2 : Nat) : Int) == 0) = true := by rw [hev] <;> rfl
   rw [if_pos hev] at hf
   have e5 : (x : Int).fdiv (2 ^ (min 4 IntKind.u8.bits)) = ((x / 16 : Nat) : Int) := by
    rw [show min 4 IntKind.u8.bits = 4 from rfl, aMn _ (by omega)]; omega
   have t4 : (4 : Int).toNat = 4 := rfl
   simp (disch := omega) only [aD, aU, d2, oP, e3, aP, rH, e4, aA, dU, n2, aG, dM, aKO, iH, g1, aH, sK, t4, e5]
   refine arA (c := x / 16) o1 (by omega) (by omega) (by omega) fun v2 w2 o2 x2 => ?_
   rw [hcells _ (by omega)] at o2
   unfold wS
   simp (disch := omega) only [aD, bN, aP, aA]
   exact ⟨n - (i + 1), by omega, i + 1, _, rfl, rfl, by omega, o2, x1.trans x2 fun b hb h => by omega⟩
  .have n2 : (((i % 2 : Nat) : Int) == 0) = false := beq_eq_false_iff_ne.2 (by omega)
   rw [if_neg hev] at hf
   simp (disch := omega) only [aD, aU, d2, oP, e3, aP, rH, e4, aA, dU, n2, aE, dM, aKO, iH, g1, aH, aG]
   refine arA (c := x) o1 (by omega) (by omega) (by omega) fun v2 w2 o2 x2 => ?_
   rw [hcells _ (by omega)] at o2
   unfold wS
   simp (disch := omega) only [aD, bN, aP, aA]
   exact ⟨n - (i + 1), by omega, i + 1, _, rfl, rfl, by omega, o2, x1.trans x2 fun b hb h => by omega⟩
 .have d2 : decide ((i : Int) < (n : Int)) = false := by simp; omega
  obtain rfl : i = n := by omega
  unfold AU
  simp (disch := omega) only [aD, aU, d2, aA, aE]
  exact ⟨.inr ⟨by omega, v', rfl, o1⟩, x1⟩
def Po (w : aNj) (base : Nat) (h : Nat) (rest : List UInt8) (r : aNk) : Prop :=
 if rest.length < (h - 127 + 1) / 2 then r = .tuple #[.slice none 0 0, .int .i64 0, .int .i64 10]
 else match tJ (mP (cF rest) (h - 127)) with
  | none => r = .tuple #[.slice none 0 0, .int .i64 0, .int .i64 11]
  | some k => ∃ v, r = .tuple #[v, .int .i64 (1 + (h - 127 + 1) / 2 : Nat), .int .i64 0] /\ sM w base 1 v (h - 127 + 1) ((nR (mP (cF rest) (h - 127)) ++ [UInt8.ofNat k]).map vC)
theorem aBk {v : aNk} {h : Nat} {rest : List UInt8} {l : List UInt8} {w : aNj} (hb : Bs w v l) (hle : l = UInt8.ofNat h :: rest) (hh : 128 <= h) (hh2 : h < 256) (hl : rest.length <= 10000) :
 aS pg Bv #[v] w (fun r w' => Po w' w.heap.size h rest r /\ aW w w' eU) := by
 refine Ff ?_
 obtain ⟨RR, hRR⟩ : ∃ RR : aNk -> aNj -> Prop, RR = fun r w' => Po w' w.heap.size h rest r /\ aW w w' eU := ⟨_, rfl⟩
 rw [<- hRR]
 have key : ∀ r w', Po w' w.heap.size h rest r -> aW w w' eU -> RR r w' := fun r w' h1 h2 => by rw [hRR]; exact ⟨h1, h2⟩
 have hll : l.length = rest.length + 1 := by rw [hle] <;> rfl
 obtain ⟨b, off, c, rfl, hc, hcell⟩ := OE hb (by omega)
 have g0 := hcell 0 (by omega)
 have hl0 : (l[0]'(by omega)).toNat = h := by
  subst hle
  exact aMb hh2
 rw [hl0] at g0
 have hsub := hb.drop' (k := 1) (by omega)
 rw [<- aMx] at hsub
 have hdr : l.drop 1 = rest := by rw [hle] <;> rfl
 rw [hdr, hll] at hsub
 have n0 : ((l.length : Int) == 0) = false := beq_eq_false_iff_ne.2 (by omega)
 have d1 : decide ((128 : Int) <= (h : Int)) = true := by simp; omega
 have e1 : (h : Int) - 128 = ((h - 128 : Nat) : Int) := by omega
 have e2 : ((h - 128 : Nat) : Int) + 2 = ((h - 126 : Nat) : Int) := by omega
 have e3 : ((h - 126 : Nat) : Int).tdiv 2 = (((h - 127 + 1) / 2 : Nat) : Int) := by rw [aK6 (by omega)]; omega
 have e4 : ((h - 128 : Nat) : Int) + 1 = ((h - 127 : Nat) : Int) := by omega
 have t0 : (0 : Int).toNat = 0 := rfl
 have t1 : (1 : Int).toNat = 1 := rfl
 unfold Mu Aa zT
 simp (disch := omega) only [aD, aV, dM, t0, eH, t1, aA, iH, dU, n0, g0, aH, dT, aP, nE, d1, fE, e1, bN, e4, e2, oP, e3, aU, aG, aE]
 rw [hll]
 refine (aGZ hsub (by omega) (by omega)).mono ?_
 rintro r w1 ⟨⟨hsh, rfl⟩ | ⟨hsh, v1, rfl, o1⟩, x1⟩
 .have n1 : ((10 : Int) != 0) = true := rfl
  unfold qD
  simp (disch := omega) only [pP, pR, aD, bN, aP, aA, dC, n1, aG]
  refine key _ _ ?_ x1
  unfold Po
  rw [if_pos hsh]
 .have n1 : ((0 : Int) != 0) = false := rfl
  have hlt : ∀ x ∈ mP (cF rest) (h - 127), x < 256 := fun x hx => by have := ZV (P1 rest) _ x hx; omega
  have hbs : Bs w1 v1 (nR (mP (cF rest) (h - 127))) := o1.sl
  have z1 := x1.size
  obtain ⟨av, cv, rfl⟩ := o1.len
  unfold qD
  simp (disch := omega) only [pP, pR, aD, bN, aP, aA, dC, n1, aE]
  refine (aEy hbs (by simp [A9]; omega)).mono ?_
  rintro r w2 ⟨hwo, x2⟩
  rw [Xy hlt] at hwo
  cases hw : tJ (mP (cF rest) (h - 127)) with
  | none =>
    rw [hw] at hwo
    obtain rfl := hwo
    have n2 : ((11 : Int) != 0) = true := rfl
    simp (disch := omega) only [pP, pR, aA, dC, n2, aG]
    refine key _ _ ?_ (x1.seq x2)
    unfold Po
    rw [if_neg (by omega), hw]
  | some k =>
    rw [hw] at hwo
    obtain ⟨v2, rfl, o2⟩ := hwo
    have e5 : (1 : Int) + (((h - 127 + 1) / 2 : Nat) : Int) = ((1 + (h - 127 + 1) / 2 : Nat) : Int) := by omega
    have hlen : (nR (mP (cF rest) (h - 127))).length = h - 127 := by simp [A9]
    rw [hlen] at o2
    simp (disch := omega) only [pP, pR, e5, aA, dC, n1, aE]
    refine key _ _ ?_ (x1.seq x2)
    unfold Po
    rw [if_neg (by omega), hw]
    refine ⟨v2, rfl, o2.1, ?_⟩
    rcases o2.2 with h | ⟨b, c, rest', q1, q2, q3⟩
    .exact .inl h
    .exact .inr ⟨b, c, rest', q1, by omega, q3⟩
def qQ (L : List T3) (s : Nat) : Nat := match L[s]? with | some e => e.1.toNat | none => 0
def stN (L : List T3) (B : List Bool) : Nat -> Nat -> Nat -> Nat -> List Nat -> Option (List Nat)
 | 0, _, _, _, _ => none
 | f + 1, a, b, left, out =>
   if left < kZ L a then (if 255 < out.length + 2 then none else some (out ++ [qQ L a, qQ L b]))
   else stN L B f b (uI L a (qF (B.take left) (kZ L a))).toNat (left - kZ L a) (out ++ [qQ L a])
structure Vld (L : List T3) : Prop where
 low : Low L
 sy : ∀ e ∈ L, 0 <= e.1 /\ e.1 < 256
 nx : ∀ s : Nat, s < L.length -> ∀ x : Nat, x < 2 ^ kZ L s -> 0 <= uI L s x /\ (uI L s x).toNat < L.length
 len : L.length <= 32768
theorem adR {log : Nat} {ps : List Int} (hm : May log ps) : Vld (wY log ps) := by
 have hl := wU log ps
 have h15 := hm.log15
 have hp : 2 ^ log <= 2 ^ 15 := aKY (by omega) h15
 refine ⟨aDR hm, aF1 hm, fun s hs x hx => ?_, by omega⟩
 rw [hl] at hs ⊢
 obtain ⟨sy, hsy, h1, h2, h3, h4, h5⟩ := avW hm (OQ hm 0) hs
 have hat := azV (ps := ps) hs
 have hb : kZ (wY log ps) s = log + 1 - bl (kAt ps (rF 0 log ps) s) := by
  unfold kZ
  rw [if_pos (by omega), aKO, hat]; simp [Ub, F8]
 have hn : uI (wY log ps) s x = ((kAt ps (rF 0 log ps) s * 2 ^ (log + 1 - bl (kAt ps (rF 0 log ps) s)) : Nat) : Int) - 2 ^ log + x := by
  unfold uI
  rw [if_pos (by omega), aKO, hat]; simp [Ub, F8]
 rw [hb] at hx
 rw [hn]
 have hk : kAt ps (rF 0 log ps) s < 2 ^ (log + 1) := by rw [h4, aLr]; omega
 have hk1 : 1 <= kAt ps (rF 0 log ps) s := by rw [h4]; omega
 obtain ⟨q1, q2, q3, q4⟩ := aBq hk1 hk
 generalize kAt ps (rF 0 log ps) s = k at *
 generalize log + 1 - bl k = n at *
 rw [aLD, aM0, aLr] at q2
 have hpow : ((2 ^ log : Nat) : Int) = (2 : Int) ^ log := by simp
 rw [<- hpow]
 generalize k * 2 ^ n = q at *
 generalize 2 ^ n = r at *
 generalize 2 ^ log = N at *
 omega
abbrev u8s (m : List Nat) : List aNk := m.map fun (x : Nat) => Value.int .u8 x
theorem Vs {m : List Nat} (h : ∀ x ∈ m, x < 256) : (nR m).map vC = u8s m := by
 show List.map vC (m.map UInt8.ofNat) = _
 rw [aNh]
 exact aLs fun x hx => avT (h x hx)
theorem MX {L : List T3} (h : Vld L) (s : Nat) : qQ L s < 256 := by
 unfold qQ
 cases hs : L[s]? with
 | none => simp
 | some e => have := h.sy e (aLU hs); simp only; omega
theorem aD7 {L : List T3} {B : List Bool} (h : Vld L) : ∀ {f a b left : Nat} {out m : List Nat}, stN L B f a b left out = some m -> (∀ x ∈ out, x < 256) -> (∀ x ∈ m, x < 256) /\ m.length <= 255
 | 0, _, _, _, _, _, e, _ => by cases e
 | f + 1, a, b, left, out, m, e, ho => by
   rw [stN] at e
   split at e
   .split at e
    .cases e
    .cases e
     refine ⟨fun x hx => ?_, by rw [aKV]; simp; omega⟩
     rcases aLx.1 hx with hx | hx
     .exact ho x hx
     .simp only [aLF, List.not_mem_nil, or_false] at hx
      rcases hx with rfl | rfl
      .exact MX h a
      .exact MX h b
   .refine aD7 h e fun x hx => ?_
    rcases aLx.1 hx with hx | hx
    .exact ho x hx
    .rw [aMC.1 hx]; exact MX h a
theorem aCx {base px i x : Nat} {v : aNk} {cells : List aNk} {w : aNj} (o : OSS w (fun b => base <= b /\ b ≠ px) 1 v i cells) (hb : base <= w.heap.size) (hp : px < w.heap.size) (hi : i <= 100000) {K : aNk -> aNj -> Prop}
 (hK : ∀ v2 w2, OSS w2 (fun b => base <= b /\ b ≠ px) 1 v2 (i + 1) (cells ++ [.int .u8 x]) -> aW w w2 (fun y => base <= y /\ y ≠ px) -> K v2 w2) :
 aD pg (cT 22 1 [(0, .int .u8 x)]) w fun t w => aD pg (lO .append #[22, 22] 22 [v, t]) w fun t' w => K t' w := by
 refine oZ (cells := #[.int .u8 x]) (by decide) (by decide) (by kernel_rfl) fun w5 o5 x5 s5 => ?_
 have z5 := x5.size
 refine yN (m := 1) (news := [.int .u8 x]) (i := Tryz.t5) Tryz.underlying22 Tryz.underlying22 Sm rfl rfl rfl (o.ext x5 (fun _ _ h => h)) (o5.cl (off := 0) (l := [.int .u8 x]) (n := 1) rfl (fun i hi => by rw [aKP])) (by simp [one]) (fun b hb => ⟨by omega, by omega⟩) (by omega) (by rw [show Tryz.t5.bytes = 1 from rfl]; omega) (by decide) fun v6 w6 o6 x6 => ?_
 exact hK v6 w6 o6 ((x5.mono fun _ _ h => h.elim).seq x6)
theorem aBu {L : List T3} (h : Vld L) {s : Nat} (hs : s < L.length) : ∃ bs : Int, L[s] = ((qQ L s : Int), (kZ L s : Int), bs) := by
 have hsome : L[s]? = some L[s] := aKW hs
 obtain ⟨n, hn, hn2, _, _⟩ := h.low _ (aLA hs)
 have hsy := h.sy _ (aLA hs)
 refine ⟨L[s].2.2, ?_⟩
 have e1 : kZ L s = n := by unfold kZ; simp [hsome, hn]
 have e2 : ((qQ L s : Nat) : Int) = L[s].1 := by unfold qQ; simp only [hsome]; omega
 rw [e1, e2, <- hn]
def two (i a b : Nat) : List aNk := if i % 2 = 0 then [.int .i64 a, .int .i64 b] else [.int .i64 b, .int .i64 a]
theorem aBs (i a b : Nat) : (two i a b)[i % 2]? = some (.int .i64 a) := by
 unfold two
 rcases aMo i with h | h <;> rw [h] <;> simp
theorem aH7 (i a b : Nat) : (two i a b)[(i + 1) % 2]? = some (.int .i64 b) := by
 unfold two
 rcases aMo i with h | h
 .rw [h, show (i + 1) % 2 = 1 from by omega]; simp
 .rw [h, show (i + 1) % 2 = 0 from by omega]; simp
theorem aIt (i a b c : Nat) : (two i a b).set (i % 2) (.int .i64 c) = two (i + 1) b c := by
 unfold two
 rcases aMo i with h | h
 .rw [h, show (i + 1) % 2 = 1 from by omega]; simp
 .rw [h, show (i + 1) % 2 = 0 from by omega]; simp
theorem aIC (i a b : Nat) : (two i a b).length = 2 := by unfold two; split <;> rfl
theorem aBn {p8 p9 b hi lo log : Nat} {L : List T3} {l : List UInt8} {a0 b0 left0 : Nat} {w : aNj} (hv : Vld L) (hl : l.length <= 100000)
 (o8 : eM w p8 [.int .i64 log, .slice (some ⟨b, 0, none⟩) L.length L.length]) (ob : eM w b (fe .u8 L)) (o9 : eM w p9 (two 0 a0 b0)) (hbw : Bwd w lo hi l left0)
 (hne : p8 ≠ hi /\ b ≠ hi /\ p9 ≠ hi /\ p8 ≠ p9 /\ b ≠ p9 /\ lo <= hi /\ hi < p9) (ha : a0 < L.length) (hb : b0 < L.length) (hleft : left0 <= 8 * l.length) {G : Option (List Nat)} (hG : stN L (aZ l) 256 a0 b0 left0 [] = G)
 {R : aNk -> aNj -> Prop} (hR : ∀ v w' e, (match G with | none => v = .slice none 0 0 /\ e = 11 | some m => sM w' w.heap.size 1 v m.length (u8s m) /\ e = 0) -> aW w w' (fun y => y = p9 ∨ y = hi) -> R (.tuple #[v, .int .i64 e]) w') :
 AJ R (.pointer (some ⟨hi, 0, none⟩)) (.pointer (some ⟨p8, 0, none⟩)) (.pointer (some ⟨p9, 0, none⟩)) (.slice none 0 0) w := by
 obtain ⟨n1, n2, n3, n4, n5, n6, n7⟩ := hne
 have q8 := o8.lt
 have q9 := o9.lt
 have qb := ob.lt
 have qh := hbw.choose_spec.1.lt
 unfold AJ FC EL GD Gg
 refine cU.rule (fun m (t : aNk × aNk) w' => ∃ (i a b' left : Nat) (out : List Nat) (ov : aNk), m = 256 - i /\ t = (ov, .int .i64 i) /\ i <= 256 /\ out.length = i /\ a < L.length /\ b' < L.length /\ left <= 8 * l.length /\
  eM w' p9 (two i a b') /\ Bwd w' lo hi l left /\ stN L (aZ l) (256 - i) a b' left out = G /\ sM w' w.heap.size 1 ov i (u8s out) /\ aW w w' (fun y => y = p9 ∨ y = hi ∨ w.heap.size <= y)) 256
  ⟨0, a0, b0, left0, [], _, rfl, rfl, by omega, rfl, ha, hb, hleft, o9, hbw, hG, sM.nil _ _ _, aW.refl _ _⟩ ?_
 clear o9 hbw hG hleft ha hb
 rintro m t w1 ⟨i, a, b', left, out, ov, rfl, rfl, hi6, hol, ha, hb', hleft, o9, hbw, hG, oo, x1⟩
 have z1 := x1.size
 have x1n : ∀ w2, aW w1 w2 (fun y => y = p9 ∨ y = hi ∨ w.heap.size <= y) -> aW w w2 (fun y => y = p9 ∨ y = hi) := fun w2 x2 => (x1.seq x2).mono fun y hy h => by
  rcases h with h | h | h
  .exact .inl h
  .exact .inr h
  .omega
 have hos : ∀ {w2 : aNj}, aW w1 w2 (fun y => w.heap.size <= y) -> aW w w2 (fun y => y = p9 ∨ y = hi ∨ w.heap.size <= y) := fun x2 => x1.seq (x2.mono fun _ _ h => .inr (.inr h))
 unfold A1
 by_cases hlt : i < 256
 case neg =>
  have d1 : decide ((i : Int) < 256) = false := by simp; omega
  obtain rfl : i = 256 := by omega
  obtain ⟨ao, co, rfl⟩ := oo.len
  have d2 : decide ((256 : Int) <= ((256 : Nat) : Int)) = true := by decide
  unfold wG
  simp (disch := omega) only [aD, aU, d1, cS, aKP, rH, jF, Result.ok.injEq, Next.value.injEq, and_true, bN, aP, true_and, aA, gB, aV, nE, d2, aG, aE]
  refine hR _ _ 11 ?_ (x1n _ (aW.refl _ _))
  rw [<- hG]
  exact ⟨rfl, rfl⟩
 have d1 : decide ((i : Int) < 256) = true := by simp; omega
 have e1 : (i : Int).tmod 2 = ((i % 2 : Nat) : Int) := by rw [aLg (by omega)]; simp
 have e2 : ((i : Int) + 1).tmod 2 = (((i + 1) % 2 : Nat) : Int) := by rw [aLg (by omega)]; omega
 have hj := aMP i (show 0 < 2 by omega)
 have hj1 := aMP (i + 1) (show 0 < 2 by omega)
 have tj : ((i % 2 : Nat) : Int).toNat = i % 2 := aKO _
 have tj1 : (((i + 1) % 2 : Nat) : Int).toNat = (i + 1) % 2 := aKO _
 have ta : (a : Int).toNat = a := aKO _
 have tb : (b' : Int).toNat = b' := aKO _
 obtain ⟨bs, hea⟩ := aBu hv ha
 obtain ⟨bs2, heb⟩ := aBu hv hb'
 have hta := aBh (k := .u8) ha
 have htb := V6 .u8 L b' hb'
 rw [hea] at hta
 rw [heb] at htb
 have hbl := aAA hv.low a
 have hsa := MX hv a
 have hsb := MX hv b'
 have ho8 : ∀ {w2 : aNj}, aW w w2 (fun y => y = p9 ∨ y = hi ∨ w.heap.size <= y) -> eM w2 p8 [.int .i64 log, .slice (some ⟨b, 0, none⟩) L.length L.length] := fun x => o8.ext x (by omega)
 have hob : ∀ {w2 : aNj}, aW w w2 (fun y => y = p9 ∨ y = hi ∨ w.heap.size <= y) -> eM w2 b (fe .u8 L) := fun x => ob.ext x (by omega)
 have hent : ∀ {w2 : aNj}, eM w2 b (fe .u8 L) -> (aL 115 (.pointer (some ⟨b, a * 3, none⟩))).run pg w2 = .ok (.value (.agg #[.int .u8 (qQ L a), .int .i64 (kZ L a), .int .i64 bs])) w2 := fun o => by
  have := Za (off := a * 3) o (by rw [pS]; omega)
  rw [hta] at this
  exact this
 have x1d : aW w (dr w1) (fun y => y = p9 ∨ y = hi ∨ w.heap.size <= y) := x1.seq (aW.dr _ _)
 have c8 := (ho8 x1d).cell (off := 1)
 have c9 := (jW o9).cell (off := i % 2)
 rw [aBs] at c9
 simp only [aKM, aKN] at c8
 have l1 := hent (hob x1d)
 simp (disch := omega) only [aD, aU, d1, cS, aKP, rH, e1, jF, Result.ok.injEq, Next.value.injEq, and_true, bN, aP, true_and, aA, oF, bO, gB, tj, c8, aH, c9, gU, ta, l1, aG]
 refine aeR fun w2 o2 x2 s2 => ?_
 have x12 : aW w1 w2 eU := (aW.dr _ _).seq x2
 have xw2 := x1.seq (x12.mono fun _ _ h => h.elim)
 have c8' := (ho8 xw2).cell (off := 1)
 have c9' := (o9.ext x12 (fun h => h)).cell (off := i % 2)
 rw [aBs] at c9'
 simp only [aKM, aKN] at c8'
 have l1' := hent (hob xw2)
 simp (disch := omega) only [l1', c9', aH, c8', and_true, eK, gP, aKP, Result.ok.injEq, Next.value.injEq, aA, bO, true_and, iH]
 refine Y1 o2 rfl (by simp [one]) (by simp) fun w3 o3 x3 s3 => ?_
 simp only [bK, aKS, aKR] at o3
 have hsz2 : (dr w1).heap.size = w1.heap.size := rfl
 rw [hsz2] at o3 x3
 simp only [hsz2]
 have x13 : aW w1 w3 eU := x12.new x3 (aK1 _)
 have z3 := o3.lt
 have k0 := o3.cell (off := 0)
 simp only [aKM, aKN] at k0
 simp (disch := omega) only [k0, aH, aA]
 have os3 := (oo.ne (p := w1.heap.size) (aK1 _)).ext x13 (fun _ _ h => h)
 refine aCx os3 (by omega) (by omega) (by omega) fun v4 w4 o4 x4 => ?_
 have x14 : aW w1 w4 (fun y => w.heap.size <= y) := (x13.mono fun _ _ h => h.elim).seq (x4.mono fun _ _ h => h.1)
 have z4 := x14.size
 have z34 := x4.size
 have hob4 : u8s out ++ [.int .u8 (qQ L a : Nat)] = u8s (out ++ [qQ L a]) := by show _ = List.map _ (out ++ [qQ L a]); rw [aLe] <;> rfl
 rw [hob4] at o4
 have o34 := o3.ext x4 (by omega)
 have hbw4 : Bwd (dr w4) lo hi l left := (hbw.ext x14 (fun b h1 h2 => by omega) n6).ext (aW.dr _ eU) (fun _ _ _ h => h) n6
 refine (aqJ hbw4).mono ?_
 rintro r w5 ⟨rfl, rfl⟩
 have k1 := (jW o34).cell (off := 1)
 simp only [aKM, aKN] at k1
 have xw4 := hos x14
 have xw5 : aW w (dr (dr w4)) (fun y => y = p9 ∨ y = hi ∨ w.heap.size <= y) := (xw4.seq (aW.dr _ _)).seq (aW.dr _ _)
 have x15 : aW w1 (dr (dr w4)) (fun y => w.heap.size <= y) := (x14.seq (aW.dr _ _)).seq (aW.dr _ _)
 have c8 := (ho8 xw5).cell (off := 1)
 simp only [aKM, aKN] at c8
 have o9d := o9.ext x15 (by omega)
 obtain ⟨f, hf⟩ : ∃ f, 256 - i = f + 1 := ⟨255 - i, by omega⟩
 rw [hf, stN] at hG
 by_cases hsh : left < kZ L a
 .have d3 : decide ((left : Int) < ((kZ L a : Nat) : Int)) = true := by simp only [decide_eq_true_eq]; omega
  rw [if_pos hsh] at hG
  have c9 := o9d.cell (off := (i + 1) % 2)
  rw [aH7] at c9
  have m0 := (hob xw5).cell (off := b' * 3)
  rw [htb.1] at m0
  simp (disch := omega) only [k1, aH, Result.ok.injEq, Next.value.injEq, and_true, c8, e2, tj1, c9, aA, true_and, gU, tb, aKP, eK, iH, m0, aU, d3, aG]
  have o5 := (o4.ext (aW.dr w4 eU) (fun _ _ h => h)).ext (aW.dr (dr w4) eU) (fun _ _ h => h)
  have hszd : (dr (dr w4)).heap.size = w4.heap.size := rfl
  refine aCx o5 (by rw [hszd]; omega) (by rw [hszd]; omega) (by omega) fun v6 w6 o6 x6 => ?_
  have hob6 : u8s (out ++ [qQ L a]) ++ [.int .u8 (qQ L b' : Nat)] = u8s (out ++ [qQ L a, qQ L b']) := by show List.map _ (out ++ [qQ L a]) ++ _ = List.map _ (out ++ [qQ L a, qQ L b']); rw [aLe, aLe, aLj] <;> rfl
  rw [hob6] at o6
  have o6l := o6.osl
  obtain ⟨a6, c6, rfl⟩ := o6.len
  unfold wG
  have x16 : aW w1 w6 (fun y => y = p9 ∨ y = hi ∨ w.heap.size <= y) := (x15.mono fun _ _ h => .inr (.inr h)).seq (x6.mono fun _ _ h => .inr (.inr h.1))
  by_cases h255 : 255 < out.length + 2
  .rw [if_pos h255] at hG
   have d4 : decide ((256 : Int) <= ((i + 1 + 1 : Nat) : Int)) = true := by simp only [decide_eq_true_eq]; omega
   simp (disch := omega) only [aD, aV, aA, nE, d4, aG]
   refine hR _ _ 11 ?_ (x1n _ x16)
   rw [<- hG]; exact ⟨rfl, rfl⟩
  .rw [if_neg h255] at hG
   have d4 : decide ((256 : Int) <= ((i + 1 + 1 : Nat) : Int)) = false := by simp only [decide_eq_false_iff_not]; omega
   simp (disch := omega) only [aD, aV, aA, nE, d4, aE]
   refine hR _ _ 0 ?_ (x1n _ x16)
   rw [<- hG]
   refine ⟨?_, rfl⟩
   rw [show (out ++ [qQ L a, qQ L b']).length = i + 1 + 1 from by rw [aKV]; simp; omega]
   exact o6l
 .have d3 : decide ((left : Int) < ((kZ L a : Nat) : Int)) = false := by simp only [decide_eq_false_iff_not]; omega
  rw [if_neg hsh] at hG
  have c9 := o9d.cell (off := i % 2)
  rw [aBs] at c9
  have l8 := QE (off := 0) (ho8 xw5) (by simp)
  simp only [aKU, aKT, aKX] at l8
  simp (disch := omega) only [k1, aH, Result.ok.injEq, Next.value.injEq, and_true, l8, c9, aA, true_and, aU, d3, aE]
  have hbw5 : Bwd (dr (dr w4)) lo hi l left := hbw4.ext (aW.dr _ eU) (fun _ _ _ h => h) n6
  have hszd : (dr (dr w4)).heap.size = w4.heap.size := rfl
  refine (aFK (base := 0) (b := b) (L := L) (s := a) ⟨rfl, aMJ _, hob xw5⟩ hv.low (by have := hv.len; omega) hbw5 n6 (by omega) n2 (by omega) (by omega) (by omega)).mono ?_
  rintro r w6 ⟨rfl, hbw6, x6⟩
  have tl : (left : Int).toNat = left := aKO _
  rw [tl]
  have hln := sO ((aZ l).take left) (kZ L a)
  obtain ⟨g1, g2⟩ := hv.nx a ha _ hln
  obtain ⟨c, hc⟩ : ∃ c : Nat, uI L a (qF ((aZ l).take left) (kZ L a)) = c := ⟨_, (Int.toNat_of_nonneg g1).symm⟩
  rw [hc] at g2 hG ⊢
  rw [aKO] at g2 hG
  have o96 := o9d.ext x6 (by omega)
  refine oY o96 rfl (by rw [aIC]; omega) fun w7 o7 x7 s7 => ?_
  rw [aIt] at o7
  have x17 : aW w1 w7 (fun y => y = p9 ∨ y = hi ∨ w.heap.size <= y) := ((x15.mono fun _ _ h => .inr (.inr h)).seq (x6.mono fun _ _ h => .inr (.inl h))).seq (x7.mono fun _ _ h => .inl h)
  have hbw7 := hbw6.ext x7 (fun b h1 h2 => by omega) n6
  have o47 := ((o4.ext (aW.dr w4 eU) (fun _ _ h => h)).ext (aW.dr (dr w4) eU) (fun _ _ h => h)).ext x6 (fun b h hh => by omega) |>.ext x7 (fun b h hh => by omega)
  refine ⟨f, by omega, i + 1, b', c, left - kZ L a, out ++ [qQ L a], v4, by omega, rfl, by omega, by rw [aKV, hol] <;> rfl, hb', g2, by omega, o7, ?_, ?_, o47.osl, x1.seq x17⟩
  .rw [show ((left - kZ L a : Nat) : Int) = (left : Int) - (kZ L a : Nat) from by omega]; exact hbw7
  .rw [show 256 - (i + 1) = f from by omega]; exact hG
def vA (l : List UInt8) : Except Int (List Nat) := match Cv (aZ l) 6 12 with
 | .error e => .error e
 | .ok (lg, ps, n) => match XU (l.drop n) with
   | none => .error 11
   | some k => if k < 2 * lg then .error 11 else
     match stN (wY lg ps) (aZ (l.drop n)) 256 (qF ((aZ (l.drop n)).take k) lg) (qF ((aZ (l.drop n)).take (k - lg)) lg) (k - 2 * lg) [] with
     | none => .error 11
     | some m => .ok m
def aJh (w : aNj) (base : Nat) (o : Except Int (List Nat)) (r : aNk) : Prop := match o with
 | .error e => r = .tuple #[.slice none 0 0, .int .i64 e]
 | .ok m => ∃ v, r = .tuple #[v, .int .i64 0] /\ sM w base 1 v m.length ((nR m).map vC)
theorem axN {l : List UInt8} {m : List Nat} (h : vA l = .ok m) : (∀ x ∈ m, x < 256) /\ m.length <= 255 := by
 unfold vA at h
 split at h
 .cases h
 .rename_i lg ps n hr
  obtain ⟨h1, h2, h3⟩ := axS hr
  have hm := h1 (by omega)
  split at h
  .cases h
  .split at h
   .cases h
   .split at h
    .cases h
    .rename_i hs
     cases h
     exact aD7 (adR hm) hs (by simp)
theorem aHu {p8 p9 b hi lo log k : Nat} {L : List T3} {l : List UInt8} {w : aNj} (hl : l.length <= 100000) (hlog : log <= 15) (hlen : L.length = 2 ^ log)
 (o8 : eM w p8 [.int .i64 log, .slice (some ⟨b, 0, none⟩) L.length L.length]) (o9 : eM w p9 [.int .i64 0, .int .i64 0]) (hbw : Bwd w lo hi l k)
 (hne : p8 ≠ hi /\ p9 ≠ hi /\ p8 ≠ p9 /\ lo <= hi /\ hi < p9) (hk : k <= 8 * l.length) {R : aNk -> aNj -> Prop}
 (hR : ∀ w', eM w' p9 (two 0 (qF ((aZ l).take k) log) (qF ((aZ l).take (k - log)) log)) -> Bwd w' lo hi l ((k : Int) - log - log) -> aW w w' (fun y => y = p9 ∨ y = hi) →
  AL R (.pointer (some ⟨hi, 0, none⟩)) (.pointer (some ⟨p8, 0, none⟩)) (.pointer (some ⟨p9, 0, none⟩)) w') :
 yX R (.pointer (some ⟨hi, 0, none⟩)) (.pointer (some ⟨p8, 0, none⟩)) (.pointer (some ⟨p9, 0, none⟩)) w := by
 obtain ⟨n1, n3, n4, n6, n7⟩ := hne
 have q9 := o9.lt
 have qh := hbw.choose_spec.1.lt
 have hp : 2 ^ log <= 2 ^ 15 := aKY (by omega) hlog
 unfold yX DT DP DR D9
 have hla := sO ((aZ l).take k) log
 have hlb := sO ((aZ l).take (k - log)) log
 obtain ⟨a, ha⟩ : ∃ a, qF ((aZ l).take k) log = a := ⟨_, rfl⟩
 obtain ⟨b', hb'⟩ : ∃ a, qF ((aZ l).take (k - log)) log = a := ⟨_, rfl⟩
 rw [ha, hb'] at hR
 refine cU.rule (fun m (t : aNk) w' => ∃ (i : Nat), m = 2 - i /\ t = .int .i64 i /\ i <= 2 /\ eM w' p9 (if i = 0 then [.int .i64 0, .int .i64 0] else if i = 1 then [.int .i64 a, .int .i64 0] else [.int .i64 a, .int .i64 b']) /\ Bwd w' lo hi l ((k : Int) - i * log) /\ aW w w' (fun y => y = p9 ∨ y = hi)) 2
  ⟨0, rfl, rfl, by omega, o9, by simpa using hbw, aW.refl _ _⟩ ?_
 rintro m t w1 ⟨i, rfl, rfl, hi2, o9, hbw, x1⟩
 have z1 := x1.size
 unfold yQ
 have hcase : i = 0 ∨ i = 1 ∨ i = 2 := by omega
 have o81 := o8.ext x1 (by omega)
 have l8 := QE (off := 0) o81 (by simp)
 simp only [aKU, aKT, aKX] at l8
 rcases hcase with rfl | rfl | rfl
 .have d1 : decide (((0 : Nat) : Int) < 2) = true := rfl
  simp (disch := omega) only [aD, aU, d1, oF, aKO, aKP, bN, aP, aA, l8, aG]
  refine (awG hbw n6 (by omega) (by omega) (by omega) (by omega) (by omega)).mono ?_
  rintro r w2 ⟨rfl, hbw2, x2⟩
  rw [show ((k : Int) - ((0 : Nat) : Int) * (log : Nat)).toNat = k from by omega, ha]
  refine oY (o9.ext x2 (by omega)) rfl (by simp) fun w3 o3 x3 s3 => ?_
  refine ⟨1, by omega, 1, rfl, rfl, by omega, o3, ?_, (x1.seq (x2.mono fun _ _ h => .inr h)).seq (x3.mono fun _ _ h => .inl h)⟩
  have := hbw2.ext x3 (fun b h1 h2 => by omega) n6
  rwa [show (k : Int) - ((0 : Nat) : Int) * (log : Nat) - (log : Nat) = (k : Int) - ((1 : Nat) : Int) * (log : Nat) from by omega] at this
 .have d1 : decide (((1 : Nat) : Int) < 2) = true := rfl
  have t1 : ((1 : Nat) : Int).toNat = 1 := rfl
  simp (disch := omega) only [aD, aU, d1, oF, aKO, aKP, bN, aP, aA, l8, aG]
  refine (awG hbw n6 (by omega) (by omega) (by omega) (by omega) (by omega)).mono ?_
  rintro r w2 ⟨rfl, hbw2, x2⟩
  rw [show ((k : Int) - ((1 : Nat) : Int) * (log : Nat)).toNat = k - log from by omega, hb']
  refine oY (o9.ext x2 (by omega)) rfl (by simp) fun w3 o3 x3 s3 => ?_
  refine ⟨0, by omega, 2, rfl, rfl, by omega, o3, ?_, (x1.seq (x2.mono fun _ _ h => .inr h)).seq (x3.mono fun _ _ h => .inl h)⟩
  have := hbw2.ext x3 (fun b h1 h2 => by omega) n6
  rwa [show (k : Int) - ((1 : Nat) : Int) * (log : Nat) - (log : Nat) = (k : Int) - ((2 : Nat) : Int) * (log : Nat) from by omega] at this
 .have d1 : decide (((2 : Nat) : Int) < 2) = false := rfl
  simp (disch := omega) only [aD, aU, d1, bN, aP, aA, aE]
  refine hR w1 o9 ?_ x1
  rwa [show (k : Int) - ((2 : Nat) : Int) * (log : Nat) = (k : Int) - (log : Nat) - (log : Nat) from by omega] at hbw
theorem aGH {v : aNk} {l : List UInt8} {w : aNj} (h : Bs w v l) (hl : l.length <= 1000) :
 aS pg B6 #[v] w (fun r w' => aJh w' w.heap.size (vA l) r /\ aW w w' eU) := by
 refine XZ ?_
 obtain ⟨RR, hRR⟩ : ∃ RR : aNk -> aNj -> Prop, RR = fun r w' => aJh w' w.heap.size (vA l) r /\ aW w w' eU := ⟨_, rfl⟩
 rw [<- hRR]
 have key : ∀ r w', aJh w' w.heap.size (vA l) r -> aW w w' eU -> RR r w' := fun r w' h1 h2 => by rw [hRR]; exact ⟨h1, h2⟩
 obtain ⟨av, nv, cv, hvv, hnv, hcv, _⟩ := id h
 rw [aKZ] at hnv
 subst hnv
 have hv' := hvv
 subst hv'
 unfold VK D8 DJ DV Nq DX
 refine (aDX (most := 6) (sym := 12) h (by omega) (by omega)).mono ?_
 rintro r w1 ⟨hr, x1⟩
 unfold vA at key
 cases hrd : Cv (aZ l) 6 12 with
 | error e =>
   rw [hrd] at hr key
   have he := alM hrd
   obtain rfl := hr
   have n1 : (e != 0) = true := by simp [he]
   simp (disch := omega) only [aD, Yb, Ya, YH, nF, aA, dC, eH]
   refine BU fun w2 o2 x2 s2 => ?_
   refine wO o2 rfl (by simp [one]) (by simp) fun w3 o3 x3 s3 => ?_
   simp (disch := omega) only [n1, aG]
   exact key _ _ rfl (x1.seq (x2.new x3 (by omega)))
 | ok x =>
   obtain ⟨lg, ps, n⟩ := x
   rw [hrd] at hr key
   simp only at key
   obtain ⟨hmay, hlg6, hps12⟩ := axS hrd
   have hm := hmay (by omega)
   have hused := axK hrd
   rw [lW] at hused
   obtain ⟨pv, rfl, op⟩ := hr
   obtain ⟨pa, pc, rfl⟩ := op.len
   have n1 : ((0 : Int) != 0) = false := rfl
   simp (disch := omega) only [aD, Yb, Ya, YH, nF, aA, dC, eH, aKO]
   refine BU fun w2 o2 x2 s2 => ?_
   refine wO o2 rfl (by simp [one]) (by simp) fun w3 o3 x3 s3 => ?_
   simp only [bK, aKS, aKR] at o3
   have x13 : aW w1 w3 eU := x2.new x3 (by omega)
   have x03 := x1.seq x13
   have hb3 := h.ext x03 (bZ _)
   have hdr := hb3.drop' (k := n) (by omega)
   rw [<- aMx] at hdr
   have hdr : Bs w3 _ (l.drop n) := hdr
   have tn : (n : Int).toNat = n := aKO _
   have hdl : (l.drop n).length <= 1000 := by rw [aK7]; omega
   simp (disch := omega) only [n1, aE]
   generalize l.drop n = l' at *
   cases he : XU l' with
   | none =>
     rw [he] at key
     refine (Um hdr he (by omega)).mono ?_
     rintro r w4 ⟨rfl, rfl⟩
     have n2 : ((11 : Int) != 0) = true := rfl
     simp (disch := omega) only [pP, pR, aA, dC, n2, aG]
     exact key _ _ rfl x03
   | some k =>
     rw [he] at key
     simp only at key
     have hk := HS he
     refine (V2 hdr he (by omega)).mono ?_
     rintro r w4 ⟨hi, rfl, hlh, hhi, hbw, x4⟩
     have o34 := o3.ext x4 (fun h => h)
     have l3 := rB (off := 0) o34 (by simp)
     simp only [aKU, aKT, aKX] at l3
     simp (disch := omega) only [pP, pR, aA, dC, n1, aE, l3]
     have op4 := (op.ext x13 (fun _ _ h => h)).ext x4 (fun _ _ h => h)
     refine (aIA hm op4.sl).mono ?_
     rintro r w5 ⟨b, tv, rfl, ⟨rfl, hb5, ob⟩, x5⟩
     simp (disch := omega) only [pP, pR, aA, dC]
     refine Mm fun w6 o6 x6 s6 => ?_
     refine IW o6 rfl (by simp [one]) (by simp) fun w7 o7 x7 s7 => ?_
     simp only [bK, aKS, aKR] at o7
     simp (disch := omega) only [n1, aE]
     refine aDN fun w8 o8 x8 s8 => ?_
     refine aC3 o8 rfl (by simp [one]) (by simp) fun w9 o9 x9 s9 => ?_
     simp only [bK, aKS, aKR] at o9
     have x57 : aW w5 w7 eU := x6.new x7 (by omega)
     have x79 : aW w7 w9 eU := x8.new x9 (by omega)
     have x59 := x57.seq x79
     have x49 := x5.seq x59
     have x39 := x4.seq x49
     have z4 := x4.size
     have z5 := x5.size
     have z57 := x57.size
     have z79 := x79.size
     have qb := ob.lt
     have q6 := o7.lt
     have o79 := o7.ext x79 (fun h => h)
     have hN : (wY lg ps).length = 2 ^ lg := wU lg ps
     have h15 := hm.log15
     have hv := adR hm
     have hla := sO ((aZ l').take k) lg
     have hlb := sO ((aZ l').take (k - lg)) lg
     have ob9 := ob.ext x59 (fun h => h)
     rw [<- hN] at hla hlb
     generalize wY lg ps = L at *
     refine aHu (L := L) (l := l') (k := k) (by omega) h15 hN o79 o9 (hbw.ext x49 (fun _ _ _ h => h) hlh) (by omega) (by omega) fun w10 o10 hbw10 x10 => ?_
     have x010 : aW w w10 eU := (x03.seq x39).trans x10 fun y hy h => by have := x03.size; omega
     unfold AL EX
     refine (aqJ hbw10).mono ?_
     rintro r w11 ⟨rfl, rfl⟩
     by_cases hlt : k < 2 * lg
     .rw [if_pos hlt] at key
      have d1 : decide ((k : Int) - (lg : Nat) - (lg : Nat) < 0) = true := by simp only [decide_eq_true_eq]; omega
      simp (disch := omega) only [aD, aU, d1, aA, aG]
      exact key _ _ rfl x010
     .rw [if_neg hlt] at key
      have d1 : decide ((k : Int) - (lg : Nat) - (lg : Nat) < 0) = false := by simp only [decide_eq_false_iff_not]; omega
      simp (disch := omega) only [aD, aU, d1, aA, aE]
      have z10 := x10.size
      refine aBn (left0 := k - 2 * lg) (L := L) (l := l') (G := stN L (aZ l') 256 (qF ((aZ l').take k) lg) (qF ((aZ l').take (k - lg)) lg) (k - 2 * lg) []) hv (by omega) (o79.ext x10 (by omega)) (ob9.ext x10 (by omega)) o10
       (by rw [show ((k - 2 * lg : Nat) : Int) = (k : Int) - (lg : Nat) - (lg : Nat) from by omega]; exact hbw10) (by omega) hla hlb (by omega) rfl fun v' w12 e hG x12 => ?_
      have x012 : aW w w12 eU := x010.trans x12 fun y hy h => by have := x03.size; omega
      refine key _ _ ?_ x012
      cases hs : stN L (aZ l') 256 (qF ((aZ l').take k) lg) (qF ((aZ l').take (k - lg)) lg) (k - 2 * lg) [] with
      | none =>
        rw [hs] at hG
        obtain ⟨rfl, rfl⟩ := hG
        exact rfl
      | some m =>
        rw [hs] at hG
        obtain ⟨om, rfl⟩ := hG
        refine ⟨v', rfl, ?_⟩
        rw [Vs (aD7 hv hs (by simp)).1]
        exact om.lower (by have := x03.size; omega)
theorem aGc {k : IntKind} {L : List T3} {rest : List aNk} {i : Nat} (h : i < L.length) : ((fe k L ++ rest).drop (i * 3)).take 3 = [.int k L[i].1, .int .i64 L[i].2.1, .int .i64 L[i].2.2] := by
 have hl := pS k L
 rw [List.drop_append_of_le_length (by omega), aMy (by rw [aK7]; omega), aBh h]
def yV (o : Except Int (List Nat)) (r : aNk) : Prop := match o with
 | .error e => r = .tuple #[.string ⟨#[]⟩, .int .i64 e]
 | .ok m => r = .tuple #[.string ⟨(nR m).toArray⟩, .int .i64 0]
theorem aIs {w : aNj} {lo hi : Nat} {b : aNk} {B : List Bool} {left n : Nat} (hl : left <= B.length) (hn : n <= left)
 (h : RB w lo hi b ((B.take left).take ((B.take left).length - min n (B.take left).length)) (0 + (n - min n (B.take left).length))) : RB w lo hi b (B.take (left - n)) 0 := by
 have e : (B.take left).length = left := by rw [aK2]; omega
 rw [e, show 0 + (n - min n left) = 0 from by omega, aNa, show min (left - min n left) left = left - n from by omega] at h
 exact h
theorem atL {p7 p8 b lo hi log cc : Nat} {L : List T3} {l : List UInt8} {a0 b0 left0 : Nat} {bv : aNk} {rest : List aNk} {w w0 : aNj} (hv : Vld L) (hl : l.length <= 100000)
 (o8 : eM w p8 [.int .i64 log, .slice (some ⟨b, 0, none⟩) L.length cc]) (ob : eM w b (fe .i64 L ++ rest)) (o7 : eM w p7 bv.cells.toList) (hrb : RB w lo hi bv ((aZ l).take left0) 0)
 (hne : p8 ≠ p7 /\ b ≠ p7 /\ hi <= p7 /\ w0.heap.size <= p7) (ha : a0 < L.length) (hb : b0 < L.length) (hleft : left0 <= 8 * l.length) {G : Option (List Nat)} (hG : stN L (aZ l) 256 a0 b0 left0 [] = G) (x0 : aW w0 w eU)
 {R : aNk -> aNj -> Prop} (hR : ∀ r w', yV (match G with | none => .error 11 | some m => .ok m) r -> aW w0 w' eU -> R r w') :
 C7 R (.pointer (some ⟨p7, 0, none⟩)) (.pointer (some ⟨p8, 0, none⟩)) (.int .i64 a0) (.int .i64 b0) (.slice none 0 0) w := by
 obtain ⟨n1, n2, n3, n4⟩ := hne
 have q8 := o8.lt
 have q7 := o7.lt
 have qb := ob.lt
 unfold C7 Lr J2
 refine cU.rule (fun m (t : aNk × aNk × aNk) w' => ∃ (i a b' left : Nat) (out : List Nat) (ov bv : aNk), m = 256 - i /\ t = (.int .i64 a, .int .i64 b', ov) /\ i <= 256 /\ out.length = i /\ a < L.length /\ b' < L.length /\ left <= 8 * l.length /\
  eM w' p7 bv.cells.toList /\ RB w' lo hi bv ((aZ l).take left) 0 /\ stN L (aZ l) (256 - i) a b' left out = G /\ sM w' w.heap.size 1 ov i (u8s out) /\ (∀ x ∈ out, x < 256) /\ aW w w' (fun y => y = p7 ∨ w.heap.size <= y)) 256
  ⟨0, a0, b0, left0, [], _, bv, rfl, rfl, by omega, rfl, ha, hb, hleft, o7, hrb, hG, sM.nil _ _ _, by simp, aW.refl _ _⟩ ?_
 clear o7 hrb hG hleft ha hb
 rintro m t w1 ⟨i, a, b', left, out, ov, bv, rfl, rfl, hi6, hol, ha, hb', hleft, o7, hrb, hG, oo, hout, x1⟩
 have z1 := x1.size
 have x0n : ∀ {w2 : aNj}, aW w w2 (fun y => y = p7 ∨ w.heap.size <= y) -> aW w0 w2 eU := fun x2 => x0.trans x2 fun y hy h => by have := x0.size; omega
 have hrb' := hrb
 obtain ⟨v, rfl, hs, hat⟩ := hrb
 obtain ⟨a', c', rfl, hc⟩ := Gz hs
 simp only [Value.cells] at o7
 obtain ⟨ao, co, rfl⟩ := oo.len
 unfold Dv
 by_cases hlt : i < 256
 case neg =>
  have d1 : decide ((i : Int) < 256) = false := by simp; omega
  obtain rfl : i = 256 := by omega
  unfold Ds
  simp (disch := omega) only [aD, aV, bL, aKP, jF, and_true, aA, bF, aU, d1, aE]
  refine hR _ _ ?_ (x0n x1)
  rw [<- hG]
  exact rfl
 have d1 : decide ((i : Int) < 256) = true := by simp; omega
 have ta : (a : Int).toNat = a := aKO _
 have tb : (b' : Int).toNat = b' := aKO _
 obtain ⟨bs, hea⟩ := aBu hv ha
 obtain ⟨bs2, heb⟩ := aBu hv hb'
 have hta := aGc (k := .i64) (rest := rest) ha
 have htb := V6 .i64 L b' hb'
 have hfl := pS .i64 L
 rw [hea] at hta
 rw [heb] at htb
 have hbl := aAA hv.low a
 have hsa := MX hv a
 have hsb := MX hv b'
 have ho8 : ∀ {w2 : aNj}, aW w w2 (fun y => y = p7 ∨ w.heap.size <= y) -> eM w2 p8 [.int .i64 log, .slice (some ⟨b, 0, none⟩) L.length cc] := fun x => o8.ext x (by omega)
 have hob : ∀ {w2 : aNj}, aW w w2 (fun y => y = p7 ∨ w.heap.size <= y) -> eM w2 b (fe .i64 L ++ rest) := fun x => ob.ext x (by omega)
 have hos : ∀ {w2 : aNj}, aW w1 w2 (fun y => w.heap.size <= y) -> aW w w2 (fun y => y = p7 ∨ w.heap.size <= y) := fun x2 => x1.seq (x2.mono fun _ _ h => .inr h)
 have c8 := (ho8 x1).cell (off := 1)
 simp only [aKM, aKN] at c8
 have l1 := UI (off := a * 3) (hob x1) (by rw [aKV, hfl]; omega)
 rw [hta] at l1
 have ew : IntKind.u8.wrap (qQ L a : Nat) = (qQ L a : Nat) := xB (by omega) (by omega)
 have ewb : IntKind.u8.wrap (qQ L b' : Nat) = (qQ L b' : Nat) := xB (by omega) (by omega)
 simp (disch := omega) only [aD, aV, bL, aKP, jF, and_true, aA, bF, aU, d1, c8, aH, bT, ta, l1, aG]
 refine WD fun w2 o2 x2 s2 => ?_
 refine U3 o2 rfl (by simp [one]) (by simp) fun w3 o3 x3 s3 => ?_
 simp only [bK, aKS, aKR] at o3
 have x13 : aW w1 w3 eU := x2.new x3 (aK1 _)
 have z3 := o3.lt
 have k0 := o3.cell (off := 0)
 simp only [aKM, aKN] at k0
 simp (disch := omega) only [bU, cM, aKP, Result.ok.injEq, Next.value.injEq, and_true, aA, bO, true_and, k0, aH, eS, ew]
 have os3 := (oo.ne (p := w1.heap.size) (aK1 _)).ext x13 (fun _ _ h => h)
 refine aCx os3 (by omega) (by omega) (by omega) fun v4 w4 o4 x4 => ?_
 have x14 : aW w1 w4 (fun y => w.heap.size <= y) := (x13.mono fun _ _ h => h.elim).seq (x4.mono fun _ _ h => h.1)
 have z4 := x14.size
 have z34 := x4.size
 have hob4 : u8s out ++ [.int .u8 (qQ L a : Nat)] = u8s (out ++ [qQ L a]) := by show _ = List.map _ (out ++ [qQ L a]); rw [aLe] <;> rfl
 rw [hob4] at o4
 have o34 := o3.ext x4 (by omega)
 have o74 := o7.ext x14 (by omega)
 have l7 := fL (off := 0) (jW o74) (by simp)
 simp only [aKU, aKT, aKX] at l7
 have hrb4 := (hrb'.ext x14 (fun b h1 h2 => by omega)).ext (aW.dr _ eU) (fun _ _ _ h => h)
 have hBl : (aZ l).length = 8 * l.length := lW l
 have htl : ((aZ l).take left).length = left := by rw [aK2]; omega
 simp (disch := omega) only [l7, aA, true_and]
 refine (apH hrb4 (by omega) (by omega)).mono ?_
 rintro r w5 ⟨rfl, x5⟩
 have x45 : aW w4 w5 eU := (aW.dr _ _).seq x5
 have x15 : aW w1 w5 (fun y => w.heap.size <= y) := x14.seq (x45.mono fun _ _ h => h.elim)
 have xw5 := hos x15
 have z5 := x45.size
 rw [htl, show ((left : Nat) : Int) - ((0 : Nat) : Int) = left from by omega]
 have k1d := (jW o34).cell (off := 1)
 have k1 := (o34.ext x45 (fun h => h)).cell (off := 1)
 simp only [aKM, aKN] at k1 k1d
 have c85 := (ho8 xw5).cell (off := 1)
 simp only [aKM, aKN] at c85
 have o45 := o4.ext x45 (fun _ _ h => h)
 have o75 := o74.ext x45 (fun h => h)
 obtain ⟨f, hf⟩ : ∃ f, 256 - i = f + 1 := ⟨255 - i, by omega⟩
 rw [hf, stN] at hG
 by_cases hsh : left < kZ L a
 .have d3 : decide ((left : Int) < ((kZ L a : Nat) : Int)) = true := by simp only [decide_eq_true_eq]; omega
  rw [if_pos hsh] at hG
  have m0 := (hob xw5).cell (off := b' * 3)
  rw [aLd (by omega), htb.1] at m0
  simp (disch := omega) only [k1, aH, k1d, Result.ok.injEq, Next.value.injEq, and_true, c85, aA, bT, tb, aKP, bU, bO, m0, eS, ewb, aU, d3, aG, true_and]
  refine aCx o45 (by omega) (by omega) (by omega) fun v6 w6 o6 x6 => ?_
  have hob6 : u8s (out ++ [qQ L a]) ++ [.int .u8 (qQ L b' : Nat)] = u8s (out ++ [qQ L a, qQ L b']) := by show List.map _ (out ++ [qQ L a]) ++ _ = List.map _ (out ++ [qQ L a, qQ L b']); rw [aLe, aLe, aLj] <;> rfl
  rw [hob6] at o6
  have o6l := o6.osl
  have hm2 : ∀ x ∈ out ++ [qQ L a, qQ L b'], x < 256 := fun x hx => by
   rcases aLx.1 hx with hx | hx
   .exact hout x hx
   .simp only [aLF, List.not_mem_nil, or_false] at hx
    rcases hx with rfl | rfl
    .exact hsa
    .exact hsb
  rw [<- Vs hm2] at o6l
  have hb6 : Bs w6 v6 (nR (out ++ [qQ L a, qQ L b'])) := o6l.sl
  obtain ⟨a6, c6, rfl⟩ := o6.len
  have x16 : aW w w6 (fun y => y = p7 ∨ w.heap.size <= y) := xw5.seq (x6.mono fun _ _ h => .inr h.1)
  by_cases h255 : 255 < out.length + 2
  .rw [if_pos h255] at hG
   have d4 : decide ((255 : Int) < ((i + 1 + 1 : Nat) : Int)) = true := by simp only [decide_eq_true_eq]; omega
   simp (disch := omega) only [aV, aA, dH, d4, aG]
   refine hR _ _ ?_ (x0n x16)
   rw [<- hG]; exact rfl
  .rw [if_neg h255] at hG
   have d4 : decide ((255 : Int) < ((i + 1 + 1 : Nat) : Int)) = false := by simp only [decide_eq_false_iff_not]; omega
   have hcv := dW hb6
   simp (disch := omega) only [aV, aA, dH, d4, hcv, aE]
   refine hR _ _ ?_ (x0n x16)
   rw [<- hG]; exact rfl
 .have d3 : decide ((left : Int) < ((kZ L a : Nat) : Int)) = false := by simp only [decide_eq_false_iff_not]; omega
  rw [if_neg hsh] at hG
  have l8 := vB (off := 0) (ho8 xw5) (by simp)
  have l75 := fL (off := 0) o75 (by simp)
  simp only [aKU, aKT, aKX] at l8 l75
  simp (disch := omega) only [k1, aH, k1d, Result.ok.injEq, Next.value.injEq, and_true, l8, aA, l75, aU, d3, aE, true_and]
  have hrb5 := hrb4.ext x5 (fun _ _ _ h => h)
  refine (aDk (b := b) (L := L) (s := a) ⟨cc, rest, rfl, hob xw5⟩ hv.low (by have := hv.len; omega) hrb5 (by omega) (by omega) (by omega)).mono ?_
  rintro r w6 ⟨bv6, rfl, hrb6, x6⟩
  have hrb6 := aIs (by omega) (by omega) hrb6
  have hln := sO ((aZ l).take left) (kZ L a)
  obtain ⟨g1, g2⟩ := hv.nx a ha _ hln
  obtain ⟨c, hc⟩ : ∃ c : Nat, uI L a (qF ((aZ l).take left) (kZ L a)) = c := ⟨_, (Int.toNat_of_nonneg g1).symm⟩
  rw [hc] at g2 hG ⊢
  rw [aKO] at g2 hG
  have hrb6' := hrb6
  obtain ⟨v6, rfl, hs6, hat6⟩ := hrb6
  obtain ⟨a6, c6, rfl, hc6⟩ := Gz hs6
  simp (disch := omega) only [pP, pR, aA]
  refine cK (o75.ext x6 (fun h => h)) rfl (by simp [one]) (by simp) fun w7 o7' x7 s7 => ?_
  simp only [bK, aKS, aKR] at o7'
  have x17 : aW w w7 (fun y => y = p7 ∨ w.heap.size <= y) := (xw5.seq (x6.mono fun _ _ h => h.elim)).seq (x7.mono fun _ _ h => .inl h)
  have o47 := (o45.ext x6 (fun _ _ h => h)).ext x7 (fun b h hh => by omega)
  refine ⟨f, by omega, i + 1, b', c, left - kZ L a, out ++ [qQ L a], v4, .agg #[.slice a6 ((aZ l).take (left - kZ L a)).length c6, .int .i64 (0 : Nat)], by omega, rfl, by omega, by rw [aKV, hol] <;> rfl, hb', g2, by omega, o7', hrb6'.ext x7 (fun b h1 h2 => by omega), ?_, o47.osl, ?_, x17⟩
  .rw [show 256 - (i + 1) = f from by omega]; exact hG
  .intro x hx
   rcases aLx.1 hx with hx | hx
   .exact hout x hx
   .rw [aMC.1 hx]; exact hsa
theorem aEK {l : List UInt8} {left : Int} {n : Nat} (h1 : left <= 8 * l.length) :
 ((aZ l).take left.toNat).take (((aZ l).take left.toNat).length - min n ((aZ l).take left.toNat).length) = (aZ l).take (left - n).toNat /\
 (-left).toNat + (n - min n ((aZ l).take left.toNat).length) = (-(left - n)).toNat := by
 have hlen : ((aZ l).take left.toNat).length = left.toNat := by rw [aK2, lW]; omega
 rw [hlen]
 constructor
 .rw [aNa]; congr 1; omega
 .omega
theorem aCX {x : ByteArray} {w : aNj} (hl : x.size <= 1000) :
 aS pg FB #[.string x] w (fun r w' => yV (vA (gA x)) r /\ aW w w' eU) := by
 refine ahC ?_
 obtain ⟨RR, hRR⟩ : ∃ RR : aNk -> aNj -> Prop, RR = fun r w' => yV (vA (gA x)) r /\ aW w w' eU := ⟨_, rfl⟩
 rw [<- hRR]
 have key : ∀ r w', yV (vA (gA x)) r -> aW w w' eU -> RR r w' := fun r w' h1 h2 => by rw [hRR]; exact ⟨h1, h2⟩
 have hll := gR x
 unfold ahF LG J1
 refine (aDV (s := x) (most := 6) (sym := 12) (by omega) (by omega)).mono ?_
 rintro r w1 ⟨hr, x1⟩
 unfold vA at key
 cases hrd : Cv (aZ (gA x)) 6 12 with
 | error e =>
   rw [hrd] at hr key
   have he := alM hrd
   obtain rfl := hr
   have n1 : (e != 0) = true := by simp [he]
   simp (disch := omega) only [aD, Yb, Ya, YH, aA, dC, jV]
   refine wF fun w2 o2 x2 s2 => ?_
   refine rY o2 rfl (by simp [one]) (by simp) fun w3 o3 x3 s3 => ?_
   simp (disch := omega) only [n1, aG]
   exact key _ _ rfl (x1.seq (x2.new x3 (by omega)))
 | ok z =>
   obtain ⟨lg, ps, n⟩ := z
   rw [hrd] at hr key
   simp only at key
   obtain ⟨hmay, hlg6, hps12⟩ := axS hrd
   have hm := hmay (by omega)
   have hused := axK hrd
   rw [lW] at hused
   obtain ⟨pv, rfl, op⟩ := hr
   obtain ⟨pa, pc, rfl⟩ := op.len
   have n1 : ((0 : Int) != 0) = false := rfl
   simp (disch := omega) only [aD, Yb, Ya, YH, aA, dC, jV, aKO]
   refine wF fun w2 o2 x2 s2 => ?_
   refine rY o2 rfl (by simp [one]) (by simp) fun w3 o3 x3 s3 => ?_
   simp only [bK, aKS, aKR] at o3
   have x13 : aW w1 w3 eU := x2.new x3 (by omega)
   have x03 := x1.seq x13
   have tn : (n : Int).toNat = n := aKO _
   have hle : gA (x.extract n x.size) = (gA x).drop n := by
    rw [BC, aLn (by rw [aK7]; omega)]
   have hsz' : (x.extract n x.size).size = (gA x).length - n := by rw [<- gR, hle, aK7]
   simp (disch := omega) only [n1, aE]
   generalize x.extract n x.size = y at *
   have hdl : ((gA x).drop n).length <= 1000 := by rw [aK7]; omega
   rw [<- hle] at key hdl
   cases he : XU (gA y) with
   | none =>
     rw [he] at key
     refine (awK he (by omega)).mono ?_
     rintro r w4 ⟨rfl, x4⟩
     have n2 : ((11 : Int) != 0) = true := rfl
     simp (disch := omega) only [pP, pR, aA, dC]
     refine jS fun w5 o5 x5 s5 => ?_
     refine cK o5 rfl (by simp [one]) (by simp) fun w6 o6 x6 s6 => ?_
     simp (disch := omega) only [n2, aG]
     exact key _ _ rfl ((x03.seq x4).seq (x5.new x6 (by omega)))
   | some k =>
     rw [he] at key
     simp only at key
     have hk := HS he
     refine (aAP he (by omega)).mono ?_
     rintro r w4 ⟨bv, hi, rfl, hhi, hrb, x4⟩
     generalize gA y = l' at *
     have hrb' := hrb
     obtain ⟨v4, rfl, hs4, hat4⟩ := hrb
     obtain ⟨a4, c4, rfl, hc4⟩ := Gz hs4
     simp (disch := omega) only [pP, pR, aA, dC]
     refine jS fun w5 o5 x5 s5 => ?_
     refine cK o5 rfl (by simp [one]) (by simp) fun w6 o6 x6 s6 => ?_
     simp only [bK, aKS, aKR] at o6
     have x46 : aW w4 w6 eU := x5.new x6 (by omega)
     have x36 := x4.seq x46
     have l3 := pW (off := 0) (o3.ext x36 (fun h => h)) (by simp)
     simp only [aKU, aKT, aKX] at l3
     simp (disch := omega) only [n1, l3, aA, aE]
     have op6 := (op.ext x13 (fun _ _ h => h)).ext x36 (fun _ _ h => h)
     refine (aDx hm op6.sl).mono ?_
     rintro r w7 ⟨b, cc, rest, rfl, hb7, ob, x7⟩
     simp (disch := omega) only [pP, pR, aA, dC]
     refine Br fun w8 o8 x8 s8 => ?_
     refine Ao o8 rfl (by simp [one]) (by simp) fun w9 o9 x9 s9 => ?_
     simp only [bK, aKS, aKR] at o9
     have x79 : aW w7 w9 eU := x8.new x9 (by omega)
     have x69 := x7.seq x79
     have z46 := x46.size
     have z4 := x4.size
     have z03 := x03.size
     have z7 := x7.size
     have z79 := x79.size
     have qb := ob.lt
     have q9 := o9.lt
     have q6 := o6.lt
     have o69 := o6.ext x69 (fun h => h)
     have ob9 := ob.ext x79 (fun h => h)
     have hrb9 := (hrb'.ext x46 (fun _ _ _ h => h)).ext x69 (fun _ _ _ h => h)
     have x09 := (x03.seq x36).seq x69
     have hN : (wY lg ps).length = 2 ^ lg := wU lg ps
     have h15 := hm.log15
     have hv := adR hm
     have hla := sO ((aZ l').take k) lg
     have hlb := sO ((aZ l').take (k - lg)) lg
     rw [<- hN] at hla hlb o9
     generalize wY lg ps = L at *
     have hlen := hv.len
     have l9 := vB (off := 0) o9 (by simp)
     have l6 := fL (off := 0) o69 (by simp)
     simp only [aKU, aKT, aKX] at l9 l6
     simp (disch := omega) only [n1, l9, aA, l6, aE]
     have e0 : ((k : Int)).toNat = k := aKO k
     have e00 : (-(k : Int)).toNat = 0 := by omega
     have h1 : (k : Int) <= 8 * l'.length := by omega
     have hrs := aEK (n := lg) h1
     rw [e0, e00] at hrs
     have htk : ((aZ l').take k).length = k := by rw [aK2, lW]; omega
     refine (avU hrb9 (by omega) (by omega) (by omega) (by omega)).mono ?_
     rintro r w10 ⟨bv10, rfl, hrb10, x10⟩
     rw [hrs.1, hrs.2] at hrb10
     have hrb10' := hrb10
     obtain ⟨v10, rfl, hs10, hat10⟩ := hrb10
     obtain ⟨a10, c10, rfl, hc10⟩ := Gz hs10
     obtain ⟨a, ha⟩ : ∃ a, qF ((aZ l').take k) lg = a := ⟨_, rfl⟩
     obtain ⟨b', hb'⟩ : ∃ a, qF ((aZ l').take (k - lg)) lg = a := ⟨_, rfl⟩
     have ekl : ((k : Int) - lg).toNat = k - lg := by omega
     have htk2 : ((aZ l').take ((k : Int) - lg).toNat).length = k - lg := by rw [ekl, aK2, lW]; omega
     rw [ha] at key hla ⊢
     rw [hb'] at key hlb
     simp (disch := omega) only [pP, pR, aA]
     refine cK (o69.ext x10 (fun h => h)) rfl (by simp [one]) (by simp) fun w11 o11 x11 s11 => ?_
     simp only [bK, aKS, aKR] at o11
     have x911 : aW w9 w11 (fun y => y = w4.heap.size) := (x10.mono fun _ _ h => h.elim).seq x11
     have l11 := fL (off := 0) o11 (by simp)
     have l911 := vB (off := 0) (o9.ext x911 (by omega)) (by simp)
     simp only [aKU, aKT, aKX] at l11 l911
     simp (disch := omega) only [l911, aA, l11]
     have z10 := x10.size
     have z11 := x11.size
     have hrs2 := aEK (l := l') (left := (k : Int) - lg) (n := lg) (by omega)
     refine (avU (hrb10'.ext x11 (fun b h1 h2 => by omega)) (by omega) (by omega) (by omega) (by omega)).mono ?_
     rintro r w12 ⟨bv12, rfl, hrb12, x12⟩
     rw [hrs2.1, hrs2.2] at hrb12
     rw [ekl, hb']
     have hrb12' := hrb12
     obtain ⟨v12, rfl, hs12, hat12⟩ := hrb12
     obtain ⟨a12, c12, rfl, hc12⟩ := Gz hs12
     simp (disch := omega) only [pP, pR, aA]
     refine cK (o11.ext x12 (fun h => h)) rfl (by simp [one]) (by simp) fun w13 o13 x13' s13 => ?_
     simp only [bK, aKS, aKR] at o13
     have x913 : aW w9 w13 (fun y => y = w4.heap.size) := (x911.seq (x12.mono fun _ _ h => h.elim)).seq x13'
     have l13 := fL (off := 0) o13 (by simp)
     simp only [aKU, aKT, aKX] at l13
     simp (disch := omega) only [l13, aA]
     have z12 := x12.size
     have z13 := x13'.size
     have hrb13 := hrb12'.ext x13' (fun b h1 h2 => by omega)
     have htk3 : ((aZ l').take ((k : Int) - lg - lg).toNat).length = ((k : Int) - lg - lg).toNat := by rw [aK2, lW]; omega
     refine (apH hrb13 (by omega) (by omega)).mono ?_
     rintro r w14 ⟨rfl, x14⟩
     rw [htk3, show ((((k : Int) - lg - lg).toNat : Nat) : Int) - ((-((k : Int) - lg - lg)).toNat : Nat) = (k : Int) - lg - lg from by omega]
     have x914 : aW w9 w14 (fun y => y = w4.heap.size) := x913.seq (x14.mono fun _ _ h => h.elim)
     have x014 : aW w w14 eU := x09.trans x914 fun y hy h => by omega
     by_cases hlt : k < 2 * lg
     .rw [if_pos hlt] at key
      have d1 : decide ((k : Int) - (lg : Nat) - (lg : Nat) < 0) = true := by simp only [decide_eq_true_eq]; omega
      simp (disch := omega) only [aU, d1, aA, aG]
      exact key _ _ rfl x014
     .rw [if_neg hlt] at key
      have d1 : decide ((k : Int) - (lg : Nat) - (lg : Nat) < 0) = false := by simp only [decide_eq_false_iff_not]; omega
      simp (disch := omega) only [aU, d1, aA, aE]
      have ek2 : ((k : Int) - lg - lg).toNat = k - 2 * lg := by omega
      have ek3 : (-((k : Int) - lg - lg)).toNat = 0 := by omega
      rw [ek2, ek3] at hrb13
      have z14 := x914.size
      refine atL (w0 := w) (left0 := k - 2 * lg) (L := L) (l := l') (bv := .agg #[.slice a12 ((aZ l').take ((k : Int) - lg - lg).toNat).length c12, .int .i64 ((-((k : Int) - lg - lg)).toNat : Nat)]) (G := stN L (aZ l') 256 a b' (k - 2 * lg) []) hv (by omega) (o9.ext x914 (by omega)) (ob9.ext x914 (by omega)) (o13.ext x14 (fun h => h))
       (by rw [ek2, ek3]; exact hrb13.ext x14 (fun _ _ _ h => h)) (by omega) hla hlb (by omega) rfl x014 fun r w' hG hx => ?_
      refine key _ _ ?_ hx
      cases hs : stN L (aZ l') 256 a b' (k - 2 * lg) [] with
      | none => rw [hs] at hG; exact hG
      | some m => rw [hs] at hG; exact hG
end Go.Proofs.YtgpimhlgaokobaaGreat
namespace Go.Pu
def aAd (ns : List Nat) (i last : Nat) : Prop := (last = 0 /\ ∀ j, j < i -> ns.getD j 0 = 0) ∨ (last < i /\ 0 < ns.getD last 0 /\ ∀ j, last < j -> j < i -> ns.getD j 0 = 0)
theorem aAd.step {ns : List Nat} {i last : Nat} (h : aAd ns i last) : aAd ns (i + 1) (if 0 < ns.getD i 0 then i else last) := by
 split
 .rename_i h0
  exact .inr ⟨by omega, h0, fun j h1 h2 => by omega⟩
 .rename_i h0
  rcases h with ⟨rfl, h⟩ | ⟨h1, h2, h3⟩
  .refine .inl ⟨rfl, fun j hj => ?_⟩
   rcases aK9 j i with h' | h'
   .exact h j h'
   .have : j = i := by omega
    subst this; omega
  .refine .inr ⟨by omega, h2, fun j hj hj2 => ?_⟩
   rcases aK9 j i with h' | h'
   .exact h3 j hj h'
   .have : j = i := by omega
    subst this; omega
theorem aAd.one {ns : List Nat} {i a b : Nat} (ha : aAd ns i a) (hb : aAd ns i b) : a = b := by
 rcases ha with ⟨rfl, h⟩ | ⟨h1, h2, h3⟩
 .rcases hb with ⟨rfl, _⟩ | ⟨k1, k2, _⟩
  .rfl
  .have := h b k1; omega
 .rcases hb with ⟨rfl, k⟩ | ⟨k1, k2, k3⟩
  .have := k a h1; omega
  .rcases aNb a b with h | h | h
   .have := h3 b h k1; omega
   .exact h
   .have := k3 a h h1; omega
theorem aAU {ns : List Nat} {i : Nat} (h : i < ns.length) : ns.getD i 0 = ns[i] := by rw [aK0, aKW h] <;> rfl
theorem aE7 {α : Type} {ns : List α} {i : Nat} (h : i < ns.length) : ns.take (i + 1) = ns.take i ++ [ns[i]] := by
 rw [aLL, aKW h] <;> rfl
theorem avZ {ns : List Nat} {i : Nat} (h : i < ns.length) : ns.take (i + 1) = ns.take i ++ [ns.getD i 0] := by rw [aE7 h, aAU h]
end Go.Pu
namespace Go.Proofs.YtgpimhlgaokobaaGreat
open Go Go.En Go.Pu
set_option maxRecDepth 4000
def wrB (l : List Nat) : List Nat := (126 + l.length) :: Ca (l.take (l.length - 1))
theorem avY (l : List Nat) : (wrB l).length = 1 + (l.length - 1 + 1) / 2 := by
 unfold wrB
 rw [aLa, BZ, aK2, aLH (by omega)]; omega
theorem aI0 {l : List Nat} (h : ∀ x ∈ l, x <= 11) (hl : l.length <= 129) : ∀ x ∈ wrB l, x < 256 := by
 intro x hx
 rcases aLF.1 hx with rfl | hx
 .omega
 .obtain ⟨i, hi, rfl⟩ := aMi hx
  have h16 : ∀ y ∈ l.take (l.length - 1), y < 16 := fun y hy => by have := h y (aMd hy); omega
  rw [BZ] at hi
  rw [<- aAU (by rw [BZ]; exact hi), anA hi]
  have := akK h16 (2 * i)
  have := akK h16 (2 * i + 1)
  omega
theorem aHn {l : List Nat} {d : Nat} (h : jD l = d) (hd : d ≠ 0) (hl : l.length <= 129) : ∃ (m : List Nat) (k : Nat), l = m ++ [k] /\ m.length = l.length - 1 /\ tJ (mP (Ca m) m.length) = some k /\ mP (Ca m) m.length = m /\ l.take (l.length - 1) = m := by
 obtain ⟨h1, h2, h3, h4, h5, h6⟩ := yA h hd
 obtain ⟨m, k, rfl⟩ : ∃ m k, l = m ++ [k] := ⟨l.dropLast, l.getLast (by intro e; rw [e] at h3; simp at h3), (List.dropLast_concat_getLast _).symm⟩
 have hm16 : ∀ x ∈ m, x < 16 := fun x hx => by have := h1 x (aL2 _ hx); omega
 have hp := aCN hm16
 refine ⟨m, k, rfl, by simp, by rw [hp]; exact axG h hd, hp, by simp⟩
theorem avP {base i x : Nat} {l0 n4 v' i6 : aNk} {cells : List aNk} {w : aNj} (o : sM w base 1 v' i cells) (hb : base <= w.heap.size) (hi : i <= 100000) (hx : x < 256) {kn : aNk -> aNk -> aNk -> aNk -> aNj -> Prop}
 (hK : ∀ v2 w2, sM w2 base 1 v2 (i + 1) (cells ++ [.int .u8 x]) -> aW w w2 (fun y => base <= y) -> kn l0 n4 v2 i6 w2) : xN kn l0 n4 v' i6 (.int .u8 x) w := by
 unfold xN
 obtain ⟨av, cv, rfl⟩ := o.len
 refine oZ (cells := #[.int .u8 x]) (by decide) (by decide) (by kernel_rfl) fun w5 o5 x5 s5 => ?_
 have z5 := x5.size
 refine mF (m := 1) (news := [.int .u8 x]) (o.ext x5 (fun _ _ h => h)) (o5.cl (off := 0) (l := [.int .u8 x]) (n := 1) rfl (fun i hi => by rw [aKP])) (by simp [one]) (by omega) (by omega) fun v6 w6 o6 x6 => ?_
 exact hK v6 w6 o6 ((x5.mono fun _ _ h => h.elim).seq x6)
theorem aEb {v : aNk} {l : List UInt8} {w : aNj} (h : Bs w v l) (hl : l.length <= 100000) (hd : jD (cF l) = 0 ∨ 129 < l.length) :
 aS pg zM #[v] w (fun r w' => r = .tuple #[.slice none 0 0, .int .i64 (if jD (cF l) = 0 then 1 else 12)] /\ w' = w) := by
 refine Ps ?_
 obtain ⟨a, n, c, rfl, hn, hc, hh⟩ := id h
 rw [aKZ] at hn
 subst hn
 unfold Qk A0 AY
 refine (auR h hl).mono ?_
 rintro r w1 ⟨rfl, rfl⟩
 by_cases h0 : jD (cF l) = 0
 .have n1 : (((jD (cF l) : Nat) : Int) == 0) = true := by rw [h0] <;> rfl
  simp (disch := omega) only [aD, dU, n1, aV, aA, fE, aP, bN, eS, dH, and_true, aG]
  rw [if_pos h0]
 .have n1 : (((jD (cF l) : Nat) : Int) == 0) = false := beq_eq_false_iff_ne.2 (by omega)
  have d1 : decide ((129 : Int) < (l.length : Int)) = true := by simp; omega
  simp (disch := omega) only [aD, dU, n1, aV, aA, fE, aP, bN, eS, dH, d1, aG, and_true, aE]
  rw [if_neg h0]
theorem aHi {v : aNk} {l : List UInt8} {d : Nat} {w : aNj} (h : Bs w v l) (hd : jD (cF l) = d) (hd0 : d ≠ 0) (hl : l.length <= 129) :
 aS pg zM #[v] w (fun r w' => ∃ v', r = .tuple #[v', .int .i64 0] /\ sM w' w.heap.size 1 v' (wrB (cF l)).length ((nR (wrB (cF l))).map vC) /\ aW w w' eU) := by
 refine Ps ?_
 obtain ⟨hall, hd11, hl2, hl256, hlast, hsum⟩ := yA hd hd0
 have hnl := jY l
 obtain ⟨b, off, c, rfl, hc, hcell⟩ := OE h (by omega)
 unfold Qk A0 AY
 refine (auR h (by omega)).mono ?_
 rintro r w1 ⟨rfl, rfl⟩
 rw [hd]
 have n1 : ((d : Int) == 0) = false := beq_eq_false_iff_ne.2 (by omega)
 have d1 : decide ((129 : Int) < (l.length : Int)) = false := by simp; omega
 have e1 : (l.length : Int) - 1 = ((l.length - 1 : Nat) : Int) := by omega
 have e2 : (127 : Int) + ((l.length - 1 : Nat) : Int) = ((126 + l.length : Nat) : Int) := by omega
 have e8 : IntKind.u8.wrap ((126 + l.length : Nat) : Int) = ((126 + l.length : Nat) : Int) := xB (by omega) (by omega)
 simp (disch := omega) only [aD, dU, n1, aV, aA, fE, e1, aP, bN, e2, eS, e8, dH, d1, aE]
 refine oZ (cells := #[.int .u8 (126 + l.length : Nat)]) (by decide) (by decide) (by kernel_rfl) fun w2 o2 x2 s2 => ?_
 obtain ⟨m, hm⟩ : ∃ m, m = (cF l).take (l.length - 1) := ⟨_, rfl⟩
 have hml : m.length = l.length - 1 := by rw [hm, aK2, hnl]; omega
 have hmg : ∀ i, i < l.length - 1 -> m.getD i 0 = (cF l).getD i 0 := fun i hi => by
  rw [hm, aK0, aK0, aLB hi]
 have hm11 : ∀ x ∈ m, x <= 11 := fun x hx => by rw [hm] at hx; have := hall x (aMd hx); omega
 have hm16 : ∀ x ∈ m, x < 16 := fun x hx => by have := hm11 x hx; omega
 have hwr : wrB (cF l) = (126 + l.length) :: Ca m := by unfold wrB; rw [hnl, hm]
 have hpl := BZ m
 have ho2 : sM w2 w1.heap.size 1 (.slice (some ⟨w1.heap.size, 0, none⟩) 1 1) (0 + 1) ((nR ((126 + l.length) :: (Ca m).take 0)).map vC) := by
  refine ⟨by simp, .inr ⟨_, 1, [], rfl, aK1 _, ?_, rfl, aK1 _⟩⟩
  simp only [nR, aKX, aL0, aM7, avT (show 126 + l.length < 256 by omega), aLG]
  exact o2
 unfold Gb Gq FR Fs EZ
 refine cU.rule (fun q (t : aNk × aNk) w' => ∃ (j : Nat) (v' : aNk), q = l.length - 1 + 1 - j /\ t = (v', .int .i64 (2 * j : Nat)) /\ j <= (m.length + 1) / 2 /\ sM w' w1.heap.size 1 v' (j + 1) ((nR ((126 + l.length) :: (Ca m).take j)).map vC) /\ aW w1 w' eU) (l.length - 1 + 1)
  ⟨0, _, rfl, rfl, by omega, ho2, x2⟩ ?_
 rintro q t w3 ⟨j, v', rfl, rfl, hj, o3, x3⟩
 have z3 := x3.size
 unfold BR H6
 by_cases hlt : 2 * j < l.length - 1
 .have d2 : decide (((2 * j : Nat) : Int) < ((l.length - 1 : Nat) : Int)) = true := by simp only [decide_eq_true_eq]; omega
  obtain ⟨_, _, _, he, _, hcell3⟩ := OE (h.ext x3 (bZ _)) (by omega)
  cases he
  have g1 := hcell3 (2 * j) (by omega)
  have hg1 := aCB (l := l) (i := 2 * j) (by omega)
  rw [<- hg1, <- hmg (2 * j) hlt] at g1
  have hs1 := avZ (ns := Ca m) (i := j) (by omega)
  rw [anA (by omega)] at hs1
  have hx11 : m.getD (2 * j) 0 <= 11 := hm11 _ (tN (by omega))
  have hy11 := akK hm16 (2 * j + 1)
  have e3 : ((2 * j : Nat) : Int) + 1 = ((2 * j + 1 : Nat) : Int) := by omega
  have hcells : ∀ z : Nat, z = m.getD (2 * j) 0 * 16 + m.getD (2 * j + 1) 0 -> z < 256 -> ((nR ((126 + l.length) :: (Ca m).take j)).map vC ++ [.int .u8 z]) = (nR ((126 + l.length) :: (Ca m).take (j + 1))).map vC := fun z hz hz2 => by
   rw [hs1, <- hz]
   simp only [nR, aLe, aL0, aM7, avT hz2, aLV]
  have hodd : ¬ 2 * j + 1 < l.length - 1 -> m.getD (2 * j + 1) 0 = 0 := fun h => by
   rw [aK0, aK3 (by omega)] <;> rfl
  have g2 : 2 * j + 1 < l.length - 1 -> w3.cell? ⟨b, off + (2 * j + 1), none⟩ = some (.int .u8 (m.getD (2 * j + 1) 0 : Nat)) := fun h => by
   have := hcell3 (2 * j + 1) (by omega)
   rw [<- aCB (l := l) (i := 2 * j + 1) (by omega), <- hmg (2 * j + 1) h] at this
   exact this
  generalize m.getD (2 * j) 0 = x at *
  generalize m.getD (2 * j + 1) 0 = y at *
  have t4 : (4 : Int).toNat = 4 := rfl
  have e4 : IntKind.u8.wrap ((x : Int) * 2 ^ (min 4 IntKind.u8.bits)) = ((x * 16 : Nat) : Int) := by
   rw [show min 4 IntKind.u8.bits = 4 from rfl]
   have : (x : Int) * 2 ^ 4 = ((x * 16 : Nat) : Int) := by omega
   rw [this]
   exact xB (by omega) (by omega)
  unfold HP Hp RW H2
  by_cases h2 : 2 * j + 1 < l.length - 1
  .have d3 : decide (((2 * j + 1 : Nat) : Int) < ((l.length - 1 : Nat) : Int)) = true := by simp only [decide_eq_true_eq]; omega
   have g2 := g2 h2
   have e5 := axF (a := x * 16) (b := y) (by omega) (by omega)
   have e6 : x * 16 ||| y = x * 16 + y := by
    rw [Nat.or_comm]
    have := ayU (x := y) (i := 4) (by omega) x
    rw [show x * 2 ^ 4 = x * 16 from rfl] at this
    rw [this]; omega
   rw [e6] at e5
   simp (disch := omega) only [aD, aU, d2, dM, aKO, bN, e3, aP, aA, iH, d3, aG, g1, aH, pA, t4, e4, g2, KZ, e5]
   refine avP (x := x * 16 + y) o3 (by omega) (by omega) (by omega) fun v4 w4 o4 x4 => ?_
   rw [hcells _ rfl (by omega)] at o4
   unfold xX
   have e7 : ((2 * j : Nat) : Int) + 2 = ((2 * (j + 1) : Nat) : Int) := by omega
   simp (disch := omega) only [aD, bN, e7, aP, aA]
   exact ⟨l.length - 1 + 1 - (j + 1), by omega, j + 1, _, rfl, rfl, by omega, o4, x3.trans x4 fun b hb h => by omega⟩
  .have d3 : decide (((2 * j + 1 : Nat) : Int) < ((l.length - 1 : Nat) : Int)) = false := by simp only [decide_eq_false_iff_not]; omega
   have hy0 := hodd h2
   simp (disch := omega) only [aD, aU, d2, dM, aKO, bN, e3, aP, aA, iH, d3, aE, g1, aH, pA, t4, e4, aG]
   refine avP (x := x * 16) o3 (by omega) (by omega) (by omega) fun v4 w4 o4 x4 => ?_
   rw [hcells _ (by omega) (by omega)] at o4
   unfold xX
   have e7 : ((2 * j : Nat) : Int) + 2 = ((2 * (j + 1) : Nat) : Int) := by omega
   simp (disch := omega) only [aD, bN, e7, aP, aA]
   exact ⟨l.length - 1 + 1 - (j + 1), by omega, j + 1, _, rfl, rfl, by omega, o4, x3.trans x4 fun b hb h => by omega⟩
 .have d2 : decide (((2 * j : Nat) : Int) < ((l.length - 1 : Nat) : Int)) = false := by simp only [decide_eq_false_iff_not]; omega
  have hjE : j = (Ca m).length := by omega
  rw [aLn (by omega), <- hwr] at o3
  have hwl : (wrB (cF l)).length = j + 1 := by rw [hwr, aLa]; omega
  unfold BS
  simp (disch := omega) only [aD, aU, d2, aA, aE]
  exact ⟨v', rfl, by rw [hwl]; exact o3, x3⟩
theorem I6 (x : ByteArray) : (cF (gA x)).length = x.size := by rw [jY, gR]
theorem agI {x : ByteArray} {i : Nat} (h : i < x.size) : (x[i]'h).toNat = (cF (gA x)).getD i 0 := by
 rw [aCB (by rw [gR]; exact h), <- PV]
theorem axM {x : ByteArray} {w : aNj} (hl : x.size <= 100000) :
 aS pg CC #[.string x] w (fun r w' => r = .int .i64 (if qZ 11 (cF (gA x)) = true then (dV (cF (gA x)) : Nat) else -1) /\ w' = w) := by
 refine amH ?_
 have hsz := I6 x
 obtain ⟨l, hlx⟩ : ∃ l, cF (gA x) = l := ⟨_, rfl⟩
 rw [hlx] at hsz ⊢
 unfold aqQ JH Ll Pg MK ND Ov MU
 refine cU.rule (fun m (t : aNk × aNk) w' => ∃ i : Nat, m = x.size - i /\ t = (.int .i64 (dV (l.take i) : Nat), .int .i64 i) /\ i <= x.size /\ qZ 11 (l.take i) = true /\ w' = w) x.size
  ⟨0, rfl, by simp [dV], by omega, by simp [qZ], rfl⟩ ?_
 rintro m t w1 ⟨i, rfl, rfl, hi, hle, rfl⟩
 unfold Gv Nb
 by_cases hlt : i < x.size
 .have d1 : decide ((i : Int) < (x.size : Int)) = true := by simp; omega
  have hg := agI hlt
  rw [hlx] at hg
  have ht := avZ (ns := l) (i := i) (by omega)
  have hwl := HZ (rJ.1 hle)
  rw [aK2] at hwl
  have hsn : qZ 11 (l.take (i + 1)) = (qZ 11 (l.take i) && decide (l.getD i 0 <= 11)) := by rw [ht, ayC]
  have hwn : dV (l.take (i + 1)) = dV (l.take i) + FQ (l.getD i 0) := by rw [ht, CA, pB] <;> rfl
  have hbad : qZ 11 (l.take (i + 1)) = false -> qZ 11 l = false := axA
  have hy : l.getD i 0 < 256 := by rw [<- hlx]; exact P1 _ _ (tN (by rw [I6]; exact hlt))
  generalize l.getD i 0 = y at *
  unfold Gw
  by_cases h11 : 11 < y
  .have d2 : decide ((11 : Int) < (y : Int)) = true := by simp; omega
   have hf := hbad (by rw [hsn, hle, decide_eq_false (by omega)] <;> rfl)
   simp (disch := omega) only [aD, dS, jA, aKO, hg, bN, aP, aA, dT, fE, dH, d2, aG, aU, d1, and_true]
   rw [hf]; simp
  .have d2 : decide ((11 : Int) < (y : Int)) = false := by simp; omega
   have hle1 : qZ 11 (l.take (i + 1)) = true := by rw [hsn, hle, decide_eq_true (by omega)] <;> rfl
   have hwp := aBF (w := y) (by omega)
   by_cases h0 : 0 < y
   .have d3 : decide ((0 : Int) < (y : Int)) = true := by simp; omega
    have e1 : (y : Int) - 1 = ((y - 1 : Nat) : Int) := by omega
    have hpw : FQ y = 2 ^ (y - 1) := by unfold FQ; rw [if_neg (by omega)]
    have hpow : ((2 ^ (y - 1) : Nat) : Int) = (2 : Int) ^ (y - 1) := by simp
    have e2 : ((dV (l.take i) : Nat) : Int) + ((2 ^ (y - 1) : Nat) : Int) = ((dV (l.take i) + 2 ^ (y - 1) : Nat) : Int) := by omega
    rw [hpw] at hwp hwn
    simp (disch := omega) only [aD, dS, jA, aKO, hg, bN, aP, aA, dT, fE, e1, dH, d3, aG, d2, aE, aU, d1]
    refine (IP (y - 1) (by omega) w1).mono ?_
    rintro r w2 ⟨rfl, rfl⟩
    rw [<- hpow]
    simp (disch := omega) only [bN, e2, aP, aA, and_true]
    exact ⟨x.size - (i + 1), by omega, i + 1, rfl, by rw [hwn] <;> rfl, by omega, hle1⟩
   .have d3 : decide ((0 : Int) < (y : Int)) = false := by simp; omega
    have hpw : FQ y = 0 := by unfold FQ; rw [if_pos (by omega)]
    simp (disch := omega) only [aD, dS, jA, aKO, hg, bN, aP, aA, dT, fE, dH, d3, aE, d2, aU, d1, and_true, aG]
    exact ⟨x.size - (i + 1), by omega, i + 1, rfl, by rw [hwn, hpw] <;> rfl, by omega, hle1⟩
 .have d1 : decide ((i : Int) < (x.size : Int)) = false := by simp; omega
  obtain rfl : i = x.size := by omega
  rw [aLn (by omega)] at *
  unfold EU
  simp (disch := omega) only [aD, dS, aA, aU, d1, and_true, aE]
  rw [hle]; simp
theorem ayV (x : Int) (w : aNj) : aS pg Jm #[.int .i64 x] w (fun r w' => ((∃ d : Nat, d < 20 /\ x = (2 : Int) ^ d /\ r = .int .i64 d) ∨ ((∀ d : Nat, d < 20 -> x ≠ (2 : Int) ^ d) /\ r = .int .i64 (-1))) /\ w' = w) := by
 refine axP ?_
 unfold aAp Ty TQ TP TN S7 Tt TY
 refine cU.rule (fun m (t : aNk) w' => ∃ d : Nat, m = 20 - d /\ t = .int .i64 d /\ d <= 20 /\ (∀ e : Nat, e < d -> x ≠ (2 : Int) ^ e) /\ w' = w) 20 ⟨0, rfl, rfl, by omega, fun e h => by omega, rfl⟩ ?_
 rintro m t w1 ⟨d, rfl, rfl, hd, hno, rfl⟩
 unfold Mq
 by_cases hlt : d < 20
 .have d1 : decide ((d : Int) < 20) = true := by simp; omega
  simp (disch := omega) only [aD, aU, d1, bN, aP, aA, aG]
  refine (IP d (by omega) w1).mono ?_
  rintro r w2 ⟨rfl, rfl⟩
  by_cases he : (2 : Int) ^ d = x
  .have d2 : ((2 : Int) ^ d == x) = true := by simpa using he
   simp (disch := omega) only [dU, d2, aA, and_true, aG]
   exact .inl ⟨d, hlt, he.symm, rfl⟩
  .have d2 : ((2 : Int) ^ d == x) = false := by simpa using he
   simp (disch := omega) only [dU, d2, aA, and_true, aE]
   refine ⟨20 - (d + 1), by omega, d + 1, rfl, rfl, by omega, fun e h => ?_⟩
   rcases aK9 e d with h' | h'
   .exact hno e h'
   .have : e = d := by omega
    subst this; exact fun h => he h.symm
 .have d1 : decide ((d : Int) < 20) = false := by simp; omega
  unfold Mf
  simp (disch := omega) only [aD, aU, d1, bN, aP, aA, and_true, aE]
  exact .inr (fun e h => hno e (by omega))
theorem aEx {s : Nat} (h0 : 0 < s) (hs : s < 2 ^ 20) {r : aNk} (h : (∃ d : Nat, d < 20 /\ (s : Int) = (2 : Int) ^ d /\ r = .int .i64 d) ∨ ((∀ d : Nat, d < 20 -> (s : Int) ≠ (2 : Int) ^ d) /\ r = .int .i64 (-1))) :
 (2 ^ s.log2 = s /\ r = .int .i64 (s.log2 : Nat)) ∨ (2 ^ s.log2 ≠ s /\ r = .int .i64 (-1)) := by
 rcases h with ⟨d, h1, h2, h3⟩ | ⟨h1, h2⟩
 .have : s = 2 ^ d := by
   have e : ((2 ^ d : Nat) : Int) = (2 : Int) ^ d := by simp
   omega
  subst this
  rw [aMW]
  exact .inl ⟨rfl, h3⟩
 .refine .inr ⟨fun he => ?_, h2⟩
  have hl : s.log2 < 20 := (Nat.log2_lt (by omega)).2 hs
  apply h1 _ hl
  have e : ((2 ^ s.log2 : Nat) : Int) = (2 : Int) ^ s.log2 := by simp
  rw [<- e, he]
theorem axQ {x : ByteArray} {w : aNj} (hl : x.size <= 100000) :
 aS pg IU #[.string x] w (fun r w' => r = .int .i64 (jD (cF (gA x)) : Nat) /\ w' = w) := by
 refine alU ?_
 have hsz := I6 x
 obtain ⟨l, hlx⟩ : ∃ l, cF (gA x) = l := ⟨_, rfl⟩
 have hnl := hlx
 rw [hlx] at hsz ⊢
 have no : ¬ (qZ 11 l = true /\ 2 <= l.length /\ l.length <= 256 /\ l.getLast? ≠ some 0 /\ 2 ^ (dV l).log2 = dV l /\ (dV l).log2 <= 11 /\ qZ (dV l).log2 l = true) -> jD l = 0 := fun h => by
  unfold jD; rw [if_neg h]
 unfold arY NA MA
 by_cases h2 : x.size < 2
 .have d2 : decide ((x.size : Int) < 2) = true := by simp; omega
  have := no (by omega)
  simp (disch := omega) only [aD, dS, aA, aU, d2, jI, bH, if_true, aG, cY, and_true]
  rw [this] <;> rfl
 have d2 : decide ((x.size : Int) < 2) = false := by simp; omega
 by_cases h3 : 256 < x.size
 .have d3 : decide ((256 : Int) < (x.size : Int)) = true := by simp; omega
  have := no (by omega)
  simp (disch := omega) only [aD, dS, aA, aU, d2, dG, bH, aKQ, if_false, bM, dH, d3, jI, if_true, aG, cY, and_true]
  rw [this] <;> rfl
 have d3 : decide ((256 : Int) < (x.size : Int)) = false := by simp; omega
 have e1 : (x.size : Int) - 1 = ((x.size - 1 : Nat) : Int) := by omega
 have hg := agI (x := x) (i := x.size - 1) (by omega)
 rw [hlx] at hg
 have hlast : l.getLast? = some (l.getD (x.size - 1) 0) := by
  rw [aMH, hsz, aK0, aKW (by omega)] <;> rfl
 have hmem : l.getD (x.size - 1) 0 ∈ l := tN (by omega)
 generalize l.getD (x.size - 1) 0 = y at *
 by_cases h4 : y = 0
 .have d4 : ((y : Int) == 0) = true := by rw [h4] <;> rfl
  have := no (fun h => h.2.2.2.1 (by rw [hlast, h4]))
  simp (disch := omega) only [aD, dS, aA, aU, d2, dG, bH, aKQ, if_false, bM, dH, d3, fE, e1, aP, jA, aKO, hg, dU, d4, and_true, aG]
  rw [this] <;> rfl
 have d4 : ((y : Int) == 0) = false := beq_eq_false_iff_ne.2 (by omega)
 have hwp := aiN hmem
 have hwx : 1 <= FQ y := by unfold FQ; rw [if_neg h4]; exact Nat.one_le_two_pow
 have hlast' : l.getLast? ≠ some 0 := fun h => by rw [hlast] at h; exact h4 (aLf h)
 simp (disch := omega) only [aD, dS, aA, aU, d2, dG, bH, aKQ, if_false, bM, dH, d3, fE, e1, aP, jA, aKO, hg, dU, d4, and_true, aE]
 refine (axM hl).mono ?_
 rintro r w1 ⟨rfl, rfl⟩
 rw [hnl]
 cases hok : qZ 11 l with
 | false =>
   have := no (by rw [hok]; simp)
   simp only [aKQ, if_false]
   refine (ayV (-1) w1).mono ?_
   rintro r w2 ⟨hlog, rfl⟩
   have hr : r = .int .i64 (-1) := by
    rcases hlog with ⟨d, _, h, _⟩ | ⟨_, h⟩
    .have : (0 : Int) < (2 : Int) ^ d := Int.pow_pos (by omega)
     omega
    .exact h
   subst hr
   have d5 : decide ((-1 : Int) < 1) = true := rfl
   simp (disch := omega) only [aU, d5, aA, jI, bH, if_true, aG, cY, and_true]
   rw [this] <;> rfl
 | true =>
   have hw := HZ (rJ.1 hok)
   simp only [if_true]
   refine (ayV _ w1).mono ?_
   rintro r w2 ⟨hlog, rfl⟩
   obtain ⟨s, hs⟩ : ∃ s, dV l = s := ⟨_, rfl⟩
   rw [hs] at no hw hwp hlog
   rcases aEx (by omega) (by omega) hlog with ⟨hp, rfl⟩ | ⟨hp, rfl⟩
   .have hlg : s.log2 < 20 := (Nat.log2_lt (by omega)).2 (by omega)
    by_cases h5 : s.log2 < 1
    .have d5 : decide (((s.log2 : Nat) : Int) < 1) = true := by simp; omega
     have hz : jD l = 0 := by
      unfold jD; rw [hs]
      split
      .omega
      .rfl
     simp (disch := omega) only [aU, d5, aA, jI, bH, if_true, aG, cY, and_true]
     rw [hz] <;> rfl
    have d5 : decide (((s.log2 : Nat) : Int) < 1) = false := by simp; omega
    by_cases h6 : 11 < s.log2
    .have d6 : decide ((11 : Int) < ((s.log2 : Nat) : Int)) = true := by simp; omega
     have := no (by omega)
     simp (disch := omega) only [aU, d5, aA, dG, bH, aKQ, if_false, bM, dH, d6, and_true, aG]
     rw [this] <;> rfl
    have d6 : decide ((11 : Int) < ((s.log2 : Nat) : Int)) = false := by simp; omega
    simp (disch := omega) only [aU, d5, aA, dG, bH, aKQ, if_false, bM, dH, d6, and_true, aE]
    unfold Nd MY Ow M1 Nn
    refine cU.rule (fun m (t : aNk) w' => ∃ i : Nat, m = x.size - i /\ t = .int .i64 i /\ i <= x.size /\ (∀ j, j < i -> l.getD j 0 <= s.log2) /\ w' = w2) x.size ⟨0, rfl, rfl, by omega, fun j h => by omega, rfl⟩ ?_
    rintro m t w3 ⟨i, rfl, rfl, hi, hle, rfl⟩
    unfold Fy
    by_cases hlt : i < x.size
    .have d7 : decide ((i : Int) < (x.size : Int)) = true := by simp; omega
     have hgi := agI hlt
     rw [hnl] at hgi
     have hz256 : l.getD i 0 < 256 := by rw [<- hnl]; exact P1 _ _ (tN (by rw [I6]; exact hlt))
     have hzm : l.getD i 0 ∈ l := tN (by omega)
     generalize hzz : l.getD i 0 = z at *
     by_cases h8 : s.log2 < z
     .have d8 : decide (((s.log2 : Nat) : Int) < (z : Int)) = true := by simp; omega
      have := no (fun h => by have := rJ.1 h.2.2.2.2.2.2 z hzm; omega)
      simp (disch := omega) only [aD, dS, jA, aKO, hgi, bN, aP, aA, dT, dH, d8, aG, aU, d7, and_true]
      rw [this] <;> rfl
     .have d8 : decide (((s.log2 : Nat) : Int) < (z : Int)) = false := by simp; omega
      simp (disch := omega) only [aD, dS, jA, aKO, hgi, bN, aP, aA, dT, dH, d8, aE, aU, d7, and_true, aG]
      refine ⟨x.size - (i + 1), by omega, i + 1, rfl, rfl, by omega, fun j hj => ?_⟩
      rcases aK9 j i with h' | h'
      .exact hle j h'
      .have : j = i := by omega
       subst this; omega
    .have d7 : decide ((i : Int) < (x.size : Int)) = false := by simp; omega
     have hyes : jD l = s.log2 := by
      unfold jD
      rw [hs, if_pos ⟨hok, by omega, by omega, hlast', hp, by omega, rJ.2 fun y hy => by
        obtain ⟨j, hj, rfl⟩ := aMi hy
        rw [<- aAU hj]; exact hle j (by omega)⟩]
     unfold Fl
     simp (disch := omega) only [aD, dS, bN, aP, aA, aU, d7, and_true, aE]
     rw [hyes]
   .have := no (fun h => hp h.2.2.2.2.1)
    have d5 : decide ((-1 : Int) < 1) = true := rfl
    simp (disch := omega) only [aU, d5, aA, jI, bH, if_true, aG, cY, and_true]
    rw [this] <;> rfl
theorem aIN {base i x : Nat} {v : aNk} {cells : List aNk} {w : aNj} (o : sM w base 1 v i cells) (hb : base <= w.heap.size) (hi : i <= 100000) {K : aNk -> aNj -> Prop}
 (hK : ∀ v2 w2, sM w2 base 1 v2 (i + 1) (cells ++ [.int .u8 x]) -> aW w w2 (fun y => base <= y) -> K v2 w2) :
 aD pg (cT 22 1 [(0, .int .u8 x)]) w fun t w => aD pg (lO .append #[22, 22] 22 [v, t]) w fun t' w => K t' w := by
 refine oZ (cells := #[.int .u8 x]) (by decide) (by decide) (by kernel_rfl) fun w5 o5 x5 s5 => ?_
 have z5 := x5.size
 refine mF (m := 1) (news := [.int .u8 x]) (o.ext x5 (fun _ _ h => h)) (o5.cl (off := 0) (l := [.int .u8 x]) (n := 1) rfl (fun i hi => by rw [aKP])) (by simp [one]) (by omega) (by omega) fun v6 w6 o6 x6 => ?_
 exact hK v6 w6 o6 ((x5.mono fun _ _ h => h.elim).seq x6)
theorem aC9 {x : ByteArray} {n : Nat} {w : aNj} (hl : x.size <= 10000) (hn : n <= 1000) :
 aS pg EN #[.string x, .int .i64 n] w (fun r w' => ((x.size < (n + 1) / 2 /\ r = .tuple #[.string ⟨#[]⟩, .int .i64 10]) ∨
  ((n + 1) / 2 <= x.size /\ r = .tuple #[.string ⟨(nR (mP (cF (gA x)) n)).toArray⟩, .int .i64 0])) /\ aW w w' eU) := by
 refine ahI ?_
 have hsz := I6 x
 unfold aeO HC HD
 have e1 : (2 : Int) * (x.size : Int) = ((2 * x.size : Nat) : Int) := by omega
 by_cases hsh : x.size < (n + 1) / 2
 .have d1 : decide (((2 * x.size : Nat) : Int) < (n : Int)) = true := by simp only [decide_eq_true_eq]; omega
  simp (disch := omega) only [aD, dS, and_true, aA, oL, e1, aP, aU, d1, aG]
  exact ⟨.inl hsh, aW.refl _ _⟩
 have d1 : decide (((2 * x.size : Nat) : Int) < (n : Int)) = false := by simp only [decide_eq_false_iff_not]; omega
 simp (disch := omega) only [aD, dS, and_true, aA, oL, e1, aP, aU, d1, aE]
 unfold JW Kq Lb Kl JB
 have hlt := P1 (gA x)
 refine cU.rule (fun m (t : aNk × aNk) w' => ∃ (i : Nat) (v' : aNk), m = n - i /\ t = (v', .int .i64 i) /\ i <= n /\ sM w' w.heap.size 1 v' i (u8s (mP (cF (gA x)) i)) /\ aW w w' eU) n
  ⟨0, _, rfl, rfl, by omega, sM.nil _ _ _, aW.refl _ _⟩ ?_
 rintro m t w1 ⟨i, v', rfl, rfl, hi, o1, x1⟩
 have z1 := x1.size
 unfold CM Kp
 by_cases hlt2 : i < n
 .have d2 : decide ((i : Int) < (n : Int)) = true := by simp; omega
  have e3 : (i : Int).tdiv 2 = ((i / 2 : Nat) : Int) := by rw [aK6 (by omega)]; omega
  have e4 : (i : Int).tmod 2 = ((i % 2 : Nat) : Int) := by rw [aLg (by omega)]; omega
  have hi2 : i / 2 < x.size := by omega
  have g1 := agI (x := x) (i := i / 2) hi2
  have t2 : ((i / 2 : Nat) : Int).toNat = i / 2 := aKO _
  have hs := agV (cF (gA x)) i
  have hf : WV (cF (gA x)) i = if i % 2 = 0 then (cF (gA x)).getD (i / 2) 0 / 16 else (cF (gA x)).getD (i / 2) 0 % 16 := rfl
  have hc : (cF (gA x)).getD (i / 2) 0 < 256 := hlt _ (tN (by omega))
  have hcells : u8s (mP (cF (gA x)) i) ++ [.int .u8 (WV (cF (gA x)) i : Nat)] = u8s (mP (cF (gA x)) (i + 1)) := by
   rw [hs]; show _ = List.map _ (_ ++ _); rw [aLe] <;> rfl
  generalize (cF (gA x)).getD (i / 2) 0 = c at *
  generalize WV (cF (gA x)) i = y at *
  by_cases hev : i % 2 = 0
  .have n2 : (((i % 2 : Nat) : Int) == 0) = true := by rw [hev] <;> rfl
   rw [if_pos hev] at hf
   have e5 : (c : Int).tdiv 16 = (y : Int) := by rw [aK6 (by omega)]; omega
   have e6 : IntKind.u8.wrap (y : Int) = (y : Int) := xB (by omega) (by omega)
   simp (disch := omega) only [aD, aU, d2, rH, e4, oP, e3, aP, aA, jA, t2, g1, e5, e6, dU, n2, aG]
   refine aIN o1 (by omega) (by omega) fun v2 w2 o2 x2 => ?_
   rw [hcells] at o2
   unfold zX
   simp (disch := omega) only [aD, bN, aP, aA]
   exact ⟨n - (i + 1), by omega, i + 1, _, rfl, rfl, by omega, o2, x1.trans x2 fun b hb h => by omega⟩
  .have n2 : (((i % 2 : Nat) : Int) == 0) = false := beq_eq_false_iff_ne.2 (by omega)
   rw [if_neg hev] at hf
   have e5 : (c : Int).tmod 16 = (y : Int) := by rw [aLg (by omega)]; omega
   have e6 : IntKind.u8.wrap (y : Int) = (y : Int) := xB (by omega) (by omega)
   simp (disch := omega) only [aD, aU, d2, rH, e4, oP, e3, aP, aA, jA, t2, g1, e5, dU, n2, aE, aG]
   refine aIN o1 (by omega) (by omega) fun v2 w2 o2 x2 => ?_
   rw [hcells] at o2
   unfold zX
   simp (disch := omega) only [aD, bN, aP, aA]
   exact ⟨n - (i + 1), by omega, i + 1, _, rfl, rfl, by omega, o2, x1.trans x2 fun b hb h => by omega⟩
 .have d2 : decide ((i : Int) < (n : Int)) = false := by simp; omega
  obtain rfl : i = n := by omega
  unfold CJ
  rw [<- Vs fun y hy => by have := ZV hlt i y hy; omega] at o1
  have hb1 : Bs w1 v' (nR (mP (cF (gA x)) i)) := o1.sl
  have hcv := dW hb1
  simp (disch := omega) only [aD, aU, d2, rH, oP, aA, dU, hcv, and_true, aE]
  exact ⟨.inr (by omega), x1⟩
def awR (x : ByteArray) (o : Option Nat) (r : aNk) : Prop := match o with
 | none => r = .tuple #[.string ⟨#[]⟩, .int .i64 11]
 | some k => ∃ y : ByteArray, gA y = gA x ++ [UInt8.ofNat k] /\ r = .tuple #[.string y, .int .i64 0]
theorem aEh {x : ByteArray} {w : aNj} (hl : x.size <= 100000) :
 aS pg IC #[.string x] w (fun r w' => awR x (tJ (cF (gA x))) r /\ aW w w' eU) := by
 refine amK ?_
 have hsz := I6 x
 obtain ⟨l, hnl⟩ : ∃ l, cF (gA x) = l := ⟨_, rfl⟩
 rw [hnl] at hsz ⊢
 have no : ¬ (qZ 11 l = true /\ 1 <= l.length /\ l.length <= 255 /\ 0 < dV l /\ bl (dV l) <= 11 /\ 2 ^ (2 ^ bl (dV l) - dV l).log2 = 2 ^ bl (dV l) - dV l) -> tJ l = none := fun h => by
  unfold tJ; rw [if_neg h]
 unfold arK Nt O3
 refine (axM hl).mono ?_
 rintro r w1 ⟨rfl, rfl⟩
 rw [hnl]
 rcases aL9 x.size with h0 | h0
 .have hx : x = ⟨#[]⟩ := Xn (aLq.1 (by rw [gR, h0]))
  have := no (by omega)
  subst hx
  simp (disch := omega) only [aD, vQ, aeI, aA, jI, bH, if_true, aG, cY]
  rw [this]; exact ⟨rfl, aW.refl _ _⟩
 have hne := anU h0
 by_cases h3 : 255 < x.size
 .have d3 : decide ((255 : Int) < (x.size : Int)) = true := by simp; omega
  have := no (by omega)
  simp (disch := omega) only [aD, vQ, hne, aA, dG, bH, aKQ, if_false, bM, dS, dH, d3, jI, if_true, aG, cY]
  rw [this]; exact ⟨rfl, aW.refl _ _⟩
 have d3 : decide ((255 : Int) < (x.size : Int)) = false := by simp; omega
 cases hok : qZ 11 l with
 | false =>
   have := no (by rw [hok]; simp)
   have d4 : decide ((-1 : Int) < 1) = true := rfl
   simp only [aKQ, if_false]
   simp (disch := omega) only [aD, vQ, hne, aA, dG, bH, aKQ, if_false, bM, dS, dH, d3, aU, d4, aG]
   rw [this]; exact ⟨rfl, aW.refl _ _⟩
 | true =>
   have hw := HZ (rJ.1 hok)
   simp only [if_true]
   obtain ⟨s, hs⟩ : ∃ s, dV l = s := ⟨_, rfl⟩
   rw [hs] at no hw ⊢
   by_cases h4 : s < 1
   .have d4 : decide ((s : Int) < 1) = true := by simp; omega
    have := no (by omega)
    simp (disch := omega) only [aD, vQ, hne, aA, dG, bH, aKQ, if_false, bM, dS, dH, d3, aU, d4, aG]
    rw [this]; exact ⟨rfl, aW.refl _ _⟩
   have d4 : decide ((s : Int) < 1) = false := by simp; omega
   have hbl19 : bl s <= 19 := wH (by omega)
   have hlt := Wk s
   have hle := Y9 (k := s) (by omega)
   have hbl0 := Nh (k := s) (by omega)
   simp (disch := omega) only [aD, vQ, hne, aA, dG, bH, aKQ, if_false, bM, dS, dH, d3, aU, d4, aE]
   unfold Nf Np O0
   refine cU.rule (fun m (t : aNk) w' => ∃ d : Nat, m = bl s - d /\ t = .int .i64 d /\ 1 <= d /\ d <= bl s /\ w' = w1) (bl s - 1) ⟨1, rfl, rfl, by omega, by omega, rfl⟩ ?_
   rintro m t w2 ⟨d, rfl, rfl, hd1, hd2, rfl⟩
   unfold Fu
   refine (IP d (by omega) w2).mono ?_
   rintro r w3 ⟨rfl, rfl⟩
   have hpow : ((2 ^ d : Nat) : Int) = (2 : Int) ^ d := by simp
   rw [<- hpow]
   by_cases hq : d < bl s
   .have hp : 2 ^ d <= 2 ^ (bl s - 1) := aKY (by omega) (by omega)
    have d5 : decide (((2 ^ d : Nat) : Int) <= (s : Int)) = true := by simp only [decide_eq_true_eq]; omega
    simp (disch := omega) only [aD, zL, d5, bN, aP, aA, and_true, aG]
    exact ⟨bl s - (d + 1), by omega, d + 1, rfl, rfl, by omega, by omega⟩
   .have hde : d = bl s := by omega
    rw [<- hde] at no hlt hle
    have d5 : decide (((2 ^ d : Nat) : Int) <= (s : Int)) = false := by simp only [decide_eq_false_iff_not]; omega
    unfold Gk
    simp (disch := omega) only [aD, zL, d5, bN, aP, aA, dH, bH, and_true, aE]
    refine (IP d (by omega) w3).mono ?_
    rintro r w4 ⟨rfl, rfl⟩
    rw [<- hpow]
    have hp20 : 2 ^ d <= 2 ^ 19 := aKY (by omega) (by omega)
    have e1 : ((2 ^ d : Nat) : Int) - (s : Int) = ((2 ^ d - s : Nat) : Int) := by omega
    obtain ⟨q, hqq⟩ : ∃ q, 2 ^ d - s = q := ⟨_, rfl⟩
    rw [hqq] at no e1
    simp (disch := omega) only [fE, e1, aP, aA]
    refine (ayV _ w4).mono ?_
    rintro r w5 ⟨hlog, rfl⟩
    by_cases h6 : 11 < d
    .have d6 : decide ((11 : Int) < (d : Int)) = true := by simp; omega
     have := no (by omega)
     obtain ⟨kr, hkr⟩ : ∃ kr : Int, r = .int .i64 kr := by
      rcases hlog with ⟨e, _, _, h⟩ | ⟨_, h⟩
      .exact ⟨_, h⟩
      .exact ⟨_, h⟩
     subst hkr
     simp (disch := omega) only [d6, jI, if_true, bN, aA, eS, aG, cY]
     rw [this]; exact ⟨rfl, aW.refl _ _⟩
    have d6 : decide ((11 : Int) < (d : Int)) = false := by simp; omega
    rcases aEx (by omega) (by omega) hlog with ⟨hp, rfl⟩ | ⟨hp, rfl⟩
    .have hlg : q.log2 < 20 := (Nat.log2_lt (by omega)).2 (by omega)
     have d7 : decide (((q.log2 : Nat) : Int) < 0) = false := by simp
     have hyes : tJ l = some (q.log2 + 1) := by
      unfold tJ
      rw [hs, <- hde, hqq, if_pos ⟨hok, by omega, by omega, by omega, by omega, hp⟩]
     have e2 : ((q.log2 : Nat) : Int) + 1 = ((q.log2 + 1 : Nat) : Int) := by omega
     have e8 : IntKind.u8.wrap ((q.log2 + 1 : Nat) : Int) = ((q.log2 + 1 : Nat) : Int) := xB (by omega) (by omega)
     rw [hyes]
     simp (disch := omega) only [d6, dG, aKQ, if_false, bN, e2, aP, aA, eS, e8, bM, aU, d7, aE]
     refine oZ (cells := #[.int .u8 (q.log2 + 1 : Nat)]) (by decide) (by decide) (by kernel_rfl) fun w6 o6 x6 s6 => ?_
     have hb6 : Bs w6 (.slice (some ⟨w5.heap.size, 0, none⟩) 1 1) [UInt8.ofNat (q.log2 + 1)] := by
      refine ⟨_, _, _, rfl, rfl, aK1 _, fun _ => ⟨_, _, rfl, fun i hi => ?_⟩⟩
      rw [o6.cell, aKP, aL0, aM7, avT (by omega)]
     have hcv := dW hb6
     have hcat := aDD (P := pg) (t := 9) (ox := .tmp 0) (oy := .tmp 0) (w := w6) x ⟨([UInt8.ofNat (q.log2 + 1)] : List UInt8).toArray⟩ (by
      have : (⟨([UInt8.ofNat (q.log2 + 1)] : List UInt8).toArray⟩ : ByteArray).size = 1 := rfl
      omega)
     have hsz1 : (⟨([UInt8.ofNat (q.log2 + 1)] : List UInt8).toArray⟩ : ByteArray).size = 1 := rfl
     simp (disch := omega) only [hcv, aA, aDD]
     refine ⟨⟨_, ?_, rfl⟩, x6⟩
     rw [awQ] <;> rfl
    .have := no (fun h => hp h.2.2.2.2.2)
     have d7 : decide ((-1 : Int) < 0) = true := rfl
     simp (disch := omega) only [d6, dG, aKQ, if_false, bN, aP, aA, eS, xB, bM, aU, d7, aG]
     rw [this]; exact ⟨rfl, aW.refl _ _⟩
def apJ (o : Except Int (List Nat)) (n : Nat) : Except Int (List UInt8 × Nat) := match o with
 | .error e => .error e
 | .ok m => match tJ m with
   | none => .error 11
   | some k => .ok (nR m ++ [UInt8.ofNat k], 1 + n)
def wtR (l : List UInt8) : Except Int (List UInt8 × Nat) := match l with
 | [] => .error 10
 | h :: rest =>
   if 128 <= h.toNat then (if rest.length < (h.toNat - 127 + 1) / 2 then .error 10 else apJ (.ok (mP (cF rest) (h.toNat - 127))) ((h.toNat - 127 + 1) / 2))
   else if rest.length < h.toNat then .error 10 else apJ (vA (rest.take h.toNat)) h.toNat
theorem auP (m : List Nat) (n : Nat) : apJ (.ok m) n = match tJ m with
 | none => .error 11
 | some k => .ok (nR m ++ [UInt8.ofNat k], 1 + n) := rfl
theorem Wd (h : UInt8) (rest : List UInt8) : wtR (h :: rest) = if 128 <= h.toNat then (if rest.length < (h.toNat - 127 + 1) / 2 then .error 10 else apJ (.ok (mP (cF rest) (h.toNat - 127))) ((h.toNat - 127 + 1) / 2))
 else if rest.length < h.toNat then .error 10 else apJ (vA (rest.take h.toNat)) h.toNat := rfl
def aIi (w : aNj) (base : Nat) (o : Except Int (List UInt8 × Nat)) (r : aNk) : Prop := match o with
 | .error e => r = .tuple #[.slice none 0 0, .int .i64 0, .int .i64 e]
 | .ok (m, n) => ∃ v, r = .tuple #[v, .int .i64 (n : Nat), .int .i64 0] /\ sM w base 1 v m.length (m.map vC)
def auY (o : Except Int (List UInt8 × Nat)) (r : aNk) : Prop := match o with
 | .error e => r = .tuple #[.string ⟨#[]⟩, .int .i64 0, .int .i64 e]
 | .ok (m, n) => r = .tuple #[.string ⟨m.toArray⟩, .int .i64 (n : Nat), .int .i64 0]
theorem Wn {l : List UInt8} {e : Int} (h : vA l = .error e) : e ≠ 0 := by
 unfold vA at h
 split at h
 .rename_i hr
  cases h
  exact alM hr
 .split at h
  .cases h; decide
  .split at h
   .cases h; decide
   .split at h
    .cases h; decide
    .cases h
theorem aFu {m : List Nat} {n : Nat} {v : aNk} {w0 w : aNj} (hb : Bs w v (nR m)) (hm : ∀ x ∈ m, x < 256) (hml : m.length <= 1000) (hn : n <= 1000) (x0 : aW w0 w eU) {RR : aNk -> aNj -> Prop}
 (key : ∀ r w', aIi w' w0.heap.size (apJ (.ok m) n) r -> aW w0 w' eU -> RR r w') : qD RR v (.int .i64 n) (.int .i64 0) w := by
 have n1 : ((0 : Int) != 0) = false := rfl
 have hbl : (nR m).length = m.length := by simp
 obtain ⟨av, cv, hv, _⟩ := hb.len
 rw [aKZ, hbl] at hv
 subst hv
 unfold qD
 simp (disch := omega) only [aD, dC, n1, bN, aP, aA, aE]
 refine (aEy hb (by rw [hbl]; omega)).mono ?_
 rintro r w2 ⟨hwo, x2⟩
 rw [Xy hm] at hwo
 rw [auP] at key
 have z0 := x0.size
 cases hw : tJ m with
 | none =>
   rw [hw] at hwo key
   obtain rfl := hwo
   have n2 : ((11 : Int) != 0) = true := rfl
   simp (disch := omega) only [pP, pR, aA, dC, n2, aG]
   exact key _ _ rfl (x0.seq x2)
 | some k =>
   rw [hw] at hwo key
   obtain ⟨v2, rfl, o2⟩ := hwo
   have e5 : (1 : Int) + ((n : Nat) : Int) = ((1 + n : Nat) : Int) := by omega
   simp (disch := omega) only [pP, pR, e5, aA, dC, n1, aE]
   refine key _ _ ⟨v2, rfl, ?_⟩ (x0.seq x2)
   have := o2.lower (a := w0.heap.size) z0
   rw [show (nR m ++ [UInt8.ofNat k]).length = (nR m).length + 1 from by simp]
   exact this
theorem ahO {m : List Nat} {n : Nat} {w0 w : aNj} (hm : ∀ x ∈ m, x < 256) (hml : m.length <= 1000) (hn : n <= 1000) (x0 : aW w0 w eU) {RR : aNk -> aNj -> Prop}
 (key : ∀ r w', auY (apJ (.ok m) n) r -> aW w0 w' eU -> RR r w') : uA RR (.string ⟨(nR m).toArray⟩) (.int .i64 0) (.int .i64 n) w := by
 have n1 : ((0 : Int) != 0) = false := rfl
 have hlm : gA (⟨(nR m).toArray⟩ : ByteArray) = nR m := amR _
 have hzm : (⟨(nR m).toArray⟩ : ByteArray).size = m.length := by rw [<- gR, hlm, aKZ]
 unfold uA
 simp (disch := omega) only [aD, dC, n1, bN, aP, aA, aE]
 refine (aEh (x := ⟨(nR m).toArray⟩) (by omega)).mono ?_
 rintro r w2 ⟨hwo, x2⟩
 rw [hlm, Xy hm] at hwo
 rw [auP] at key
 unfold awR at hwo
 cases hw : tJ m with
 | none =>
   rw [hw] at hwo key
   obtain rfl := hwo
   have n2 : ((11 : Int) != 0) = true := rfl
   simp (disch := omega) only [pP, pR, aA, dC, n2, aG]
   exact key _ _ rfl (x0.seq x2)
 | some k =>
   rw [hw] at hwo key
   obtain ⟨y, hy, rfl⟩ := hwo
   rw [hlm] at hy
   obtain rfl : y = ⟨(nR m ++ [UInt8.ofNat k]).toArray⟩ := Xn (by rw [hy] <;> rfl)
   have e5 : (1 : Int) + ((n : Nat) : Int) = ((1 + n : Nat) : Int) := by omega
   simp (disch := omega) only [pP, pR, e5, aA, dC, n1, aE]
   exact key _ _ rfl (x0.seq x2)
theorem aHt {v : aNk} {l : List UInt8} {w : aNj} (h : Bs w v l) (hl : l.length <= 10000) :
 aS pg Bv #[v] w (fun r w' => aIi w' w.heap.size (wtR l) r /\ aW w w' eU) := by
 cases l with
 | nil =>
   refine Ff ?_
   obtain ⟨a, c, rfl, _⟩ := h.len
   unfold Mu Aa zT
   have n0 : ((([] : List aNk).length : Int) == 0) = true := rfl
   simp (disch := omega) only [aD, aV, aA, dU]
   exact ⟨rfl, aW.refl _ _⟩
 | cons hd rest =>
   have hhd : hd.toNat < 256 := aLv _
   have hof : UInt8.ofNat hd.toNat = hd := by simp
   rw [aLa] at hl
   rw [Wd]
   by_cases h128 : 128 <= hd.toNat
   .rw [if_pos h128]
    refine (aBk (h := hd.toNat) (rest := rest) h (by rw [hof]) h128 hhd (by omega)).mono ?_
    rintro r w' ⟨hdo, x⟩
    refine ⟨?_, x⟩
    unfold Po at hdo
    by_cases hsh : rest.length < (hd.toNat - 127 + 1) / 2
    .rw [if_pos hsh] at hdo ⊢; exact hdo
    .rw [if_neg hsh] at hdo ⊢
     rw [auP]
     cases hw : tJ (mP (cF rest) (hd.toNat - 127)) with
     | none => rw [hw] at hdo; exact hdo
     | some k =>
       rw [hw] at hdo
       obtain ⟨v', rfl, o⟩ := hdo
       refine ⟨v', rfl, ?_⟩
       rw [show (nR (mP (cF rest) (hd.toNat - 127)) ++ [UInt8.ofNat k]).length = hd.toNat - 127 + 1 from by simp [A9]]
       exact o
   rw [if_neg h128]
   refine Ff ?_
   obtain ⟨RR, hRR⟩ : ∃ RR : aNk -> aNj -> Prop, RR = fun r w' => aIi w' w.heap.size (if rest.length < hd.toNat then .error 10 else apJ (vA (rest.take hd.toNat)) hd.toNat) r /\ aW w w' eU := ⟨_, rfl⟩
   rw [<- hRR]
   have key : ∀ r w', aIi w' w.heap.size (if rest.length < hd.toNat then .error 10 else apJ (vA (rest.take hd.toNat)) hd.toNat) r -> aW w w' eU -> RR r w' := fun r w' h1 h2 => by rw [hRR]; exact ⟨h1, h2⟩
   obtain ⟨b, off, c, rfl, hc, hcell⟩ := OE h (by simp)
   have g0 := hcell 0 (by simp)
   rw [aMk] at g0
   have hsub := h.drop' (k := 1) (by simp)
   rw [aL0, aL6, aKU, aLa, aLO] at hsub
   have hsub : Bs w _ rest := hsub
   rw [aLa] at hc ⊢
   generalize hd.toNat = q at *
   have n0 : (((rest.length + 1 : Nat) : Int) == 0) = false := beq_eq_false_iff_ne.2 (by omega)
   have d1 : decide ((128 : Int) <= (q : Int)) = false := by simp; omega
   have t0 : (0 : Int).toNat = 0 := rfl
   have t1 : (1 : Int).toNat = 1 := rfl
   have e11 : rest.length + 1 - 1 = rest.length := by omega
   unfold Mu Aa zT
   by_cases hsh : rest.length < q
   .rw [if_pos hsh] at key
    have d2 : decide ((rest.length : Int) < (q : Int)) = true := by simp; omega
    simp (disch := omega) only [aD, aV, dM, t0, eH, t1, e11, aA, iH, dU, n0, g0, aH, dT, aP, nE, d1, fE, bN, oP, aU, d2, aG, aE]
    have n1 : ((10 : Int) != 0) = true := rfl
    unfold qD
    simp (disch := omega) only [aD, dC, n1, bN, aP, aA, aG]
    exact key _ _ rfl (aW.refl _ _)
   .rw [if_neg hsh] at key
    have d2 : decide ((rest.length : Int) < (q : Int)) = false := by simp; omega
    have tq : (q : Int).toNat = q := aKO _
    have hcl : rest.length <= c - 1 := by omega
    have htk := hsub.take' (k := q) (by omega)
    rw [<- aME] at htk
    have htk : Bs w _ (rest.take q) := htk
    have htl : (rest.take q).length = q := by rw [aK2]; omega
    simp (disch := omega) only [aD, aV, dM, t0, eH, t1, e11, aA, iH, dU, n0, g0, aH, dT, aP, nE, d1, fE, bN, oP, aU, d2, iX, tq, aE]
    refine (aGH htk (by omega)).mono ?_
    rintro r w2 ⟨hst, x2⟩
    cases hs : vA (rest.take q) with
    | error e =>
      rw [hs] at hst key
      have he := Wn hs
      obtain rfl := hst
      have n1 : (e != 0) = true := by simp [he]
      unfold qD
      simp (disch := omega) only [pP, pR, aD, bN, aP, aA, dC, n1, aG]
      exact key _ _ rfl x2
    | ok m =>
      rw [hs] at hst key
      obtain ⟨hm1, hm2⟩ := axN hs
      obtain ⟨v2, rfl, o2⟩ := hst
      have hb2 : Bs w2 v2 (nR m) := o2.sl
      simp (disch := omega) only [pP, pR, aA]
      exact aFu hb2 hm1 (by omega) (by omega) x2 key
theorem aEl {x : ByteArray} {w : aNj} (hl : x.size <= 10000) :
 aS pg Mt #[.string x] w (fun r w' => auY (wtR (gA x)) r /\ aW w w' eU) := by
 refine asZ ?_
 obtain ⟨RR, hRR⟩ : ∃ RR : aNk -> aNj -> Prop, RR = fun r w' => auY (wtR (gA x)) r /\ aW w w' eU := ⟨_, rfl⟩
 rw [<- hRR]
 have key : ∀ r w', auY (wtR (gA x)) r -> aW w w' eU -> RR r w' := fun r w' h1 h2 => by rw [hRR]; exact ⟨h1, h2⟩
 have hll := gR x
 unfold ayA Qz Rn
 cases hx : gA x with
 | nil =>
   rw [hx] at hll key
   have hxe : x = ⟨#[]⟩ := Xn hx
   subst hxe
   simp (disch := omega) only [aD, vQ, aeI, dS, aA, fE, aP, aG]
   exact key _ _ rfl (aW.refl _ _)
 | cons hd rest =>
   have hhd : hd.toNat < 256 := aLv _
   rw [hx, aLa] at hll
   have hen := anU (x := x) (by omega)
   have g0 : (x[0]'(by omega)).toNat = hd.toNat := by
    have := PV x 0 (by omega)
    rw [this]; simp only [hx, aMk]
   have t0 : (0 : Int).toNat = 0 := rfl
   have t1 : (1 : Int).toNat = 1 := rfl
   rw [hx] at key
   rw [Wd] at key
   have le1 : gA (x.extract 1 x.size) = rest := by
    rw [BC, hx, aL6, aKU, aLn (by omega)]
   have lz1 : (x.extract 1 x.size).size = rest.length := by rw [<- gR, le1]
   generalize hd.toNat = q at *
   by_cases h128 : 128 <= q
   .rw [if_pos h128] at key
    have d1 : decide ((128 : Int) <= (q : Int)) = true := by simp; omega
    have e1 : (q : Int) - 127 = ((q - 127 : Nat) : Int) := by omega
    have e2 : ((q - 127 : Nat) : Int) + 1 = ((q - 127 + 1 : Nat) : Int) := by omega
    have e3 : ((q - 127 + 1 : Nat) : Int).tdiv 2 = (((q - 127 + 1) / 2 : Nat) : Int) := by rw [aK6 (by omega)]; omega
    simp (disch := omega) only [aD, vQ, hen, jA, t0, g0, jV, t1, aA, dS, fE, aP, dT, nE, d1, e1, bN, e2, oP, e3, aU, aG, aE]
    refine (aC9 (x := x.extract 1 x.size) (n := q - 127) (by omega) (by omega)).mono ?_
    rintro r w2 ⟨hr, x2⟩
    rw [le1, lz1] at hr
    rcases hr with ⟨hsh, rfl⟩ | ⟨hsh, rfl⟩
    .rw [if_pos hsh] at key
     have n1 : ((10 : Int) != 0) = true := rfl
     unfold uA
     simp (disch := omega) only [pP, pR, aD, bN, aP, aA, dC, n1, aG]
     exact key _ _ rfl x2
    .rw [if_neg (by omega)] at key
     simp (disch := omega) only [pP, pR, aA]
     exact ahO (m := mP (cF rest) (q - 127)) (fun y hy => by have := ZV (P1 rest) _ y hy; omega) (by rw [A9]; omega) (by omega) x2 key
   .rw [if_neg h128] at key
    have d1 : decide ((128 : Int) <= (q : Int)) = false := by simp; omega
    have e1 : (x.size : Int) - 1 = ((rest.length : Nat) : Int) := by omega
    by_cases hsh : rest.length < q
    .rw [if_pos hsh] at key
     have d2 : decide ((rest.length : Int) < (q : Int)) = true := by simp; omega
     simp (disch := omega) only [aD, vQ, hen, jA, t0, g0, jV, t1, aA, dS, fE, e1, aP, dT, nE, d1, bN, oP, aU, d2, aG, aE]
     have n1 : ((10 : Int) != 0) = true := rfl
     unfold uA
     simp (disch := omega) only [aD, dC, n1, bN, aP, aA, aG]
     exact key _ _ rfl (aW.refl _ _)
    .rw [if_neg hsh] at key
     have d2 : decide ((rest.length : Int) < (q : Int)) = false := by simp; omega
     have e2 : (1 : Int) + (q : Int) = ((1 + q : Nat) : Int) := by omega
     have tq : ((1 + q : Nat) : Int).toNat = 1 + q := aKO _
     have le2 : gA (x.extract 1 (1 + q)) = rest.take q := by
      rw [BC, hx, aL6, aKU, Nat.add_sub_cancel_left]
     have lz2 : (x.extract 1 (1 + q)).size = q := by rw [<- gR, le2, aK2]; omega
     simp (disch := omega) only [aD, vQ, hen, jA, t0, g0, jV, t1, aA, dS, fE, e1, aP, dT, nE, d1, bN, oP, aU, d2, e2, jC, tq, aE]
     refine (aCX (x := x.extract 1 (1 + q)) (by omega)).mono ?_
     rintro r w2 ⟨hst, x2⟩
     rw [le2] at hst
     cases hs : vA (rest.take q) with
     | error e =>
       rw [hs] at hst key
       have he := Wn hs
       obtain rfl := hst
       have n1 : (e != 0) = true := by simp [he]
       unfold uA
       simp (disch := omega) only [pP, pR, aD, bN, aP, aA, dC, n1, aG]
       exact key _ _ rfl x2
     | ok m =>
       rw [hs] at hst key
       obtain ⟨hm1, hm2⟩ := axN hs
       obtain rfl := hst
       simp (disch := omega) only [pP, pR, aA]
       exact ahO hm1 (by omega) (by omega) x2 key
def Cm (H : LH) : Nat := if H.kind = 0 then H.count else if H.kind = 1 then 1 else H.bytes
def auL (H : LH) (b old : List UInt8) : Except Int (List UInt8 × List UInt8) :=
 if H.kind = 2 then (match wtR b with | .error e => .error e | .ok p => .ok (p.1, b.drop p.2)) else .ok (old, b)
def Tm (H : LH) (wl b : List UInt8) : Except Int (List Nat) := if H.form = 0 then UC wl b H.count else Jh wl b H.count
def ahV (H : LH) (wl b : List UInt8) : Except Int (List UInt8 × List UInt8 × Nat) :=
 if wl.length = 0 then .error 11 else match Tm H wl b with | .error e => .error e | .ok m => .ok (nR m, wl, H.size + Cm H)
def Zs (H : LH) (b old : List UInt8) : Except Int (List UInt8 × List UInt8 × Nat) :=
 if H.kind = 0 then .ok (b, old, H.size + Cm H)
 else if H.kind = 1 then .ok (List.replicate H.count (b.headD 0), old, H.size + Cm H)
 else match auL H b old with | .error e => .error e | .ok p => ahV H p.1 p.2
def azK (H : LH) (l old : List UInt8) : Except Int (List UInt8 × List UInt8 × Nat) :=
 if (l.drop H.size).length < Cm H then .error 10 else Zs H ((l.drop H.size).take (Cm H)) old
def TK (l old : List UInt8) : Except Int (List UInt8 × List UInt8 × Nat) := if (mT l).2 = 0 then azK (mT l).1 l old else .error (mT l).2
theorem aGY {l : List UInt8} {p : List UInt8 × Nat} (h : wtR l = .ok p) : p.1.length <= 256 /\ 2 <= p.1.length /\ p.2 <= l.length := by
 have fin : ∀ {o : Except Int (List Nat)} {n : Nat}, apJ o n = .ok p -> p.1.length <= 256 /\ 2 <= p.1.length /\ p.2 = 1 + n := by
  intro o n h
  unfold apJ at h
  cases o with
  | error e => cases h
  | ok m =>
    simp only at h
    cases hw : tJ m with
    | none => rw [hw] at h; cases h
    | some k =>
      rw [hw] at h; cases h
      have := aBc hw
      have hb : (nR m).length = m.length := by simp [nR]
      simp only [aKV, hb, aLa, List.length_nil]
      exact ⟨by omega, by omega, trivial⟩
 cases l with
 | nil => cases h
 | cons q rest =>
   rw [Wd] at h
   rw [aLa]
   by_cases h1 : 128 <= q.toNat
   .rw [if_pos h1] at h
    by_cases h2 : rest.length < (q.toNat - 127 + 1) / 2
    .rw [if_pos h2] at h; cases h
    .rw [if_neg h2] at h
     have := fin h
     omega
   .rw [if_neg h1] at h
    by_cases h2 : rest.length < q.toNat
    .rw [if_pos h2] at h; cases h
    .rw [if_neg h2] at h
     have := fin h
     omega
theorem aED {l : List UInt8} {e : Int} (h : wtR l = .error e) : e ≠ 0 := by
 have fin : ∀ {o : Except Int (List Nat)} {n : Nat}, (∀ e, o = .error e -> e ≠ 0) -> apJ o n = .error e -> e ≠ 0 := by
  intro o n ho h
  unfold apJ at h
  cases o with
  | error e => cases h; exact ho _ rfl
  | ok m =>
    simp only at h
    cases hw : tJ m with
    | none => rw [hw] at h; cases h; decide
    | some k => rw [hw] at h; cases h
 cases l with
 | nil => cases h; decide
 | cons q rest =>
   rw [Wd] at h
   by_cases h1 : 128 <= q.toNat
   .rw [if_pos h1] at h
    by_cases h2 : rest.length < (q.toNat - 127 + 1) / 2
    .rw [if_pos h2] at h; cases h; decide
    .rw [if_neg h2] at h
     exact fin (fun e h => by cases h) h
   .rw [if_neg h1] at h
    by_cases h2 : rest.length < q.toNat
    .rw [if_pos h2] at h; cases h; decide
    .rw [if_neg h2] at h
     exact fin (fun e h => Wn h) h
theorem aCb {C : List (Nat × Nat)} {e : Int} : ∀ {r : List (Nat × Nat)} {l : List UInt8}, Et C l r = .error e -> e ≠ 0
 | [], l, h => by cases h
 | (k, n) :: r, l, h => by
   rw [Et] at h
   cases h1 : rS C (l.take k) n with
   | error e' =>
     rw [h1] at h; cases h
     have := Xr h1
     omega
   | ok m =>
     rw [h1] at h
     simp only at h
     cases h2 : Et C (l.drop k) r with
     | error e' => rw [h2] at h; cases h; exact aCb h2
     | ok m' => rw [h2] at h; cases h
theorem aCy {H : LH} {wl b : List UInt8} {e : Int} (h : Tm H wl b = .error e) : e ≠ 0 := by
 unfold Tm at h
 by_cases h1 : H.form = 0
 .rw [if_pos h1] at h
  unfold UC at h
  split at h
  .cases h; decide
  .have := Xr h; omega
 .rw [if_neg h1] at h
  unfold Jh at h
  split at h
  .cases h; decide
  .split at h
   .cases h; decide
   .split at h
    .cases h; decide
    .split at h
     .cases h; decide
     .exact aCb h
theorem aFh {lv v : aNk} {wl l : List UInt8} {H : LH} {w : aNj} (hw : Bs w lv wl) (hwl : wl.length <= 100000) (h : Bs w v l) (hl : l.length <= 1000000) (hn : H.count <= 131072) (hf : H.form < 4) :
 aS pg zJ #[lhV H, lv, v] w (fun r w' => TR w' w.heap.size (Tm H wl l) r /\ aW w w' eU) := by
 refine UJ ?_
 unfold SZ Ce
 refine nK fun w1 o1 x1 s1 => ?_
 have o1 : eM w1 w.heap.size [.int .i64 (H.kind : Nat), .int .i64 (H.form : Nat), .int .i64 (H.size : Nat), .int .i64 (H.count : Nat), .int .i64 (H.bytes : Nat)] := o1
 have z1 := x1.size
 have k1 := o1.cell (off := 1)
 have k3 := o1.cell (off := 3)
 simp only [aKM, aKN] at k1 k3
 have hw1 := hw.ext x1 (bZ _)
 have h1 := h.ext x1 (bZ _)
 unfold Tm
 have fin : ∀ {o : Except Int (List Nat)} {r : aNk} {w2 : aNj}, TR w2 w1.heap.size o r -> aW w1 w2 eU →
     aD pg (bQ r 0) w2 fun t16 w_1 => aD pg (bQ r 1) w_1 fun t17 w_2 => (TR w_2 w.heap.size o (.tuple #[t16, t17]) /\ aW w w_2 eU) := by
  intro o r w2 hs x2
  cases o with
  | error e =>
    obtain rfl : r = .tuple #[.slice none 0 0, .int .i64 e] := hs
    simp (disch := omega) only [aD, pP, pR, aA]
    exact ⟨rfl, x1.seq x2⟩
  | ok m =>
    obtain ⟨v', rfl, o⟩ := hs
    simp (disch := omega) only [aD, pP, pR, aA]
    exact ⟨⟨v', rfl, Ah o z1⟩, x1.seq x2⟩
 by_cases h0 : H.form = 0
 .have n0 : ((H.form : Int) == 0) = true := by rw [h0] <;> rfl
  rw [if_pos h0]
  simp (disch := omega) only [aD, cA, aKP, bP, aA, bO, k1, aH, dU, n0, k3, aG]
  exact (aCD hw1 hwl h1 hl hn).mono fun r w2 hr => fin hr.1 hr.2
 .have n0 : ((H.form : Int) == 0) = false := beq_eq_false_iff_ne.2 (by omega)
  rw [if_neg h0]
  simp (disch := omega) only [aD, cA, aKP, bP, aA, bO, k1, aH, dU, n0, k3, aE]
  exact (aAW hw1 hwl h1 hl hn).mono fun r w2 hr => fin hr.1 hr.2
def aiZ (w : aNj) (base : Nat) (o : Except Int (List UInt8 × List UInt8 × Nat)) (r : aNk) : Prop := match o with
 | .error e => r = .tuple #[.slice none 0 0, .slice none 0 0, .int .i64 0, .int .i64 e]
 | .ok (m, u, n) => ∃ v x, r = .tuple #[v, x, .int .i64 (n : Nat), .int .i64 0] /\ sM w base 1 v m.length (m.map vC) /\ sM w base 1 x u.length (u.map vC)
theorem aiZ.low {w : aNj} {b b' : Nat} {o : Except Int (List UInt8 × List UInt8 × Nat)} {r : aNk} (h : aiZ w b o r) (hb : b' <= b) : aiZ w b' o r := by
 cases o with
 | error e => exact h
 | ok p =>
   obtain ⟨m, u, n⟩ := p
   obtain ⟨v, x, rfl, h1, h2⟩ := h
   exact ⟨v, x, rfl, Ah h1 hb, Ah h2 hb⟩
abbrev lhC (H : LH) (y : Nat) : List aNk := [.int .i64 (H.kind : Nat), .int .i64 (H.form : Nat), .int .i64 (H.size : Nat), .int .i64 (H.count : Nat), .int .i64 (y : Nat)]
theorem aBV {C : List (Nat × Nat)} {s : List UInt8} {n : Nat} {m : List Nat} (hC : C.length <= 256) (hF : XF C (pE C)) (h : rS C s n = .ok m) : ∀ x ∈ m, x < 256 := by
 unfold rS at h
 split at h
 .cases h
 .split at h
  .cases h
  .split at h
   .cases h
   .cases h
    intro x hx
    have := avK hF x hx
    omega
theorem aEE {C : List (Nat × Nat)} (hC : C.length <= 256) (hF : XF C (pE C)) : ∀ {r : List (Nat × Nat)} {s : List UInt8} {m : List Nat}, Et C s r = .ok m -> ∀ x ∈ m, x < 256
 | [], s, m, h, x, hx => by cases h; cases hx
 | (k, n) :: r, s, m, h, x, hx => by
   rw [Et] at h
   cases h1 : rS C (s.take k) n with
   | error e => rw [h1] at h; cases h
   | ok m1 =>
     rw [h1] at h
     simp only at h
     cases h2 : Et C (s.drop k) r with
     | error e => rw [h2] at h; cases h
     | ok m2 =>
       rw [h2] at h; cases h
       rcases aLx.1 hx with hx | hx
       .exact aBV hC hF h1 x hx
       .exact aEE hC hF h2 x hx
theorem aIj {H : LH} {wl b : List UInt8} {m : List Nat} (h : Tm H wl b = .ok m) : ∀ x ∈ m, x < 256 := by
 unfold Tm at h
 split at h
 .unfold UC at h
  split at h
  .cases h
  .rename_i hd
   obtain ⟨hF, hm, hC⟩ := WOk.full hd
   exact aBV hC hF h
 .unfold Jh at h
  split at h
  .cases h
  .rename_i hd
   obtain ⟨hF, hm, hC⟩ := WOk.full hd
   split at h
   .cases h
   .split at h
    .cases h
    .split at h
     .cases h
     .exact aEE hC hF h
theorem aHO {H : LH} {wl b : List UInt8} {m : List Nat} (h : Tm H wl b = .ok m) : u8n m = (nR m).map vC := (Vs (aIj h)).symm
theorem aAO {RR : aNk -> aNj -> Prop} {bv lv : aNk} {H : LH} {b wl : List UInt8} {p : Nat} {w : aNj} (o : eM w p (lhC H (Cm H))) (hb : Bs w bv b) (hbl : b.length <= 1000000) (hw : Bs w lv wl) (hwl : wl.length <= 100000) (hc : H.count <= 131072) (hf : H.form < 4)
 (hk : ∀ r w', aiZ w' w.heap.size (ahV H wl b) r -> aW w w' eU -> RR r w') :
 yH (fun fO tQ mB A5 w => yF RR fO tQ mB A5 w) RR bv (.pointer (some ⟨p, 0, none⟩)) (.int .i64 (H.size + Cm H : Nat)) lv w := by
 unfold yH
 have hwo := hw
 obtain ⟨a, c, rfl, hcc⟩ := hw.len
 rw [aKZ] at *
 by_cases h0 : wl.length = 0
 .have n0 : ((wl.length : Int) == 0) = true := by rw [h0] <;> rfl
  simp (disch := omega) only [aD, aV, aA, dU, n0, aG]
  exact hk _ _ (by unfold ahV; rw [if_pos h0] <;> rfl) (aW.refl _ _)
 have n0 : ((wl.length : Int) == 0) = false := beq_eq_false_iff_ne.2 (by omega)
 simp (disch := omega) only [aD, aV, aA, dU, n0, aE]
 unfold yF
 have q := PR (off := 0) o (by simp)
 simp only [aKU, aKT, aKX] at q
 simp (disch := omega) only [aD, q, aA]
 refine (aFh (H := ⟨H.kind, H.form, H.size, H.count, Cm H⟩) hwo hwl hb hbl hc hf).mono ?_
 rintro r w1 ⟨hs, x1⟩
 have hs : TR w1 w.heap.size (Tm H wl b) r := hs
 have z1 := x1.size
 cases hd : Tm H wl b with
 | error e =>
   rw [hd] at hs
   obtain rfl : r = .tuple #[.slice none 0 0, .int .i64 e] := hs
   have n1 : (e != 0) = true := by simp [aCy hd]
   simp (disch := omega) only [pP, pR, aA, dC, n1, aG]
   exact hk _ _ (by unfold ahV; rw [if_neg h0, hd] <;> rfl) x1
 | ok m =>
   rw [hd] at hs
   obtain ⟨v', rfl, o1⟩ := hs
   have n1 : ((0 : Int) != 0) = false := rfl
   simp (disch := omega) only [pP, pR, aA, dC, n1, aE]
   refine (Is (hwo.ext x1 (bZ _)) (by omega)).mono ?_
   rintro r w2 ⟨o2, x2⟩
   refine hk _ _ ?_ (x1.seq x2)
   unfold ahV
   rw [if_neg h0, hd]
   refine ⟨v', r, rfl, ?_, Ah o2 z1⟩
   rw [aHO hd] at o1
   have o1 := o1.ext x2 (fun _ _ h => h)
   rw [show (nR m).length = m.length from by simp [nR]]
   exact o1
theorem avM {l : List UInt8} (h : (mT l).2 = 0) : (mT l).1.count <= 131072 /\ (mT l).1.size <= l.length /\ (mT l).1.kind < 4 /\ (mT l).1.form < 4 /\ (mT l).1.size <= 5 /\ (mT l).1.bytes < 2 ^ 40 := by
 cases l with
 | nil => exact absurd h (by decide)
 | cons c r =>
   simp only [mT] at h ⊢
   have hs := Sy (c.toNat % 4) (c.toNat / 4 % 4)
   by_cases h1 : (c :: r).length < mG (c.toNat % 4) (c.toNat / 4 % 4)
   .rw [if_pos h1] at h; exact absurd h (by simp)
   .rw [if_neg h1] at h ⊢
    simp only at h ⊢
    have h5 := acB (l := c :: r) hs.2
    refine ⟨?_, by omega, by omega, by omega, hs.2, ?_⟩
    .split at h
     .exact absurd h (by decide)
     .omega
    .exact Nat.lt_of_le_of_lt (aLT (aLP _ _) (aLP _ _)) h5
theorem aFA {RR : aNk -> aNj -> Prop} {v ov : aNk} {H : LH} {b old : List UInt8} {p : Nat} {w : aNj} (o : eM w p (lhC H (Cm H))) (hb : Bs w v b) (hbl : b.length <= 10000) (hby : b.length = Cm H) (ho : Bs w ov old) (hol : old.length <= 100000) (hc : H.count <= 131072) (hf : H.form < 4) (hkd : H.kind < 4)
 (hk : ∀ r w', aiZ w' w.heap.size (Zs H b old) r -> aW w w' eU -> RR r w') :
 BJ RR v ov (.pointer (some ⟨p, 0, none⟩)) (.int .i64 (H.size + Cm H : Nat)) ov w := by
 unfold BJ HL Ij
 have k0 := o.cell (off := 0)
 have k3 := o.cell (off := 3)
 simp only [aKM, aKN] at k0 k3
 simp (disch := omega) only [aD, cN, aA, bO, k0, aH]
 unfold HN SX HW
 rcases (show H.kind = 0 ∨ H.kind = 1 ∨ H.kind = 2 ∨ H.kind = 3 by omega) with h0 | h0 | h0 | h0
 .have n0 : ((H.kind : Int) == 0) = true := by rw [h0] <;> rfl
  simp (disch := omega) only [aD, dU, n0, bP, aKP, aA, bO, true_and, aG]
  refine (Is hb (by omega)).mono ?_
  rintro r w1 ⟨o1, x1⟩
  refine (Is (ho.ext x1 (bZ _)) (by omega)).mono ?_
  rintro r2 w2 ⟨o2, x2⟩
  refine hk _ _ ?_ (x1.seq x2)
  unfold Zs
  rw [if_pos h0]
  exact ⟨r, r2, rfl, o1.ext x2 (fun _ _ h => h), Ah o2 x1.size⟩
 .have n0 : ((H.kind : Int) == 0) = false := by rw [h0] <;> rfl
  have n1 : ((H.kind : Int) == 1) = true := by rw [h0] <;> rfl
  simp (disch := omega) only [aD, dU, n0, n1, bP, aKP, aA, bO, true_and, aG, k3, aH, aE]
  have hy : Cm H = 1 := by unfold Cm; rw [if_neg (by omega), if_pos h0]
  obtain ⟨c, rfl⟩ : ∃ c, b = [c] := by
   match b, hby with
   | [c], _ => exact ⟨c, rfl⟩
   | [], h => rw [hy] at h; simp at h
   | _ :: _ :: _, h => rw [hy] at h; simp at h
  refine (aHd hb hc).mono ?_
  rintro r w1 ⟨o1, x1⟩
  refine (Is (ho.ext x1 (bZ _)) (by omega)).mono ?_
  rintro r2 w2 ⟨o2, x2⟩
  refine hk _ _ ?_ (x1.seq x2)
  unfold Zs
  rw [if_neg (by omega), if_pos h0]
  refine ⟨r, r2, rfl, ?_, Ah o2 x1.size⟩
  have o1 := o1.ext x2 (fun _ _ h => h)
  rw [aLJ, aM9]
  exact o1
 .have n0 : ((H.kind : Int) == 0) = false := by rw [h0] <;> rfl
  have n1 : ((H.kind : Int) == 1) = false := by rw [h0] <;> rfl
  have n2 : ((H.kind : Int) == 2) = true := by rw [h0] <;> rfl
  simp (disch := omega) only [aD, dU, n0, n1, bP, aKP, aA, bO, n2, true_and, aG, aE]
  have hB : Zs H b old = match auL H b old with | .error e => .error e | .ok p => ahV H p.1 p.2 := by
   unfold Zs; rw [if_neg (by omega), if_neg (by omega)] <;> (cases auL H b old <;> rfl)
  have hW : auL H b old = match wtR b with | .error e => .error e | .ok p => .ok (p.1, b.drop p.2) := by unfold auL; rw [if_pos h0] <;> (cases wtR b <;> rfl)
  refine (aHt hb hbl).mono ?_
  rintro r w1 ⟨hr, x1⟩
  cases hq : wtR b with
  | error e =>
    rw [hq] at hr
    obtain rfl : r = .tuple #[.slice none 0 0, .int .i64 0, .int .i64 e] := hr
    have n3 : (e != 0) = true := by simp [aED hq]
    simp (disch := omega) only [Yb, Ya, YH, aA, dC, n3, aG]
    exact hk _ _ (by rw [hB, hW, hq] <;> rfl) x1
  | ok q =>
    have hq2 := aGY hq
    obtain ⟨m, n⟩ := q
    rw [hq] at hr
    obtain ⟨v', rfl, o1⟩ := hr
    simp only at hq2
    have n3 : ((0 : Int) != 0) = false := rfl
    have hb1 := hb.ext (x1.seq (aW.dr w1 eU)) (bZ _)
    obtain ⟨a, nn, cc, rfl, hnn, hcc, _⟩ := hb
    rw [aKZ] at hnn
    subst hnn
    have hdp := hb1.drop' (k := n) hq2.2.2
    rw [<- aMx] at hdp
    have tn : (n : Int).toNat = n := aKO _
    simp (disch := omega) only [Yb, Ya, YH, aA, dC, n3, aE, eH, tn, true_and]
    have z1 := x1.size
    refine aAO (jW (o.ext x1 (fun h => h))) hdp (by rw [aK7]; omega) ((o1.ext (aW.dr w1 eU) (fun _ _ h => h)).sl) (by omega) hc hf fun r w2 hr2 x2 => ?_
    refine hk _ _ ?_ ((x1.seq (aW.dr w1 eU)).seq x2)
    rw [hB, hW, hq]
    exact hr2.low z1
 .have n0 : ((H.kind : Int) == 0) = false := by rw [h0] <;> rfl
  have n1 : ((H.kind : Int) == 1) = false := by rw [h0] <;> rfl
  have n2 : ((H.kind : Int) == 2) = false := by rw [h0] <;> rfl
  simp (disch := omega) only [aD, dU, n0, n1, bP, aKP, aA, bO, n2, true_and, aE]
  refine aAO o hb (by omega) ho hol hc hf fun r w2 hr2 x2 => ?_
  refine hk _ _ ?_ x2
  unfold Zs auL
  rw [if_neg (by omega), if_neg (by omega), if_neg (by omega)]
  exact hr2
theorem aAl {v ov : aNk} {l old : List UInt8} {w : aNj} (h : Bs w v l) (hl : l.length <= 10000) (ho : Bs w ov old) (hol : old.length <= 100000) :
 aS pg vS #[v, ov] w (fun r w' => aiZ w' w.heap.size (TK l old) r /\ aW w w' eU) := by
 refine abA ?_
 obtain ⟨RR, hRR⟩ : ∃ RR : aNk -> aNj -> Prop, RR = fun r w' => aiZ w' w.heap.size (TK l old) r /\ aW w w' eU := ⟨_, rfl⟩
 rw [<- hRR]
 have key : ∀ r w', aiZ w' w.heap.size (TK l old) r -> aW w w' eU -> RR r w' := fun r w' h1 h2 => by rw [hRR]; exact ⟨h1, h2⟩
 unfold YQ GK EY
 refine (aHJ h (by omega)).mono ?_
 rintro r w1 ⟨hr, x1⟩
 have z1 := x1.size
 by_cases he : (mT l).2 = 0
 .have hr : r = .tuple #[lhV (mT l).1, .int .i64 0] := by have := hr; unfold OpR at this; rw [if_pos he] at this; exact this
  subst hr
  obtain ⟨h1, h2, h3, h4, h5, h6⟩ := avM he
  have hR : TK l old = azK (mT l).1 l old := by unfold TK; rw [if_pos he]
  rw [hR] at key
  generalize (mT l).1 = H at *
  have n0 : ((0 : Int) != 0) = false := rfl
  unfold lhV
  simp (disch := omega) only [aD, pP, pR, aA, dC]
  refine BM fun w2 o2 x2 s2 => ?_
  refine rD o2 rfl (by simp [one]) (by simp) fun w3 o3 x3 s3 => ?_
  simp only [bK, aKS, aKR] at o3
  have x03 : aW w w3 eU := x1.seq (x2.new x3 (aK1 _))
  obtain ⟨p, hp⟩ : ∃ p, p = w1.heap.size := ⟨_, rfl⟩
  rw [<- hp] at o3 ⊢
  have k0 := o3.cell (off := 0)
  have k2 := o3.cell (off := 2)
  have k3 := o3.cell (off := 3)
  simp only [aKM, aKN] at k0 k2 k3
  have hh := h
  obtain ⟨a, nn, cc, rfl, hnn, hcc, _⟩ := h
  rw [aKZ] at hnn
  subst hnn
  have hdp := (hh.ext x03 (bZ _)).drop' (k := H.size) h2
  rw [<- aMx] at hdp
  have hbody : ∀ w4, eM w4 p (lhC H (Cm H)) -> aW w3 w4 (fun y => y = p) -> AZ RR (.slice (mU a cc H.size 1) (l.length - H.size) (cc - H.size)) ov (.pointer (some ⟨p, 0, none⟩)) w4 := by
   intro w4 o4 x4
   have x04 : aW w w4 eU := x03.trans x4 fun y hy h => by omega
   have z4 := x04.size
   have hdp4 := (hh.ext x04 (bZ _)).drop' (k := H.size) h2
   rw [<- aMx] at hdp4
   have c0 := o4.cell (off := 0)
   have c2 := o4.cell (off := 2)
   have c4 := o4.cell (off := 4)
   simp only [aKM, aKN] at c0 c2 c4
   have ty : (Cm H : Int).toNat = Cm H := aKO _
   have hyb : Cm H < 2 ^ 41 := by unfold Cm; split <;> (try split) <;> omega
   have hlen : (l.drop H.size).length = l.length - H.size := aK7
   unfold AZ Hh
   by_cases hs : l.length - H.size < Cm H
   .have d1 : decide (((l.length - H.size : Nat) : Int) < (Cm H : Int)) = true := by simp; omega
    simp (disch := omega) only [aD, aV, cE, aKP, bG, aA, bO, c4, aH, aU, d1, aG]
    exact key _ _ (by unfold azK; rw [hlen, if_pos hs] <;> rfl) x04
   .have d1 : decide (((l.length - H.size : Nat) : Int) < (Cm H : Int)) = false := by simp; omega
    have e1 : (H.size : Int) + (Cm H : Int) = ((H.size + Cm H : Nat) : Int) := by omega
    have htk := hdp4.take' (k := Cm H) (by omega)
    rw [<- aME] at htk
    have htl : ((l.drop H.size).take (Cm H)).length = Cm H := by rw [aK2, hlen]; omega
    simp (disch := omega) only [aD, aV, cE, aKP, bG, aA, bO, c4, aH, aU, d1, iX, ty, c2, bN, e1, aP, aE]
    refine aFA o4 htk (by omega) htl (ho.ext x04 (bZ _)) hol h1 h4 h3 fun r w5 hr5 x5 => ?_
    refine key _ _ ?_ (x04.seq x5)
    unfold azK
    rw [hlen, if_neg hs]
    exact hr5.low z4
  have ts : (H.size : Int).toNat = H.size := aKO _
  rcases (show H.kind = 0 ∨ H.kind = 1 ∨ H.kind = 2 ∨ H.kind = 3 by omega) with h0 | h0 | h0 | h0
  .have n1 : ((H.kind : Int) == 0) = true := by rw [h0] <;> rfl
   have hy : Cm H = H.count := by unfold Cm; rw [if_pos h0]
   simp (disch := omega) only [n0, bG, aKP, cN, bP, cE, aA, bO, k2, aH, eH, ts, k0, dU, n1, k3, aG, aE]
   refine oY o3 rfl (by simp) fun w4 o4 x4 s4 => ?_
   exact hbody w4 (by rw [hy]; exact o4) x4
  .have n1 : ((H.kind : Int) == 0) = false := by rw [h0] <;> rfl
   have n2 : ((H.kind : Int) == 1) = true := by rw [h0] <;> rfl
   have hy : Cm H = 1 := by unfold Cm; rw [if_neg (by omega), if_pos h0]
   simp (disch := omega) only [n0, bG, aKP, cN, bP, cE, aA, bO, k2, aH, eH, ts, k0, dU, n1, n2, aG, k3, aE]
   refine oY o3 rfl (by simp) fun w4 o4 x4 s4 => ?_
   have e1 : (1 : Int) = ((Cm H : Nat) : Int) := by rw [hy] <;> rfl
   rw [e1] at o4
   exact hbody w4 o4 x4
  .have n1 : ((H.kind : Int) == 0) = false := by rw [h0] <;> rfl
   have n2 : ((H.kind : Int) == 1) = false := by rw [h0] <;> rfl
   have hy : Cm H = H.bytes := by unfold Cm; rw [if_neg (by omega), if_neg (by omega)]
   simp (disch := omega) only [n0, bG, aKP, cN, bP, cE, aA, bO, k2, aH, eH, ts, k0, dU, n1, n2, aE, k3]
   rw [<- hy] at o3
   exact hbody _ o3 (aW.refl _ _)
  .have n1 : ((H.kind : Int) == 0) = false := by rw [h0] <;> rfl
   have n2 : ((H.kind : Int) == 1) = false := by rw [h0] <;> rfl
   have hy : Cm H = H.bytes := by unfold Cm; rw [if_neg (by omega), if_neg (by omega)]
   simp (disch := omega) only [n0, bG, aKP, cN, bP, cE, aA, bO, k2, aH, eH, ts, k0, dU, n1, n2, aE, k3]
   rw [<- hy] at o3
   exact hbody _ o3 (aW.refl _ _)
 .have hr : r = .tuple #[lh0, .int .i64 (mT l).2] := by have := hr; unfold OpR at this; rw [if_neg he] at this; exact this
  subst hr
  have n0 : ((mT l).2 != 0) = true := by simp [he]
  unfold lh0
  simp (disch := omega) only [aD, pP, pR, aA, dC]
  refine BM fun w2 o2 x2 s2 => ?_
  refine rD o2 rfl (by simp [one]) (by simp) fun w3 o3 x3 s3 => ?_
  simp (disch := omega) only [n0, bG, aKP, cN, bP, cE, aA, bO, aG]
  exact key _ _ (by unfold TK; rw [if_neg he] <;> rfl) (x1.seq (x2.new x3 (aK1 _)))
theorem ZG {a b : Nat} (k : Nat) (h : b < 2 ^ k) : a * 2 ^ k ||| b = a * 2 ^ k + b := by
 rw [<- Nat.shiftLeft_eq, Nat.shiftLeft_add_eq_or_of_lt h]
def yI (k n : Nat) : List UInt8 := if n < 32 then pQ (n * 8 + k) 1 else if n < 4096 then pQ (n * 16 + 4 + k) 2 else pQ (n * 16 + 12 + k) 3
theorem aER {k n : Nat} {w : aNj} (hk : k < 2) (hn : n <= 131072) :
 aS pg xY #[.int .i64 k, .int .i64 n] w (fun r w' => sM w' w.heap.size 1 r (yI k n).length ((yI k n).map vC) /\ aW w w' eU) := by
 refine Yu ?_
 obtain ⟨RR, hRR⟩ : ∃ RR : aNk -> aNj -> Prop, RR = fun r w' => sM w' w.heap.size 1 r (yI k n).length ((yI k n).map vC) /\ aW w w' eU := ⟨_, rfl⟩
 rw [<- hRR]
 unfold W8 FJ EJ
 refine (ZD w).mono ?_
 rintro r w1 ⟨rfl, hlt, hc1, x1⟩
 have z1 := x1.size
 have fin : ∀ (X m : Nat) (w2 : aNj), X < 2 ^ 40 -> 1 <= m -> m <= 8 -> pQ X m = yI k n -> w2 = w1 →
     aS pg lF #[.pointer (some ⟨w.heap.size, 0, none⟩), .int .u64 X, .int .i64 m] w2 fun _ w' => wQ RR (.pointer (some ⟨w.heap.size, 0, none⟩)) w' := by
  intro X m w2 hX h1 h8 hp hw
  subst hw
  refine (WG (n := m) hc1 (fun b hb => by omega) (Nat.lt_trans hX (by decide)) ⟨h1, h8⟩ (aMJ _)).mono ?_
  rintro r w3 ⟨rfl, hc3, x3⟩
  rw [aL8, hp] at hc3
  have hpl : (yI k n).length <= 8 := by rw [<- hp, oC]; exact h8
  unfold wQ
  have hpl2 : (yI k n).length <= 1000000000 := aLT hpl (by decide)
  have hout := ayL hc3 hpl2
  refine hout.mono ?_
  rintro r w4 ⟨o4, x4⟩
  have x03 : aW w w3 eU := x1.trans x3 fun y hy h => by omega
  have z3 := x03.size
  have hfin : sM w4 w.heap.size 1 r (yI k n).length ((yI k n).map vC) /\ aW w w4 eU := ⟨Ah o4 z3, x03.seq x4⟩
  rw [hRR]
  exact hfin
 have t3 : (3 : Int).toNat = 3 := rfl
 have t4 : (4 : Int).toNat = 4 := rfl
 have p3 : (2 : Nat) ^ 3 = 8 := rfl
 have p4 : (2 : Nat) ^ 4 = 16 := rfl
 by_cases h1 : n < 32
 .have d1 : decide ((n : Int) < 32) = true := decide_eq_true (by omega)
  have e1 := afS (a := n) (n := 3) (by omega) (by omega)
  have e2 : orI .i64 ((n * 2 ^ 3 : Nat) : Int) (k : Int) = ((n * 8 + k : Nat) : Int) := by
   rw [aqL (by omega) (by omega), ZG 3 (by omega)]
  have e3 : IntKind.u64.wrap ((n * 8 + k : Nat) : Int) = ((n * 8 + k : Nat) : Int) := kR (by omega) (by omega)
  simp (disch := omega) only [aD, aU, d1, pA, t3, e1, aA, KZ, e2, fU, e3, aG]
  exact fin (n * 8 + k) 1 _ (by omega) (by omega) (by omega) (by unfold yI; rw [if_pos h1]) rfl
 have d1 : decide ((n : Int) < 32) = false := decide_eq_false (by omega)
 have e1 := afS (a := n) (n := 4) (by omega) (by omega)
 by_cases h2 : n < 4096
 .have d2 : decide ((n : Int) < 4096) = true := decide_eq_true (by omega)
  have e2 : orI .i64 ((n * 2 ^ 4 : Nat) : Int) 4 = ((n * 16 + 4 : Nat) : Int) := by
   have := aqL (a := n * 2 ^ 4) (b := 4) (by omega) (by omega)
   rw [ZG 4 (by omega)] at this
   exact this
  have e3 : orI .i64 ((n * 16 + 4 : Nat) : Int) (k : Int) = ((n * 16 + 4 + k : Nat) : Int) := by
   rw [aqL (by omega) (by omega), show n * 16 + 4 = (n * 4 + 1) * 2 ^ 2 from by omega, ZG 2 (by omega)]
  have e4 : IntKind.u64.wrap ((n * 16 + 4 + k : Nat) : Int) = ((n * 16 + 4 + k : Nat) : Int) := kR (by omega) (by omega)
  simp (disch := omega) only [aD, aU, d1, pA, aA, KZ, fU, d2, t4, e1, e2, e3, e4, aG, aE]
  exact fin (n * 16 + 4 + k) 2 _ (by omega) (by omega) (by omega) (by unfold yI; rw [if_neg h1, if_pos h2]) rfl
 .have d2 : decide ((n : Int) < 4096) = false := decide_eq_false (by omega)
  have e2 : orI .i64 ((n * 2 ^ 4 : Nat) : Int) 12 = ((n * 16 + 12 : Nat) : Int) := by
   have := aqL (a := n * 2 ^ 4) (b := 12) (by omega) (by omega)
   rw [ZG 4 (by omega)] at this
   exact this
  have e3 : orI .i64 ((n * 16 + 12 : Nat) : Int) (k : Int) = ((n * 16 + 12 + k : Nat) : Int) := by
   rw [aqL (by omega) (by omega), show n * 16 + 12 = (n * 4 + 3) * 2 ^ 2 from by omega, ZG 2 (by omega)]
  have e4 : IntKind.u64.wrap ((n * 16 + 12 + k : Nat) : Int) = ((n * 16 + 12 + k : Nat) : Int) := kR (by omega) (by omega)
  simp (disch := omega) only [aD, aU, d1, pA, aA, KZ, fU, d2, t4, e1, e2, e3, e4, aE]
  exact fin (n * 16 + 12 + k) 3 _ (by omega) (by omega) (by omega) (by unfold yI; rw [if_neg h1, if_neg h2]) rfl
theorem awE (k n : Nat) : (yI k n).length <= 3 := by
 unfold yI; split
 .simp [oC]
 .split <;> simp [oC]
theorem aJ9 {v : aNk} {l : List UInt8} {w : aNj} (h : Bs w v l) (hl : l.length <= 131072) :
 aS pg GI #[v] w (fun r w' => ∃ x, r = .tuple #[x, .int .i64 0] /\ sM w' w.heap.size 1 x (yI 0 l.length ++ l).length ((yI 0 l.length ++ l).map vC) /\ aW w w' eU) := by
 refine agQ ?_
 unfold ahJ Lf
 have hv := h
 obtain ⟨a, c, rfl, hc⟩ := h.len
 rw [aKZ] at *
 have d1 : decide ((l.length : Int) > 131072) = false := decide_eq_false (by omega)
 have d2 : decide ((131072 : Int) < (l.length : Int)) = false := decide_eq_false (by omega)
 simp (disch := omega) only [aD, aV, aA, dH, d1, aE]
 refine (aER (k := 0) (n := l.length) (by omega) hl).mono ?_
 rintro r w1 ⟨o1, x1⟩
 have z1 := x1.size
 have hcl := (hv.ext x1 (bZ _)).cl
 rw [aKZ] at hcl
 have hp := awE 0 l.length
 refine mF o1 hcl (avX _) z1 (by omega) fun v2 w2 o2 x2 => ?_
 refine ⟨v2, rfl, ?_, x1.trans x2 fun y hy h => by omega⟩
 rw [aKV, aLe]
 exact o2
theorem aJy {c : UInt8} {n : Nat} {w : aNj} (hn : n <= 131072) :
 aS pg Du #[vC c, .int .i64 n] w (fun r w' => ∃ x, r = .tuple #[x, .int .i64 0] /\ sM w' w.heap.size 1 x (yI 1 n ++ [c]).length ((yI 1 n ++ [c]).map vC) /\ aW w w' eU) := by
 refine Z3 ?_
 unfold YN Hy
 have d0 : decide ((n : Int) < 0) = false := decide_eq_false (by omega)
 have d1 : decide ((n : Int) > 131072) = false := decide_eq_false (by omega)
 have d2 : decide ((131072 : Int) < (n : Int)) = false := decide_eq_false (by omega)
 simp (disch := omega) only [aD, aU, d0, aA, dG, bH, aKQ, if_false, bM, dH, d1, aE]
 refine (aER (k := 1) (n := n) (by omega) hn).mono ?_
 rintro r w1 ⟨o1, x1⟩
 have z1 := x1.size
 have hp := awE 1 n
 refine oZ (cells := #[vC c]) (by decide) (by decide) (by kernel_rfl) fun w2 o2 x2 s2 => ?_
 have z2 := x2.size
 refine mF (m := 1) (news := [vC c]) (o1.ext x2 (fun _ _ h => h)) (o2.cl (off := 0) (l := [vC c]) (n := 1) rfl (fun i hi => by rw [aKP])) (by simp [one, vC]) (by omega) (by omega) fun v2 w3 o3 x3 => ?_
 refine ⟨v2, rfl, ?_, (x1.seq x2).trans x3 fun y hy h => by omega⟩
 rw [aKV, aLe]
 exact o3
def G9 (kind form n m bits : Nat) : Nat := kind + form * 4 + n * 2 ^ 4 + m * 2 ^ (4 + bits)
theorem aCJ {kind form n m bits size : Nat} {rest : List UInt8} (hk : kind = 2 ∨ kind = 3) (hf : form < 4) (hb : PS form = bits) (hs : mG kind form = size) (h8 : 4 + 2 * bits = 8 * size) (hn : n < 2 ^ bits) (hm : m < 2 ^ bits) (hn2 : n <= 131072) :
 mT (pQ (G9 kind form n m bits) size ++ rest) = (⟨kind, form, size, n, m⟩, 0) := by
 obtain ⟨X, hX⟩ : ∃ X, X = G9 kind form n m bits := ⟨_, rfl⟩
 rw [<- hX]
 have hk4 : kind < 4 := by omega
 have hlow : kind + form * 4 < 16 := by omega
 have e0 : X = (kind + form * 4) + 2 ^ 4 * (n + m * 2 ^ bits) := by
  rw [hX, G9, aLM, aM1, aLm (2 ^ 4) n, aMm]
  congr 2
  rw [Nat.mul_left_comm]
 have e1 : X % 16 = kind + form * 4 := by rw [e0]; omega
 have e2 : X / 2 ^ 4 = n + m * 2 ^ bits := by rw [e0]; omega
 have hbp := aLh bits
 have q1 : (n + m * 2 ^ bits) % 2 ^ bits = n := by rw [Nat.add_mul_mod_self_right]; exact aLt hn
 have q2 : (n + m * 2 ^ bits) / 2 ^ bits = m := by rw [Nat.add_mul_div_right _ _ hbp, aNe hn, aKP]
 have hXlt : X < 256 ^ size := by
  have h1 : n + m * 2 ^ bits < 2 ^ bits * 2 ^ bits := by
   have : (m + 1) * 2 ^ bits <= 2 ^ bits * 2 ^ bits := aLk _ hm
   rw [aLD] at this
   omega
  rw [<- aLM] at h1
  have h2 : (256 : Nat) ^ size = 2 ^ 4 * 2 ^ (bits + bits) := by
   rw [show (256 : Nat) = 2 ^ 8 from rfl, <- Nat.pow_mul, <- h8, <- aLM]; congr 1; omega
  rw [h2, e0]
  generalize 2 ^ (bits + bits) = Y at *
  generalize m * 2 ^ bits = Z at *
  omega
 have hsz := Sy kind form
 obtain ⟨m', rfl⟩ : ∃ m', size = m' + 1 := ⟨size - 1, by omega⟩
 have hp : pQ X (m' + 1) = UInt8.ofNat (X % 256) :: pQ (X / 256) m' := rfl
 have hc : (UInt8.ofNat (X % 256)).toNat = X % 256 := by simp
 have f1 : X % 256 % 4 = kind := by omega
 have f2 : X % 256 / 4 % 4 = form := by omega
 have hW : tD kind form = bits := by unfold tD; rw [if_neg (by omega)]; exact hb
 have hD : qS kind form = 4 := by unfold qS; rw [if_neg (by omega)]
 have hlen : (UInt8.ofNat (X % 256) :: (pQ (X / 256) m' ++ rest)).length = m' + 1 + rest.length := by simp [oC]; omega
 have htk : (UInt8.ofNat (X % 256) :: (pQ (X / 256) m' ++ rest)).take (m' + 1) = pQ X (m' + 1) := by
  rw [hp, <- aLV, aMy (by simp [oC]), aLn (by simp [oC])]
 have q3 : X % 256 ^ (m' + 1) = X := aLt hXlt
 rw [hp, aLV, mT]
 simp only [hc, f1, f2, hs, hD, hW]
 rw [if_neg (by rw [hlen]; omega), htk, anV, q3, e2, q1, q2, if_neg (by omega)]
theorem aBL {a b : List Nat} {n : Nat} (h : (n + 1) / 2 <= a.length) : mP (a ++ b) n = mP a n := by
 unfold mP
 refine aLs fun i hi => ?_
 have hi := aLu.1 hi
 unfold WV
 have : (a ++ b).getD (i / 2) 0 = a.getD (i / 2) 0 := by
  rw [aK0, aK0, aLd (by omega)]
 rw [this]
theorem aIB {wl s : List UInt8} (h : jD (cF wl) ≠ 0) (hl : wl.length <= 129) : wtR (nR (wrB (cF wl)) ++ s) = .ok (wl, (wrB (cF wl)).length) := by
 have hnl := jY wl
 have hok := yA rfl h
 obtain ⟨m, k, hlm, hml, hwh, hhp, htk⟩ := aHn rfl h (by omega)
 have hwl := avY (cF wl)
 have hre : nR (wrB (cF wl)) = UInt8.ofNat (126 + wl.length) :: nR (Ca m) := by
  unfold wrB
  show List.map _ (_ :: _) = _
  rw [aL0, htk, hnl]
 have hrl : (nR (Ca m)).length = (m.length + 1) / 2 := by rw [aKZ, BZ]
 have hh : (UInt8.ofNat (126 + wl.length)).toNat = 126 + wl.length := by simp; omega
 have hm2 : 126 + wl.length - 127 = m.length := by omega
 have hpm : ∀ x ∈ Ca m, x < 256 := fun x hx => aI0 (fun w hw => aLT (hok.1 w hw) hok.2.1) (by omega) x (by
  unfold wrB; rw [htk]; exact aLc _ hx)
 have hnb : cF (nR (Ca m)) = Ca m := Xy hpm
 rw [hre, aLV, Wd, hh, hm2, if_pos (by omega), if_neg (by rw [aKV, hrl]; omega)]
 have hna : cF (nR (Ca m) ++ s) = Ca m ++ cF s := by rw [<- hnb]; simp [cF]
 rw [hna, aBL (by rw [BZ]; omega), hhp, auP]
 have hwm : tJ m = some k := by rw [hhp] at hwh; exact hwh
 rw [hwm]
 simp only
 have hle : nR m ++ [UInt8.ofNat k] = wl := by
  have e : nR (cF wl) = wl := aAw wl
  rw [hlm] at e
  rw [<- e]
  show _ = List.map _ (m ++ [k])
  rw [aLe] <;> rfl
 rw [hle, hwl, hnl]
 congr 2
 omega
theorem aGk {l wl d s more old : List UInt8} {kind form bits size : Nat} (hk : (kind = 2 /\ jD (cF wl) ≠ 0 /\ wl.length <= 129 /\ d = nR (wrB (cF wl))) ∨ (kind = 3 /\ d = [] /\ old = wl)) (hd : jD (cF wl) ≠ 0)
 (hf : form < 4) (hb : PS form = bits) (hs : mG kind form = size) (h8 : 4 + 2 * bits = 8 * size) (hn : l.length < 2 ^ bits) (hm : (d ++ s).length < 2 ^ bits) (hn2 : l.length <= 131072)
 (hr : (if form = 0 then UC wl s l.length else Jh wl s l.length) = .ok (cF l)) :
 TK (pQ (G9 kind form l.length (d ++ s).length bits) size ++ (d ++ s) ++ more) old = .ok (l, wl, (pQ (G9 kind form l.length (d ++ s).length bits) size ++ (d ++ s)).length) := by
 rw [aLj]
 have hk' : kind = 2 ∨ kind = 3 := by rcases hk with h | h; exact .inl h.1; exact .inr h.1
 have hh := aCJ (rest := (d ++ s) ++ more) hk' hf hb hs h8 hn hm hn2
 have hw2 : wl.length ≠ 0 := by
  have := yA rfl hd
  rw [jY] at this
  omega
 have hkn0 : kind ≠ 0 := by omega
 have hkn1 : kind ≠ 1 := by omega
 unfold TK
 rw [hh]
 simp only [if_true]
 unfold azK Cm
 simp only [if_neg hkn0, if_neg hkn1, Xs]
 rw [if_neg (by rw [aKV]; omega), aMQ rfl]
 unfold Zs auL Cm
 simp only [if_neg hkn0, if_neg hkn1]
 have hfin : ahV ⟨kind, form, size, l.length, (d ++ s).length⟩ wl s = .ok (l, wl, size + (d ++ s).length) := by
  unfold ahV Tm Cm
  simp only [if_neg hkn0, if_neg hkn1, if_neg hw2]
  rw [hr]
  simp only [aAw]
 have hlen : (pQ (G9 kind form l.length (d ++ s).length bits) size ++ (d ++ s)).length = size + (d ++ s).length := by rw [aKV, oC]
 rw [hlen]
 rcases hk with ⟨h2, h3, h4, h5⟩ | ⟨h2, h3, h4⟩
 .rw [if_pos h2]
  have := aIB (s := s) h3 h4
  rw [<- h5] at this
  rw [this]
  simp only
  have hdl : (wrB (cF wl)).length = d.length := by rw [h5]; simp [nR]
  rw [hdl, aM5 rfl]
  exact hfin
 .rw [if_neg (by omega)]
  simp only
  subst h3
  subst h4
  exact hfin
def aIQ (w : aNj) (base : Nat) (l wl : List UInt8) (fresh : Bool) (r : aNk) : Prop :=
 (∃ e : Int, r = .tuple #[.slice none 0 0, .int .i64 e] /\ ((l = [] /\ e = 1) ∨ (l ≠ [] /\ fresh = true /\ jD (cF wl) ≠ 0 /\ 129 < wl.length /\ e = 12) ∨ (l ≠ [] /\ (jD (cF wl) = 0 ∨ ∃ s ∈ cF l, bitsOf (wC wl) s = 0) /\ e = 1))) ∨
 (l ≠ [] /\ jD (cF wl) ≠ 0 /\ (∀ s ∈ cF l, 0 < bitsOf (wC wl) s) /\ (fresh = true -> wl.length <= 129) /\ ∃ v bytes, r = .tuple #[v, .int .i64 0] /\ sM w base 1 v bytes.length (bytes.map vC) /\ bytes.length <= 11 * l.length / 8 + 100 /\
   (∃ c t, bytes = c :: t /\ c.toNat % 4 = if fresh then 2 else 3) /\ (∀ more, (mT (bytes ++ more)).1.count = l.length) /\ ∀ more old, (fresh = true ∨ old = wl) -> TK (bytes ++ more) old = .ok (l, wl, bytes.length))
theorem aHM {a b : Nat} (ha : a < 2 ^ 64) (hb : b < 2 ^ 64) : orI .u64 (a : Int) (b : Int) = ((a ||| b : Nat) : Int) := aAZ ha hb
theorem aEn {RR : aNk -> aNj -> Prop} {sv bv : aNk} {l wl B : List UInt8} {kind form bits size : Nat} {fresh : Bool} {w0 w : aNj} (h : Bs w sv l) (hb : Bs w bv B) (hl : l.length <= 131072) (hk : kind < 4) (hf : form < 4) (hbits : bits <= 18) (hsz : 1 <= size /\ size <= 8) (hB : B.length < 2 ^ 18) (hn : l.length < 2 ^ bits)
 (hk' : ∀ r w', sM w' w.heap.size 1 r (pQ (G9 kind form l.length B.length bits) size ++ B).length ((pQ (G9 kind form l.length B.length bits) size ++ B).map vC) -> aW w w' eU -> RR (.tuple #[r, .int .i64 0]) w') :
 sC RR sv (.int .i64 (kind : Nat)) bv (.int .i64 (form : Nat)) (.int .i64 (bits : Nat)) (.int .i64 (size : Nat)) w := by
 unfold sC
 refine (ZD w).mono ?_
 rintro r w1 ⟨rfl, hlt1, hw1, x1⟩
 have z1 := x1.size
 have h1 := h.ext x1 (bZ _)
 have hb1 := hb.ext x1 (bZ _)
 have hbv := hb1
 obtain ⟨a, c, rfl, hc⟩ := h1.len
 obtain ⟨a2, c2, rfl, hc2⟩ := hb1.len
 rw [aKZ] at hbv
 have t2 : (2 : Int).toNat = 2 := rfl
 have t4 : (4 : Int).toNat = 4 := rfl
 have e1 := afS (a := form) (n := 2) (by omega) (by omega)
 have e2 := afS (a := l.length) (n := 4) (by omega) (by omega)
 have e3 : orI .i64 (kind : Int) ((form * 2 ^ 2 : Nat) : Int) = ((kind + form * 4 : Nat) : Int) := by
  rw [aqL (by omega) (by omega), Nat.or_comm, ZG 2 (by omega)]; congr 1; omega
 have e4 : orI .i64 ((kind + form * 4 : Nat) : Int) ((l.length * 2 ^ 4 : Nat) : Int) = ((kind + form * 4 + l.length * 2 ^ 4 : Nat) : Int) := by
  rw [aqL (by omega) (by omega), Nat.or_comm, ZG 4 (by omega)]; congr 1; omega
 have e5 : IntKind.u64.wrap ((kind + form * 4 + l.length * 2 ^ 4 : Nat) : Int) = ((kind + form * 4 + l.length * 2 ^ 4 : Nat) : Int) := kR (by omega) (by omega)
 have e6 : IntKind.u64.wrap (B.length : Int) = (B.length : Int) := kR (by omega) (by omega)
 have e7 : (4 : Int) + (bits : Int) = ((4 + bits : Nat) : Int) := by omega
 have hp22 : 2 ^ (4 + bits) <= 2 ^ 22 := aKY (by omega) (by omega)
 have hm40 : B.length * 2 ^ (4 + bits) < 2 ^ 40 := by
  have h1 : B.length * 2 ^ (4 + bits) <= (2 ^ 18 - 1) * 2 ^ 22 := Nat.mul_le_mul (by omega) hp22
  have : (2 ^ 18 - 1) * 2 ^ 22 < 2 ^ 40 := by decide
  omega
 have e8 : IntKind.u64.wrap ((B.length : Int) * 2 ^ (min (4 + bits) IntKind.u64.bits)) = ((B.length * 2 ^ (4 + bits) : Nat) : Int) := by
  have hmin : min (4 + bits) IntKind.u64.bits = 4 + bits := by
   have : IntKind.u64.bits = 64 := rfl
   omega
  rw [hmin]
  have : (B.length : Int) * 2 ^ (4 + bits) = ((B.length * 2 ^ (4 + bits) : Nat) : Int) := by push_cast; rfl
  rw [this]
  exact kR (by omega) (by omega)
 have hlow : kind + form * 4 + l.length * 2 ^ 4 < 2 ^ (4 + bits) := by
  rw [aLM]
  generalize 2 ^ bits = Y at *
  omega
 have e9 : orI .u64 ((kind + form * 4 + l.length * 2 ^ 4 : Nat) : Int) ((B.length * 2 ^ (4 + bits) : Nat) : Int) = ((G9 kind form l.length B.length bits : Nat) : Int) := by
  rw [aHM (by omega) (by omega), ayU hlow, G9, aLm (2 ^ (4 + bits))]
 have hX : G9 kind form l.length B.length bits < 2 ^ 64 := by unfold G9; omega
 have t8 : ((4 + bits : Nat) : Int).toNat = 4 + bits := aKO _
 simp (disch := omega) only [aD, pA, t2, e1, aKZ, aV, bN, e7, aP, aA, fU, e6, t8, e8, t4, e2, KZ, e3, e4, e5, e9]
 refine (WG (x := G9 kind form l.length B.length bits) (n := size) hw1 (fun y hy => by omega) hX hsz (aMJ _)).mono ?_
 rintro r w2 ⟨rfl, hw2, x2⟩
 have z2 := x2.size
 rw [aL8] at hw2
 have x02 : aW w w2 eU := x1.trans x2 fun y hy h => by omega
 have hb2 := hb.ext x02 (bZ _)
 rw [aKZ] at hb2
 have hp5 : (pQ (G9 kind form l.length B.length bits) size).length <= 8 := by rw [oC]; exact hsz.2
 refine (avL hw2 (fun y hy => by omega) hb2 (by omega)).mono ?_
 rintro r w3 ⟨rfl, hw3, x3⟩
 have z3 := x3.size
 refine (ayL hw3 (by rw [aKV]; omega)).mono ?_
 rintro r w4 ⟨o4, x4⟩
 refine hk' r w4 (Ah o4 (by omega)) ((x02.trans x3 fun y hy h => by omega).seq x4)
def aEz (wl : List UInt8) (n : Nat) (b : List UInt8) : Except Int (List Nat) := if n < 256 then UC wl b n else Jh wl b n
def aJm (n : Nat) : Nat := 11 * n / 8 + 12
theorem aDq {lv sv : aNk} {wl l : List UInt8} {w : aNj} (hw : Bs w lv wl) (hwl : wl.length <= 100000) (h : Bs w sv l) (hl : l.length <= 131072) :
 aS pg xC #[lv, sv] w (fun r w' => aJC w' w.heap.size wl l (aEz wl l.length) (aJm l.length) False r /\ aW w w' eU) := by
 refine Tq ?_
 unfold PQ BD
 have hv := h
 obtain ⟨a, c, rfl, hc⟩ := h.len
 rw [aKZ] at hv ⊢
 by_cases hlt : l.length < 256
 .have d1 : decide ((l.length : Int) < 256) = true := decide_eq_true (by omega)
  simp (disch := omega) only [aD, aV, aA, aU, d1, aG]
  refine (aCo hw hwl hv hl).mono ?_
  rintro r w1 ⟨ho, x1⟩
  rcases ho with ⟨hb, rfl⟩ | ⟨hd, hall, v, bytes, rfl, hbs, hat, hlen, hback⟩
  .simp (disch := omega) only [pP, pR, aA]
   exact ⟨.inl ⟨hb, rfl⟩, x1⟩
  .simp (disch := omega) only [pP, pR, aA]
   refine ⟨.inr ⟨hd, hall, v, bytes, rfl, hbs, hat, ?_, ?_⟩, x1⟩
   .unfold aJm; omega
   .unfold aEz; rw [if_pos hlt]; exact hback
 .have d1 : decide ((l.length : Int) < 256) = false := decide_eq_false (by omega)
  simp (disch := omega) only [aD, aV, aA, aU, d1, aE]
  refine (aBp hw hwl hv hl).mono ?_
  rintro r w1 ⟨ho, x1⟩
  rcases ho with ⟨hb, rfl⟩ | ⟨hd, hall, v, bytes, rfl, hbs, hat, hlen, hback⟩
  .simp (disch := omega) only [pP, pR, aA]
   refine ⟨.inl ⟨?_, rfl⟩, x1⟩
   rcases hb with hb | hb | hb
   .exact .inl hb
   .omega
   .exact .inr (.inr hb)
  .simp (disch := omega) only [pP, pR, aA]
   refine ⟨.inr ⟨hd, hall, v, bytes, rfl, hbs, hat, ?_, ?_⟩, x1⟩
   .unfold aJm; omega
   .unfold aEz; rw [if_neg hlt]; exact hback
theorem aGl {sv lv : aNk} {l wl : List UInt8} {fresh : Bool} {w : aNj} (h : Bs w sv l) (hl : l.length <= 131072) (hw : Bs w lv wl) (hwl : wl.length <= 100000) :
 aS pg AB #[sv, lv, .bool fresh] w (fun r w' => aIQ w' w.heap.size l wl fresh r /\ aW w w' eU) := by
 refine V9 ?_
 obtain ⟨RR, hRR⟩ : ∃ RR : aNk -> aNj -> Prop, RR = fun r w' => aIQ w' w.heap.size l wl fresh r /\ aW w w' eU := ⟨_, rfl⟩
 rw [<- hRR]
 unfold Un D7 DD
 have hv := h
 obtain ⟨a, c, rfl, hc⟩ := h.len
 rw [aKZ] at hv ⊢
 by_cases h0 : l.length = 0
 .have n0 : ((l.length : Int) == 0) = true := by rw [h0] <;> rfl
  simp (disch := omega) only [aD, aV, aA, dU, n0, jI, bH, if_true, aG, cY]
  rw [hRR]
  exact ⟨.inl ⟨1, rfl, .inl ⟨aLq.1 h0, rfl⟩⟩, aW.refl _ _⟩
 have hne : l ≠ [] := fun e => h0 (by rw [e] <;> rfl)
 have n0 : ((l.length : Int) == 0) = false := beq_eq_false_iff_ne.2 (by omega)
 have d1 : decide ((l.length : Int) > 131072) = false := decide_eq_false (by omega)
 have d2 : decide ((131072 : Int) < (l.length : Int)) = false := decide_eq_false (by omega)
 have tail : ∀ (kind : Nat) (d : List UInt8) (dv : aNk) (w1 : aNj), aW w w1 eU -> Bs w1 dv d -> sM w1 w.heap.size 1 dv d.length (d.map vC) -> d.length <= 66 →
     ((kind = 2 /\ fresh = true /\ jD (cF wl) ≠ 0 /\ wl.length <= 129 /\ d = nR (wrB (cF wl))) ∨ (kind = 3 /\ fresh = false /\ d = [])) →
     zF RR (.slice a l.length c) lv (.int .i64 (kind : Nat)) dv w1 := by
  intro kind d dv w1 x1 hdv od hdl hkd
  have z1 := x1.size
  unfold zF Dz
  have hv1 := hv.ext x1 (bZ _)
  have hw1 := hw.ext x1 (bZ _)
  refine (aDq hw1 hwl hv1 hl).mono ?_
  rintro r w2 ⟨ho, x2⟩
  have z2 := x2.size
  rcases ho with ⟨hb, rfl⟩ | ⟨hd, hall, v, bytes, rfl, hbs, hat, hlen, hback⟩
  .have n1 : ((1 : Int) != 0) = true := rfl
   simp (disch := omega) only [aD, pP, pR, aV, aA, aU, bH, dC, n1, aG]
   rw [hRR]
   refine ⟨.inl ⟨1, rfl, .inr (.inr ⟨hne, ?_, rfl⟩)⟩, x1.seq x2⟩
   rcases hb with hb | hb | hb
   .exact .inl hb
   .exact hb.elim
   .exact .inr hb
  .have n1 : ((0 : Int) != 0) = false := rfl
   have hbl : bytes.length <= 11 * l.length / 8 + 12 := hlen
   have od2 := od.ext x2 (fun _ _ h => h)
   have hbv := hbs
   obtain ⟨a2, c2, rfl, hc2⟩ := hbs.len
   rw [aKZ] at hbv
   have hcl := hbv.cl
   rw [aKZ] at hcl
   simp (disch := omega) only [aD, aKZ, pP, pR, aV, aA, aU, bH, dC, n1, aE]
   refine mF od2 hcl (avX _) (by omega) (by omega) fun v3 w3 o3 x3 => ?_
   have z3 := x3.size
   have hs3 : Bs w3 v3 (d ++ bytes) := by
    have := o3.sl
    rw [<- aLe] at this
    exact this
   obtain ⟨a3, c3, rfl⟩ := o3.len
   have hml : (d ++ bytes).length = d.length + bytes.length := aKV
   rw [<- hml]
   have x03 : aW w w3 eU := (x1.seq x2).trans x3 fun y hy h => by omega
   have hv3 := hv.ext x03 (bZ _)
   have d3 : decide ((262144 : Int) <= ((d ++ bytes).length : Int)) = false := decide_eq_false (by omega)
   have d4 : decide (((d ++ bytes).length : Int) ≥ 262144) = false := decide_eq_false (by omega)
   have hkd' : (kind = 2 ∨ kind = 3) /\ (kind % 4 = if fresh then 2 else 3) := by
    rcases hkd with ⟨rfl, hfr, _⟩ | ⟨rfl, hfr, _⟩
    .exact ⟨.inl rfl, by rw [hfr] <;> rfl⟩
    .exact ⟨.inr rfl, by rw [hfr] <;> rfl⟩
   have fin : ∀ (form bits size : Nat), form < 4 -> PS form = bits -> mG kind form = size -> 4 + 2 * bits = 8 * size -> l.length < 2 ^ bits -> (d ++ bytes).length < 2 ^ bits -> (form = 0 ↔ l.length < 256) →
       sC RR (.slice a l.length c) (.int .i64 (kind : Nat)) (.slice a3 (d ++ bytes).length c3) (.int .i64 (form : Nat)) (.int .i64 (bits : Nat)) (.int .i64 (size : Nat)) w3 := by
    intro form bits size hf hb hs h8 hn hm hfi
    have hbd := awY form
    have hsd := Sy kind form
    have hs3' := hs3
    rw [<- hml] at hs3'
    refine aEn (l := l) (B := d ++ bytes) (fresh := fresh) (wl := wl) (w0 := w) hv3 hs3' hl (by omega) hf (by omega) (by omega) (by omega) hn fun r w4 o4 x4 => ?_
    rw [hRR]
    have hpl : (pQ (G9 kind form l.length (d ++ bytes).length bits) size ++ (d ++ bytes)).length = size + (d ++ bytes).length := by rw [aKV, oC]
    refine ⟨.inr ⟨hne, hd, hall, ?_, r, _, rfl, Ah o4 (by omega), ?_, ?_, ?_, ?_⟩, x03.seq x4⟩
    .intro hfr
     rcases hkd with ⟨_, _, _, h4, _⟩ | ⟨_, hfr', _⟩
     .exact h4
     .rw [hfr] at hfr'; cases hfr'
    .rw [hpl]; omega
    .obtain ⟨s', rfl⟩ : ∃ s', size = s' + 1 := ⟨size - 1, by omega⟩
     refine ⟨_, _, rfl, ?_⟩
     have : (UInt8.ofNat (G9 kind form l.length (d ++ bytes).length bits % 256)).toNat = G9 kind form l.length (d ++ bytes).length bits % 256 := by simp
     rw [this, <- hkd'.2]
     unfold G9
     have e : (d ++ bytes).length * 2 ^ (4 + bits) = 16 * ((d ++ bytes).length * 2 ^ bits) := by rw [aLM]; exact Nat.mul_left_comm _ _ _
     rw [e]; omega
    .intro more
     rw [aLj, aCJ hkd'.1 hf hb hs h8 hn hm hl]
    .intro more old hold
     refine aGk ?_ hd hf hb hs h8 hn hm hl ?_
     .rcases hkd with ⟨h2, h3, h4, h5, h6⟩ | ⟨h2, h3, h4⟩
      .exact .inl ⟨h2, h4, h5, h6⟩
      .refine .inr ⟨h2, h4, ?_⟩
       rcases hold with h | h
       .rw [h3] at h; cases h
       .exact h
     .unfold aEz at hback
      by_cases hlt : l.length < 256
      .rw [if_pos (hfi.2 hlt)]; rw [if_pos hlt] at hback; exact hback
      .rw [if_neg (fun h => hlt (hfi.1 h))]; rw [if_neg hlt] at hback; exact hback
   have hmx : (if (((d ++ bytes).length : Nat) : Int) > ((l.length : Nat) : Int) then (((d ++ bytes).length : Nat) : Int) else ((l.length : Nat) : Int)) = ((max l.length (d ++ bytes).length : Nat) : Int) := by split <;> omega
   have hls : ∀ f, mG kind f = if f = 2 then 4 else if f = 3 then 5 else 3 := fun f => by unfold mG; rw [if_neg (by omega)]
   obtain ⟨M, hM⟩ : ∃ M, M = max l.length (d ++ bytes).length := ⟨_, rfl⟩
   rw [<- hM] at hmx
   by_cases hlt : l.length < 256
   .have d5 : decide ((l.length : Int) < 256) = true := decide_eq_true (by omega)
    have d6 : decide ((M : Int) < 1024) = true := decide_eq_true (by omega)
    simp (disch := omega) only [aV, d5, pZ, if_true, aG, bM, aA, AD, hmx, aU, d6, nE, d3, aE]
    exact fin 0 10 3 (by omega) rfl (hls 0) (by omega) (by omega) (by omega) ⟨fun _ => hlt, fun _ => rfl⟩
   have d5 : decide ((l.length : Int) < 256) = false := decide_eq_false (by omega)
   by_cases h1 : M < 1024
   .have d6 : decide ((M : Int) < 1024) = true := decide_eq_true (by omega)
    simp (disch := omega) only [aV, d5, uY, aKQ, if_false, aE, cY, aA, AD, hmx, aU, d6, aG, nE, d3]
    exact fin 1 10 3 (by omega) rfl (hls 1) (by omega) (by omega) (by omega) ⟨fun h => (by omega), fun h => (by omega)⟩
   have d6 : decide ((M : Int) < 1024) = false := decide_eq_false (by omega)
   by_cases h2 : M < 16384
   .have d7 : decide ((M : Int) < 16384) = true := decide_eq_true (by omega)
    simp (disch := omega) only [aV, d5, uY, aKQ, if_false, aE, cY, aA, AD, hmx, aU, d6, d7, aG, nE, d3]
    exact fin 2 14 4 (by omega) rfl (hls 2) (by omega) (by omega) (by omega) ⟨fun h => (by omega), fun h => (by omega)⟩
   .have d7 : decide ((M : Int) < 16384) = false := decide_eq_false (by omega)
    simp (disch := omega) only [aV, d5, uY, aKQ, if_false, aE, cY, aA, AD, hmx, aU, d6, d7, nE, d3]
    exact fin 3 18 5 (by omega) rfl (hls 3) (by omega) (by omega) (by omega) ⟨fun h => (by omega), fun h => (by omega)⟩
 cases fresh with
 | false =>
   simp (disch := omega) only [aD, aV, aE, aA, dU, n0, dG, bH, aKQ, if_false, bM, dH, d1]
   exact tail 3 [] _ w (aW.refl _ _) (Sl.nil w) ⟨rfl, .inl ⟨rfl, rfl⟩⟩ (by simp) (.inr ⟨rfl, rfl, rfl⟩)
 | true =>
   simp (disch := omega) only [aD, aV, aG, aA, dU, n0, dG, bH, aKQ, if_false, bM, dH, d1, aE]
   by_cases hbad : jD (cF wl) = 0 ∨ 129 < wl.length
   .refine (aEb hw hwl hbad).mono ?_
    rintro r w1 ⟨rfl, rfl⟩
    by_cases hd : jD (cF wl) = 0
    .rw [if_pos hd]
     have n1 : ((1 : Int) != 0) = true := rfl
     simp (disch := omega) only [pP, pR, aA, dC, n1, aG]
     rw [hRR]
     exact ⟨.inl ⟨1, rfl, .inr (.inr ⟨hne, .inl hd, rfl⟩)⟩, aW.refl _ _⟩
    .rw [if_neg hd]
     have n1 : ((12 : Int) != 0) = true := rfl
     simp (disch := omega) only [pP, pR, aA, dC, n1, aG]
     rw [hRR]
     exact ⟨.inl ⟨12, rfl, .inr (.inl ⟨hne, rfl, hd, by omega, rfl⟩)⟩, aW.refl _ _⟩
   .have hd : jD (cF wl) ≠ 0 := fun h => hbad (.inl h)
    refine (aHi hw rfl hd (by omega)).mono ?_
    rintro r w1 ⟨v', rfl, o1, x1⟩
    have n1 : ((0 : Int) != 0) = false := rfl
    have hbl : (nR (wrB (cF wl))).length = (wrB (cF wl)).length := by simp [nR]
    have hwl2 := avY (cF wl)
    rw [jY] at hwl2
    have hs := o1.sl
    obtain ⟨a1, c1, rfl⟩ := o1.len
    simp (disch := omega) only [pP, pR, aA, dC, n1, aE]
    exact tail 2 (nR (wrB (cF wl))) _ w1 x1 hs (by rw [hbl]; exact o1) (by omega) (.inl ⟨rfl, rfl, hd, by omega, rfl⟩)
theorem aBm {w : aNj} {b : Nat} {l : List UInt8} (o : eM w b (l.map vC)) : Bs w (.slice (some ⟨b, 0, none⟩) l.length l.length) l :=
 o.bs (aK1 _) fun i hi => by simp [hi]
theorem aFR (w : aNj) : aS pg Co #[] w (fun r w' => r = .bool true /\ aW w w' eU) := by
 refine amP ?_
 unfold aqY Ni
 refine oZ (cells := #[.int .u8 1, .int .u8 2]) (by decide) (by decide) (by kernel_rfl) fun w1 o1 x1 s1 => ?_
 refine (aJ9 (l := [1, 2]) (aBm o1) (by decide)).mono ?_
 rintro r w2 ⟨xa, rfl, oa, x2⟩
 have ea : yI 0 ([1, 2] : List UInt8).length ++ [1, 2] = [16, 1, 2] := by decide
 rw [ea] at oa
 simp (disch := omega) only [aD, pP, pR, aA]
 refine (aJy (c := 7) (n := 3) (by decide)).mono ?_
 rintro r w3 ⟨xb, rfl, ob, x3⟩
 have eb : yI 1 3 ++ [(7 : UInt8)] = [25, 7] := by decide
 rw [eb] at ob
 simp (disch := omega) only [pP, pR, aA]
 refine oZ (cells := #[.int .u8 0, .int .u8 1, .int .u8 2, .int .u8 0]) (by decide) (by decide) (by kernel_rfl) fun w4 o4 x4 s4 => ?_
 refine oZ (cells := #[.int .u8 2, .int .u8 1, .int .u8 1]) (by decide) (by decide) (by kernel_rfl) fun w5 o5 x5 s5 => ?_
 refine (aGl (l := [0, 1, 2, 0]) (wl := [2, 1, 1]) (fresh := true) (aBm (o4.ext x5 (fun h => h))) (by decide) (aBm o5) (by decide)).mono ?_
 rintro r w6 ⟨hp, x6⟩
 have hd : jD (cF [2, 1, 1]) = 2 := by decide +kernel
 have hall : ∀ s ∈ cF [0, 1, 2, 0], 0 < bitsOf (wC [2, 1, 1]) s := by decide +kernel
 rcases hp with ⟨e, -, he⟩ | ⟨-, -, -, -, v, bytes, rfl, o6, hbl, -, -, hread⟩
 .rcases he with he | he | he
  .exact absurd he.1 (by decide)
  .exact absurd he.2.2.2.1 (by decide)
  .rcases he.2.1 with h | ⟨s, h1, h2⟩
   .omega
   .have := hall s h1; omega
 have hread := hread [] [] (.inl rfl)
 rw [aLG] at hread
 have hl4 : ([0, 1, 2, 0] : List UInt8).length = 4 := rfl
 rw [hl4] at hbl
 simp (disch := omega) only [pP, pR, aA]
 refine (aAl (v := v) (l := bytes) o6.sl (by omega) (Sl.nil w6) (old := []) (by decide)).mono ?_
 rintro r w7 ⟨hr, x7⟩
 rw [hread] at hr
 obtain ⟨vl, vw, rfl, ol, ow⟩ := hr
 have hca := dW (l := [16, 1, 2]) (((((oa.sl.ext x3 (bZ _)).ext x4 (bZ _)).ext x5 (bZ _)).ext x6 (bZ _)).ext x7 (bZ _))
 have hcb := dW (l := [25, 7]) ((((ob.sl.ext x4 (bZ _)).ext x5 (bZ _)).ext x6 (bZ _)).ext x7 (bZ _))
 have hcl := dW (l := [0, 1, 2, 0]) ol.sl
 have hcw := dW (l := [2, 1, 1]) ow.sl
 obtain ⟨a6, c6, rfl⟩ := o6.len
 have n0 : ((0 : Int) == 0) = true := rfl
 have n1 : ((bytes.length : Int) == (bytes.length : Int)) = true := by simp
 have sa : ((⟨([16, 1, 2] : List UInt8).toArray⟩ : ByteArray).toList == (⟨#[16, 1, 2]⟩ : ByteArray).toList) = true := aeU _
 have sb : ((⟨([25, 7] : List UInt8).toArray⟩ : ByteArray).toList == (⟨#[25, 7]⟩ : ByteArray).toList) = true := aeU _
 have sl : ((⟨([0, 1, 2, 0] : List UInt8).toArray⟩ : ByteArray).toList == (⟨#[0, 1, 2, 0]⟩ : ByteArray).toList) = true := aeU _
 have sw : ((⟨([2, 1, 1] : List UInt8).toArray⟩ : ByteArray).toList == (⟨#[2, 1, 1]⟩ : ByteArray).toList) = true := aeU _
 simp (maxSteps := 4000000) (disch := omega) only [x40, x41, x42, x43, aA, hca, vQ, sa, pZ, bH, if_true, bM, dU, n0, hcb, sb, hcl, sl, hcw, sw, aV, n1, true_and]
 exact (((((x1.seq x2).seq x3).seq x4).seq x5).seq x6).seq x7
abbrev rv (x : ByteArray) (e : Int) : aNk := .agg #[.string x, .int .i64 e]
theorem aHV {p : Nat} {w : aNj} {x : ByteArray} {e : Int} {c : List aNk} {z : aNk} (o : eM w p c) (hc : c.length = 2) {RR : aNk -> aNj -> Prop}
 (hR : ∀ w', aW w w' (fun y => y = p) -> RR (.tuple #[rv x e, z]) w') :
 aD pg (aR 45 (.pointer (some ⟨p, 0, none⟩)) (rv x e)) w fun _u w => zN pg 45 (.pointer (some ⟨p, 0, none⟩)) w fun r0 => RR (.tuple #[r0, z]) w := by
 match c, hc with
 | [c0, c1], _ =>
   refine lV o rfl (by simp [one]) (by simp) fun w6 o6 x6 s6 => ?_
   refine U9 o6 (by simp [bK]) ?_
   simp only [bK, aKS, aKR, aKU, aKT, aKX]
   exact hR _ x6
theorem aAD {x : ByteArray} {e : Int} {n : Nat} {w : aNj} :
 aS pg Gl #[rv x e, .int .i64 n] w (fun r w' => ∃ x' s, r = .tuple #[rv x' (Af (gA x) e n).2.2, .string s] /\ gA x' = (Af (gA x) e n).2.1 /\ gA s = (Af (gA x) e n).1 /\ aW w w' eU) := by
 refine auB ?_
 obtain ⟨RR, hRR⟩ : ∃ RR : aNk -> aNj -> Prop, RR = fun r w' => ∃ x' s, r = .tuple #[rv x' (Af (gA x) e n).2.2, .string s] /\ gA x' = (Af (gA x) e n).2.1 /\ gA s = (Af (gA x) e n).1 /\ aW w w' eU := ⟨_, rfl⟩
 rw [<- hRR]
 have hll := gR x
 unfold ayY Rh
 refine nK fun w1 o1 x1 s1 => ?_
 have o1 : eM w1 w.heap.size [.string x, .int .i64 e] := o1
 refine sX fun w2 o2 x2 s2 => ?_
 have o1 := o1.ext x2 (fun h => h)
 have x02 := x1.seq x2
 have z1 := x1.size
 have c0 := o1.cell (off := 0)
 have c1 := o1.cell (off := 1)
 have l1 := mM (off := 0) o1 (by simp)
 simp only [aKM, aKN, aKU, aKT, aKX] at c0 c1 l1
 by_cases he : e = 0
 rotate_left
 .have n1 : (e != 0) = true := by simpa using he
  have ht : Af (gA x) e n = ([], gA x, e) := by unfold Af; rw [if_pos he]
  simp (disch := omega) only [aD, bW, aKP, aU, aA, cD, mK, gQ, c1, aH, dC, n1, l1, aG]
  refine aHV o2 rfl fun w' x' => ?_
  rw [hRR, ht]
  exact ⟨x, ⟨#[]⟩, rfl, rfl, rfl, x02.new x' (by omega)⟩
 subst he
 have n1 : ((0 : Int) != 0) = false := rfl
 have d0 : decide ((n : Int) < 0) = false := by simp
 by_cases hsh : x.size < n
 .have d1 : decide ((x.size : Int) < (n : Int)) = true := by simp; omega
  have ht : Af (gA x) 0 n = ([], gA x, 10) := by unfold Af; rw [if_neg (by decide), if_pos (by omega)]
  simp (disch := omega) only [aD, bW, aKP, aU, d0, aA, cD, mK, aE, gQ, c1, aH, dC, n1, c0, dS, dH, d1, aG]
  refine EV o1 rfl (by simp) fun w3 o3 x3 s3 => ?_
  simp only [aKS, aKR] at o3
  have l3 := mM (off := 0) o3 (by simp)
  simp only [aKU, aKT, aKX] at l3
  simp (disch := omega) only [l3, aA]
  refine aHV (o2.ext x3 (by omega)) rfl fun w' x' => ?_
  rw [hRR, ht]
  exact ⟨x, ⟨#[]⟩, rfl, rfl, rfl, (x02.new x3 (by omega)).new x' (by omega)⟩
 .have d1 : decide ((x.size : Int) < (n : Int)) = false := by simp; omega
  have ht : Af (gA x) 0 n = ((gA x).take n, (gA x).drop n, 0) := by unfold Af; rw [if_neg (by decide), if_neg (by omega)]
  simp (disch := omega) only [aD, bW, aKP, aU, d0, aA, cD, mK, aE, gQ, c1, aH, dC, n1, c0, dS, dH, d1, mN, aKO, jV]
  refine aFk o1 rfl (by simp) fun w3 o3 x3 s3 => ?_
  simp only [aKS, aKR] at o3
  have l3 := mM (off := 0) o3 (by simp)
  simp only [aKU, aKT, aKX] at l3
  simp (disch := omega) only [l3, aA]
  refine aHV (o2.ext x3 (by omega)) rfl fun w' x' => ?_
  rw [hRR, ht]
  refine ⟨_, _, rfl, ?_, ?_, (x02.new x3 (by omega)).new x' (by omega)⟩
  .rw [BC, aLn (by rw [aK7]; omega)]
  .rw [BC]; simp
theorem IB {x : ByteArray} {e : Int} {n : Nat} {w : aNj} (hn : 1 <= n /\ n <= 8) :
 aS pg uP #[rv x e, .int .i64 n] w (fun r w' => ∃ x', r = .tuple #[rv x' (Af (gA x) e n).2.2, .int .u64 (rW (Af (gA x) e n).1 : Nat)] /\ gA x' = (Af (gA x) e n).2.1 /\ aW w w' eU) := by
 refine akA ?_
 obtain ⟨RR, hRR⟩ : ∃ RR : aNk -> aNj -> Prop, RR = fun r w' => ∃ x', r = .tuple #[rv x' (Af (gA x) e n).2.2, .int .u64 (rW (Af (gA x) e n).1 : Nat)] /\ gA x' = (Af (gA x) e n).2.1 /\ aW w w' eU := ⟨_, rfl⟩
 rw [<- hRR]
 unfold aeB H3 Ih
 refine nK fun w1 o1 x1 s1 => ?_
 have o1 : eM w1 w.heap.size [.string x, .int .i64 e] := o1
 refine sX fun w2 o2 x2 s2 => ?_
 have o1 := o1.ext x2 (fun h => h)
 have x02 := x1.seq x2
 have z1 := x1.size
 have c1 := o1.cell (off := 1)
 have l1 := mM (off := 0) o1 (by simp)
 simp only [aKM, aKN, aKU, aKT, aKX] at c1 l1
 have d1 : decide ((n : Int) < 1) = false := by simp; omega
 have d2 : decide (8 < (n : Int)) = false := by simp; omega
 have main : Df RR (.int .i64 n) (.pointer (some ⟨w.heap.size, 0, none⟩)) (.pointer (some ⟨w1.heap.size, 0, none⟩)) w2 := by
  unfold Df JS
  simp (disch := omega) only [aD, l1, aA]
  refine (aAD).mono ?_
  rintro r w3 ⟨x', s, rfl, hx', hs, x3⟩
  simp (disch := omega) only [pP, pR, aA]
  refine lV (o1.ext x3 (fun h => h)) rfl (by simp [one]) (by simp) fun w4 o4 x4 s4 => ?_
  simp only [bK, aKS, aKR] at o4
  have z2 := x02.size
  have z3 := x3.size
  have x04 : aW w w4 eU := (x02.seq x3).new x4 (aK1 _)
  have o2 := (o2.ext x3 (fun h => h)).ext x4 (by omega)
  have hlen : (gA s).length <= 8 := by
   rw [hs]; unfold Af
   split
   .simp
   .split
    .simp
    .simp; omega
  have hss := gR s
  unfold KN Ln KQ J0 J6
  refine cU.rule (fun m (v : aNk × aNk × aNk) w' => ∃ (i : Nat) (mm : Int), m = s.size - i /\ i <= s.size /\ v = (.int .u64 (rW ((gA s).take i) : Nat), .int .u64 mm, .int .i64 i) /\ (i < 8 -> mm = ((256 ^ i : Nat) : Int)) /\ w' = w4) s.size ⟨0, 1, rfl, by omega, rfl, fun _ => rfl, rfl⟩ ?_
  rintro m v w5 ⟨i, mm, rfl, hi, rfl, hmm, hw⟩
  rw [hw]; clear hw w5
  unfold C1
  by_cases hlt : i < s.size
  .have d3 : decide ((i : Int) < (s.size : Int)) = true := by simp; omega
   have hmm := hmm (by omega)
   subst hmm
   obtain ⟨c, hc⟩ : ∃ c, c = (gA s)[i]'(by omega) := ⟨_, rfl⟩
   have hg : s[i]'hlt = c := by rw [PV, hc]
   have htk : (gA s).take (i + 1) = (gA s).take i ++ [c] := by rw [aLL, aKW (by omega), <- hc] <;> rfl
   have hnl : rW ((gA s).take (i + 1)) = rW ((gA s).take i) + 256 ^ i * c.toNat := by
    rw [htk, apF, aK2, aLH (by omega)]
   have hb0 := PT ((gA s).take i)
   have hb1 := PT ((gA s).take (i + 1))
   rw [aK2, aLH (by omega)] at hb0 hb1
   have hp : 256 ^ i <= 256 ^ 7 := aKY (by omega) (by omega)
   have hp1 : 256 ^ (i + 1) <= 256 ^ 8 := aKY (by omega) (by omega)
   have hcl : c.toNat < 256 := aLv c
   have hps : 256 ^ (i + 1) = 256 ^ i * 256 := aLr ..
   have hcm : 256 ^ i * c.toNat <= 256 ^ i * 256 := Nat.mul_le_mul_left _ (by omega)
   rw [hnl] at hb1
   obtain ⟨m2, hm2⟩ : ∃ z, IntKind.u64.wrap (((256 ^ i : Nat) : Int) * 256) = z := ⟨_, rfl⟩
   have hm3 : i + 1 < 8 -> m2 = ((256 ^ (i + 1) : Nat) : Int) := fun h => by
    have hp2 : 256 ^ (i + 1) <= 256 ^ 7 := aKY (by omega) (by omega)
    rw [<- hm2, hps, Int.natCast_mul]
    exact kR (by omega) (by omega)
   generalize hcx : c.toNat = cx at *
   have hgx : (s[i]'hlt).toNat = cx := by rw [hg, hcx]
   have ew : IntKind.u64.wrap (cx : Int) = (cx : Int) := kR (by omega) (by omega)
   have em : (cx : Int) * ((256 ^ i : Nat) : Int) = ((256 ^ i * cx : Nat) : Int) := by rw [Int.natCast_mul, Int.mul_comm]
   generalize rW ((gA s).take i) = N at *
   generalize 256 ^ i = P at *
   generalize P * cx = Z at *
   have ez : IntKind.u64.wrap (Z : Int) = (Z : Int) := kR (by omega) (by omega)
   have ea : (N : Int) + (Z : Int) = ((N + Z : Nat) : Int) := by omega
   have en : IntKind.u64.wrap ((N + Z : Nat) : Int) = ((N + Z : Nat) : Int) := kR (by omega) (by omega)
   simp (disch := omega) only [aD, dS, jA, aKO, hgx, oL, hm2, bN, aP, aA, iP, ew, em, ez, ea, en, aU, d3, and_true, aG]
   exact ⟨s.size - (i + 1), by omega, i + 1, m2, rfl, by omega, by rw [hnl] <;> rfl, hm3⟩
  .have d3 : decide ((i : Int) < (s.size : Int)) = false := by simp; omega
   obtain rfl : i = s.size := by omega
   have l4 := mM (off := 0) o4 (by simp)
   simp only [aKU, aKT, aKX] at l4
   unfold CK
   simp (disch := omega) only [aD, dS, oL, bN, aP, aA, aU, d3, l4, aE]
   refine aHV o2 rfl fun w' x' => ?_
   rw [hRR, <- hss, aMz, hs]
   exact ⟨_, rfl, hx', x04.new x' (by omega)⟩
 by_cases he : e = 0
 .have n1 : (e == 0) = true := by simpa using he
  simp (disch := omega) only [aD, bW, aKP, aA, gQ, c1, aH, dU, n1, pZ, bH, if_true, bM, aU, d1, dG, aKQ, if_false, dH, d2, aE]
  exact main
 .have n1 : (e == 0) = false := by simpa using he
  simp (disch := omega) only [aD, bW, aKP, aA, gQ, c1, aH, dU, n1, uY, bH, aKQ, if_false, aE, cY]
  exact main
theorem aEg {c : UInt8} {n : Nat} {w : aNj} (hn : n <= 131072) :
 aS pg IH #[vC c, .int .i64 n] w (fun r w' => r = .string ⟨(List.replicate n c).toArray⟩ /\ aW w w' eU) := by
 refine apV ?_
 obtain ⟨RR, hRR⟩ : ∃ RR : aNk -> aNj -> Prop, RR = fun r w' => r = .string ⟨(List.replicate n c).toArray⟩ /\ aW w w' eU := ⟨_, rfl⟩
 rw [<- hRR]
 unfold aqR NX MJ
 refine arU (by omega) (by omega) fun w1 o1 x1 s1 => ?_
 simp only [aKO] at o1 ⊢
 obtain ⟨p, hp⟩ : ∃ p, p = w.heap.size := ⟨_, rfl⟩
 rw [<- hp] at o1 ⊢
 unfold NF Nk MN M5 NN
 refine cU.rule (fun m (t : aNk) w' => ∃ i : Nat, m = n - i /\ t = .int .i64 i /\ i <= n /\ eM w' p (List.replicate i (vC c) ++ List.replicate (n - i) (.int .u8 0)) /\ aW w1 w' (fun y => y = p)) n
  ⟨0, rfl, rfl, by omega, by simpa using o1, aW.refl _ _⟩ ?_
 rintro m t w2 ⟨i, rfl, rfl, hi, o2, x2⟩
 unfold Fo
 by_cases hlt : i < n
 .have d1 : decide ((i : Int) < (n : Int)) = true := by simp; omega
  have ti : (i : Int).toNat = i := aKO _
  have e1 : (i : Int) + 1 = ((i + 1 : Nat) : Int) := by omega
  simp (disch := omega) only [aD, aU, d1, dM, ti, aKP, bN, aP, aA, aG]
  refine VC o2 (by simp [one, vC]) (by simp; omega) fun w3 o3 x3 s3 => ?_
  rw [aMt _ _ (by simp), aLJ, aMw, show n - i = (n - (i + 1)) + 1 from by omega, aLy, aKS] at o3
  simp (disch := omega) only [e1]
  refine ⟨n - (i + 1), by omega, i + 1, rfl, rfl, by omega, ?_, x2.seq x3⟩
  rw [aMI, aLj]
  exact o3
 .have d1 : decide ((i : Int) < (n : Int)) = false := by simp; omega
  have hin : i = n := by omega
  subst hin
  unfold Fq
  have hb : Bs w2 (.slice (some ⟨p, 0, none⟩) i i) (List.replicate i c) := by
   have := o2.bs (off := 0) (c := i) (l := List.replicate i c) (by simp) (fun j hj => by
    rw [aLJ] at hj
    rw [aKP, aLd (by simp; omega)]
    simp [aMe, hj])
   rw [aLJ] at this
   exact this
  have hcv := dW hb
  simp (disch := omega) only [aD, aU, d1, bN, aP, aA, hcv, aE]
  rw [hRR]
  exact ⟨rfl, x1.trans x2 fun y hy h => by omega⟩
abbrev rhC (H : LH) : List aNk := [.int .u64 (H.kind : Nat), .int .u64 (H.form : Nat), .int .i64 (H.size : Nat), .int .u64 (H.count : Nat), .int .u64 (H.bytes : Nat)]
def rhV (H : LH) : aNk := .agg #[.int .u64 (H.kind : Nat), .int .u64 (H.form : Nat), .int .i64 (H.size : Nat), .int .u64 (H.count : Nat), .int .u64 (H.bytes : Nat)]
theorem aFq {RR : aNk -> aNj -> Prop} {H : LH} {p q : Nat} {z : List aNk} {w : aNj} (oq : eM w q (rhC H)) (op : eM w p z) (hz : z.length = 5) (hne : p ≠ q) (hc : H.count < 2 ^ 62)
 (hk : ∀ w', aW w w' (fun y => y = p) -> RR (.tuple #[rhV H, .int .i64 (if 131072 < H.count then 12 else 0 : Int)]) w') :
 Ae RR (.pointer (some ⟨p, 0, none⟩)) (.pointer (some ⟨q, 0, none⟩)) w := by
 unfold Ae
 have k3 := oq.cell (off := 3)
 simp only [aKM, aKN] at k3
 have l := Ap (off := 0) oq (by simp)
 simp only [aKU, aKT, aKX] at l
 obtain ⟨z0, z1, z2, z3, z4, rfl⟩ : ∃ z0 z1 z2 z3 z4, z = [z0, z1, z2, z3, z4] := by
  match z, hz with
  | [z0, z1, z2, z3, z4], _ => exact ⟨_, _, _, _, _, rfl⟩
 by_cases h : 131072 < H.count
 .have d1 : decide ((H.count : Int) > 131072) = true := decide_eq_true (by omega)
  have d2 : decide ((131072 : Int) < (H.count : Int)) = true := decide_eq_true (by omega)
  rw [if_pos h] at hk
  simp (disch := omega) only [aD, aQ, aKP, aA, gC, k3, aH, dH, d1, l, aG]
  refine pU op rfl (by simp [one]) (by simp) fun w1 o1 x1 s1 => ?_
  refine vF o1 (by simp [bK]) ?_
  simp only [bK, aKS, aKR, aKU, aKT, aKX]
  exact hk w1 x1
 .have d1 : decide ((H.count : Int) > 131072) = false := decide_eq_false (by omega)
  have d2 : decide ((131072 : Int) < (H.count : Int)) = false := decide_eq_false (by omega)
  rw [if_neg h] at hk
  simp (disch := omega) only [aD, aQ, aKP, aA, gC, k3, aH, dH, d1, l, aE]
  refine pU op rfl (by simp [one]) (by simp) fun w1 o1 x1 s1 => ?_
  refine vF o1 (by simp [bK]) ?_
  simp only [bK, aKS, aKR, aKU, aKT, aKX]
  exact hk w1 x1
theorem aF2 {RR : aNk -> aNj -> Prop} {kd fm W p q : Nat} {b : ByteArray} {z : List aNk} {x0 : UInt8} {rs : List UInt8} {w : aNj} (hb : gA b = x0 :: rs) (hkd : kd = x0.toNat % 4) (hfm : fm = x0.toNat / 4 % 4)
 (oq : eM w q [.int .u64 kd, .int .u64 fm, .int .i64 (mG kd fm : Nat), .int .u64 0, .int .u64 0]) (op : eM w p z) (hz : z.length = 5) (hne : p ≠ q) (hW : 2 <= kd -> W = 2 ^ PS fm)
 (hk : ∀ w', aW w w' (fun y => y = p ∨ y = q) -> RR (.tuple #[rhV (mT (x0 :: rs)).1, .int .i64 (mT (x0 :: rs)).2]) w') :
 CF RR (.string b) (.pointer (some ⟨p, 0, none⟩)) (.pointer (some ⟨q, 0, none⟩)) (.int .u64 W) w := by
 unfold CF QW
 have k2 := oq.cell (off := 2)
 simp only [aKM, aKN] at k2
 have hsz := Sy kd fm
 have hL : mT (x0 :: rs) = if (x0 :: rs).length < mG kd fm then (⟨kd, fm, mG kd fm, 0, 0⟩, 10)
     else (⟨kd, fm, mG kd fm, rW ((x0 :: rs).take (mG kd fm)) / 2 ^ qS kd fm % 2 ^ tD kd fm, rW ((x0 :: rs).take (mG kd fm)) / 2 ^ qS kd fm / 2 ^ tD kd fm⟩,
      if 131072 < rW ((x0 :: rs).take (mG kd fm)) / 2 ^ qS kd fm % 2 ^ tD kd fm then 12 else 0) := by
  subst hkd hfm; rfl
 rw [hL] at hk
 have hkd4 : kd < 4 := by omega
 have hfm4 : fm < 4 := by omega
 clear hL hkd hfm
 generalize hszg : mG kd fm = sz at *
 simp (disch := omega) only [aD, dF, bR, aKP, jF, and_true, true_and, aY, aA, aQ, bY, gC, bO, k2, aH]
 refine (IB (x := b) (e := 0) (n := sz) (by omega)).mono ?_
 rintro r w1 ⟨y, rfl, hy, x1⟩
 rw [hb] at hy ⊢
 generalize x0 :: rs = l at *
 obtain ⟨z0, z1, z2, z3, z4, rfl⟩ : ∃ z0 z1 z2 z3 z4, z = [z0, z1, z2, z3, z4] := by
  match z, hz with
  | [z0, z1, z2, z3, z4], _ => exact ⟨_, _, _, _, _, rfl⟩
 simp (disch := omega) only [pP, pR, aA, oP]
 refine sX fun w2 o2 x2 s2 => ?_
 refine lV o2 rfl (by simp [one]) (by simp) fun w3 o3 x3 s3 => ?_
 simp only [bK, aKS, aKR] at o3
 have x13 : aW w1 w3 eU := x2.new x3 (by omega)
 have x03 := x1.seq x13
 have z1' := x1.size
 have lq := oq.lt
 have lp := op.lt
 have oq3 := oq.ext x03 (fun h => h)
 have op3 := op.ext x03 (fun h => h)
 by_cases hs : l.length < sz
 .have ht : Af l 0 sz = ([], l, 10) := by unfold Af; rw [if_neg (by simp), if_pos hs]
  rw [ht] at o3 ⊢
  rw [if_pos hs] at hk
  simp only at o3 ⊢
  have k1 := o3.cell (off := 1)
  have k1d := (jW o3).cell (off := 1)
  simp only [aKM, aKN] at k1 k1d
  have n1 : ((10 : Int) != 0) = true := rfl
  have lh := Ap (off := 0) (jW oq3) (by simp)
  simp only [aKU, aKT, aKX] at lh
  simp (disch := omega) only [bW, aKP, Result.ok.injEq, Next.value.injEq, and_true, aA, gQ, true_and, k1, aH, dC, n1, lh, k1d, aG]
  refine pU (jW op3) rfl (by simp [one]) (by simp) fun w4 o4 x4 s4 => ?_
  have k1e := (((jW o3).ext x4 (by omega))).cell (off := 1)
  simp only [aKM, aKN] at k1e
  simp (disch := omega) only [k1e, aH, true_and]
  refine vF o4 (by simp [bK]) ?_
  simp only [bK, aKS, aKR, aKU, aKT, aKX]
  exact hk w4 (((x03.seq (aW.dr _ _)).mono fun _ _ h => h.elim).seq (x4.mono fun _ _ h => .inl h))
 have ht : Af l 0 sz = (l.take sz, l.drop sz, 0) := by unfold Af; rw [if_neg (by simp), if_neg hs]
 rw [ht] at o3 ⊢
 rw [if_neg hs] at hk
 simp only at o3 ⊢
 have k1 := o3.cell (off := 1)
 have k0 := oq3.cell (off := 0)
 have k2 := oq3.cell (off := 2)
 simp only [aKM, aKN] at k0 k1 k2
 have n1 : ((0 : Int) != 0) = false := rfl
 have hx40 := acB (l := l) hsz.2
 obtain ⟨X, hX⟩ : ∃ X, X = rW (l.take sz) := ⟨_, rfl⟩
 rw [<- hX] at hx40 hk ⊢
 have endg : ∀ (H : LH) (w4 : aNj), eM w4 q (rhC H) -> aW w3 w4 (fun y => y = q) -> H = ⟨kd, fm, sz, X / 2 ^ qS kd fm % 2 ^ tD kd fm, X / 2 ^ qS kd fm / 2 ^ tD kd fm⟩ →
     Ae RR (.pointer (some ⟨p, 0, none⟩)) (.pointer (some ⟨q, 0, none⟩)) w4 := by
  intro H w4 o4 x4 hH
  have hcb : H.count < 2 ^ 62 := by
   rw [hH]
   have h1 := Nat.mod_le (X / 2 ^ qS kd fm) (2 ^ tD kd fm)
   have h2 := aLP X (2 ^ qS kd fm)
   show X / 2 ^ qS kd fm % 2 ^ tD kd fm < 2 ^ 62
   omega
  refine aFq o4 (op3.ext x4 hne) rfl hne hcb fun w5 x5 => ?_
  rw [hH]
  exact hk w5 (((x03.mono fun _ _ h => h.elim).seq (x4.mono fun _ _ h => .inr h)).seq (x5.mono fun _ _ h => .inl h))
 by_cases hk2 : kd < 2
 .have hW20 : tD kd fm = 20 := by unfold tD; rw [if_pos hk2]
  have hp := aCM (k := kd) (f := fm) (l := l) hk2
  rw [hszg, <- hX] at hp
  have m1 : X / 2 ^ qS kd fm % 2 ^ tD kd fm = X / 2 ^ qS kd fm := by rw [hW20]; exact aLt hp
  have m2 : X / 2 ^ qS kd fm / 2 ^ tD kd fm = 0 := by rw [hW20]; exact aNe hp
  have d1 : decide ((kd : Int) < 2) = true := decide_eq_true (by omega)
  by_cases hs1 : sz = 1
  .have n2 : ((sz : Int) == 1) = true := by rw [hs1] <;> rfl
   have hdn : qS kd fm = 3 := by unfold qS; rw [if_pos ⟨hk2, by rw [hszg]; exact hs1⟩]
   have e1 : ((X : Int)).tdiv 8 = ((X / 8 : Nat) : Int) := by rw [aK6 (by omega)]; omega
   simp (disch := omega) only [bW, aKP, Result.ok.injEq, Next.value.injEq, and_true, aA, gQ, true_and, e1, kR, k1, aH, dC, n1, k0, aU, d1, pZ, bH, if_true, bM, bO, k2, dU, n2, aG, aE]
   refine Mx oq3 rfl (by simp) fun w4 o4 x4 s4 => ?_
   simp only [aKS, aKR] at o4
   exact endg ⟨kd, fm, sz, X / 8, 0⟩ w4 o4 x4 (by rw [m1, m2, hdn])
  .have n2 : ((sz : Int) == 1) = false := beq_eq_false_iff_ne.2 (by omega)
   have hdn : qS kd fm = 4 := by unfold qS; rw [if_neg (by rw [hszg]; exact fun h => hs1 h.2)]
   have e1 : ((X : Int)).tdiv 16 = ((X / 16 : Nat) : Int) := by rw [aK6 (by omega)]; omega
   simp (disch := omega) only [bW, aKP, Result.ok.injEq, Next.value.injEq, and_true, aA, gQ, true_and, e1, kR, k1, aH, dC, n1, k0, aU, d1, pZ, bH, if_true, bM, bO, k2, dU, n2, aG, aE]
   refine Mx oq3 rfl (by simp) fun w4 o4 x4 s4 => ?_
   simp only [aKS, aKR] at o4
   exact endg ⟨kd, fm, sz, X / 16, 0⟩ w4 o4 x4 (by rw [m1, m2, hdn])
 .have d1 : decide ((kd : Int) < 2) = false := decide_eq_false (by omega)
  have hWd : tD kd fm = PS fm := by unfold tD; rw [if_neg hk2]
  have hdn : qS kd fm = 4 := by unfold qS; rw [if_neg (fun h => hk2 h.1)]
  have hW' := hW (by omega)
  have hlb := awY fm
  have hWp : 0 < W := by rw [hW']; exact aLh _
  have e1 : ((X : Int)).tdiv 16 = ((X / 16 : Nat) : Int) := by rw [aK6 (by omega)]; omega
  have e2 : (((X / 16 : Nat) : Int)).tmod (W : Int) = ((X / 16 % W : Nat) : Int) := by rw [aLg (by omega)] <;> rfl
  have hdl : X / 16 / W <= X / 16 := aLP _ _
  have wq : IntKind.u64.wrap ((X / 16 / W : Nat) : Int) = ((X / 16 / W : Nat) : Int) := by generalize X / 16 / W = D at *; exact kR (by omega) (by omega)
  have e3 : (((X / 16 : Nat) : Int)).tdiv (W : Int) = ((X / 16 / W : Nat) : Int) := by rw [aK6 (by omega)] <;> rfl
  simp (disch := omega) only [bW, aKP, Result.ok.injEq, Next.value.injEq, and_true, aA, gQ, true_and, e1, kR, rH, e2, oP, e3, wq, k1, aH, dC, n1, k0, aU, d1, uY, bH, aKQ, if_false, aE, cY]
  refine Mx oq3 rfl (by simp) fun w4 o4 x4 s4 => ?_
  simp only [aKS, aKR] at o4
  refine Mx o4 rfl (by simp) fun w5 o5 x5 s5 => ?_
  simp only [aKS, aKR] at o5
  exact endg ⟨kd, fm, sz, X / 16 % W, X / 16 / W⟩ w5 o5 (x4.seq x5) (by rw [hWd, hdn, hW'])
theorem aAG {b : ByteArray} {w : aNj} :
 aS pg EE #[.string b] w (fun r w' => r = .tuple #[rhV (mT (gA b)).1, .int .i64 (mT (gA b)).2] /\ aW w w' eU) := by
 refine auD ?_
 obtain ⟨RR, hRR⟩ : ∃ RR : aNk -> aNj -> Prop, RR = fun r w' => r = .tuple #[rhV (mT (gA b)).1, .int .i64 (mT (gA b)).2] /\ aW w w' eU := ⟨_, rfl⟩
 rw [<- hRR]
 have key : ∀ w', aW w w' eU -> RR (.tuple #[rhV (mT (gA b)).1, .int .i64 (mT (gA b)).2]) w' := fun w' h2 => by rw [hRR]; exact ⟨rfl, h2⟩
 unfold awU Rt QD
 refine wL fun w1 o1 x1 s1 => ?_
 refine wL fun w2 o2 x2 s2 => ?_
 have z1 := x1.size
 obtain ⟨p, hp⟩ : ∃ p, p = w.heap.size := ⟨_, rfl⟩
 obtain ⟨q, hq⟩ : ∃ q, q = w1.heap.size := ⟨_, rfl⟩
 rw [<- hp] at o1 ⊢
 rw [<- hq] at o2 ⊢
 have l1 := o1.lt
 have hne : p ≠ q := by omega
 have o12 := o1.ext x2 (fun h => h)
 have x02 := x1.seq x2
 have hsz := gR b
 cases hl : gA b with
 | nil =>
   rw [hl] at key
   have hbe : b = ⟨#[]⟩ := Xn (by rw [hl] <;> rfl)
   subst hbe
   have l := Ap (off := 0) o2 (by simp)
   simp only [aKU, aKT, aKX] at l
   simp (disch := omega) only [aD, vQ, aeI, aY, cC, aKP, bR, aA, gC, l, aG]
   refine pU o12 rfl (by simp [one]) (by simp) fun w3 o3 x3 s3 => ?_
   refine vF o3 (by simp [bK]) ?_
   simp only [bK, aKS, aKR, aKU, aKT, aKX]
   exact key w3 (x02.trans x3 fun y hy h => by omega)
 | cons x0 rs =>
   rw [hl] at key hsz
   rw [aLa] at hsz
   have hen := anU (x := b) (by omega)
   have hx0 : x0.toNat < 256 := aLv x0
   have g0 : (b[0]'(by omega)).toNat = x0.toNat := by
    have := PV b 0 (by omega)
    rw [this]; simp only [hl, aMk]
   have t0 : (0 : Int).toNat = 0 := rfl
   obtain ⟨kd, hkd⟩ : ∃ kd, kd = x0.toNat % 4 := ⟨_, rfl⟩
   obtain ⟨fm, hfm⟩ : ∃ fm, fm = x0.toNat / 4 % 4 := ⟨_, rfl⟩
   have f1 : ((x0.toNat : Int)).tmod 4 = (kd : Int) := by rw [aLg (by omega)]; omega
   have f2 : ((x0.toNat : Int)).tdiv 4 = ((x0.toNat / 4 : Nat) : Int) := by rw [aK6 (by omega)]; omega
   have f3 : (((x0.toNat / 4 : Nat) : Int)).tmod 4 = (fm : Int) := by rw [aLg (by omega)]; omega
   have hkd4 : kd < 4 := by omega
   have hfm4 : fm < 4 := by omega
   have tf : (fm : Int).toNat = fm := aKO _
   have mid : ∀ (W : Nat) (w4 : aNj), eM w4 q [.int .u64 kd, .int .u64 fm, .int .i64 (mG kd fm : Nat), .int .u64 0, .int .u64 0] -> aW w2 w4 (fun y => y = q) -> (2 <= kd -> W = 2 ^ PS fm) →
       CF RR (.string b) (.pointer (some ⟨p, 0, none⟩)) (.pointer (some ⟨q, 0, none⟩)) (.int .u64 W) w4 := by
    intro W w4 o4 x4 hW
    refine aF2 hl hkd hfm o4 (o12.ext x4 hne) rfl hne hW fun w5 x5 => key w5 ?_
    exact (x02.trans x4 fun y hy h => by omega).trans x5 fun y hy h => by omega
   simp (disch := omega) only [aD, vQ, hen, jA, t0, g0, aY, cC, aKP, bR, aA, gC, oP, f2, xB, rH, f3, iP, kR, f1, aE]
   refine Mx o2 rfl (by simp) fun w3 o3 x3 s3 => ?_
   simp only [aKS, aKR] at o3
   try simp (disch := omega) only [true_and]
   refine Mx o3 rfl (by simp) fun w4 o4 x4 s4 => ?_
   simp only [aKS, aKR] at o4
   have k0 := o4.cell (off := 0)
   simp only [aKM] at k0
   have x24 := x3.seq x4
   by_cases hk2 : kd < 2
   .have d1 : decide ((kd : Int) < 2) = true := decide_eq_true (by omega)
    simp (disch := omega) only [k0, aH, aA, aU, d1, aG]
    refine Xu (cells := #[.int .i64 1, .int .i64 2, .int .i64 1, .int .i64 3]) (by decide) (by decide) (by kernel_rfl) fun w5 o5 x5 s5 => ?_
    have o45 := o4.ext x5 (fun h => h)
    have k1 := o45.cell (off := 1)
    simp only [aKM, aKN] at k1
    have kf := o5.cell (off := fm)
    have kf2 : ([.int .i64 1, .int .i64 2, .int .i64 1, .int .i64 3] : List aNk)[fm]? = some (.int .i64 (mG kd fm : Nat)) := by
     unfold mG
     rw [if_pos hk2]
     rcases (show fm = 0 ∨ fm = 1 ∨ fm = 2 ∨ fm = 3 by omega) with h | h | h | h <;> (rw [h] <;> rfl)
    have kf : w5.cell? ⟨w4.heap.size, fm, none⟩ = some (.int .i64 (mG kd fm : Nat)) := kf.trans kf2
    simp (disch := omega) only [k1, aH, aA, iB, tf, aKP, bO, kf]
    refine oY o45 rfl (by simp) fun w6 o6 x6 s6 => ?_
    simp only [aKS, aKR] at o6
    exact mid 1024 w6 o6 ((x24.seq (x5.mono fun _ _ h => h.elim)).seq x6) (fun h => by omega)
   .have d1 : decide ((kd : Int) < 2) = false := decide_eq_false (by omega)
    simp (disch := omega) only [k0, aH, aA, aU, d1, aE]
    refine Xu (cells := #[.int .i64 3, .int .i64 3, .int .i64 4, .int .i64 5]) (by decide) (by decide) (by kernel_rfl) fun w5 o5 x5 s5 => ?_
    have o45 := o4.ext x5 (fun h => h)
    have k1 := o45.cell (off := 1)
    simp only [aKM, aKN] at k1
    have kf := o5.cell (off := fm)
    have kf2 : ([.int .i64 3, .int .i64 3, .int .i64 4, .int .i64 5] : List aNk)[fm]? = some (.int .i64 (mG kd fm : Nat)) := by
     unfold mG
     rw [if_neg hk2]
     rcases (show fm = 0 ∨ fm = 1 ∨ fm = 2 ∨ fm = 3 by omega) with h | h | h | h <;> (rw [h] <;> rfl)
    have kf : w5.cell? ⟨w4.heap.size, fm, none⟩ = some (.int .i64 (mG kd fm : Nat)) := kf.trans kf2
    simp (disch := omega) only [k1, aH, aA, iB, tf, aKP, bO, kf]
    refine oY o45 rfl (by simp) fun w6 o6 x6 s6 => ?_
    simp only [aKS, aKR] at o6
    refine aiK (cells := #[.int .u64 1024, .int .u64 1024, .int .u64 16384, .int .u64 262144]) (by decide) (by decide) (by kernel_rfl) fun w7 o7 x7 s7 => ?_
    have o67 := o6.ext x7 (fun h => h)
    have k7 := o67.cell (off := 1)
    simp only [aKM, aKN] at k7
    have kg := o7.cell (off := fm)
    have kg2 : ([.int .u64 1024, .int .u64 1024, .int .u64 16384, .int .u64 262144] : List aNk)[fm]? = some (.int .u64 (2 ^ PS fm : Nat)) := by
     unfold PS
     rcases (show fm = 0 ∨ fm = 1 ∨ fm = 2 ∨ fm = 3 by omega) with h | h | h | h <;> (rw [h] <;> rfl)
    have kg : w7.cell? ⟨w6.heap.size, fm, none⟩ = some (.int .u64 (2 ^ PS fm : Nat)) := kg.trans kg2
    simp (disch := omega) only [k7, aH, aA, kQ, tf, aKP, gC, kg]
    exact mid (2 ^ PS fm) w7 o67 (((x24.seq (x5.mono fun _ _ h => h.elim)).seq x6).seq (x7.mono fun _ _ h => h.elim)) (fun h => rfl)
def RBh (w : aNj) (lo hi : Nat) (b : aNk) (B : List Bool) (left : Int) : Prop := RB w lo hi b (B.take left.toNat) (-left).toNat
theorem RBh.ext {w w' : aNj} {lo hi : Nat} {b : aNk} {B : List Bool} {left : Int} {M : Nat -> Prop} (h : RBh w lo hi b B left) (x : aW w w' M) (hM : ∀ b, lo <= b -> b < hi -> ¬ M b) : RBh w' lo hi b B left := RB.ext h x hM
theorem RBh.form {w : aNj} {lo hi : Nat} {b : aNk} {B : List Bool} {left : Int} (h : RBh w lo hi b B left) : ∃ a k c i, b = .agg #[.slice a k c, .int .i64 i] := by
 obtain ⟨v, rfl, hs, _⟩ := h
 obtain ⟨a, c, rfl, _⟩ := Gz hs
 exact ⟨_, _, _, _, rfl⟩
theorem RBh.step {w : aNj} {lo hi n : Nat} {b : aNk} {B : List Bool} {left : Int} (hl : left <= B.length)
 (h : RB w lo hi b ((B.take left.toNat).take ((B.take left.toNat).length - min n (B.take left.toNat).length)) ((-left).toNat + (n - min n (B.take left.toNat).length))) : RBh w lo hi b B (left - n) := by
 have hlen : (B.take left.toNat).length = left.toNat := by rw [aK2]; omega
 rw [hlen, aNa] at h
 have e1 : min (left.toNat - min n left.toNat) left.toNat = (left - n).toNat := by omega
 have e2 : (-left).toNat + (n - min n left.toNat) = (-(left - n)).toNat := by omega
 rw [e1, e2] at h
 exact h
theorem aGj {lo hi n : Nat} {b : aNk} {B : List Bool} {left : Int} {w : aNj} (h : RBh w lo hi b B left) (hn : n <= 56) (hl : left <= B.length) (hB : B.length <= 10000000) (hk : -1000000000 <= left) :
 aS pg zG #[b, .int .i64 n] w (fun r w' => ∃ b', r = .tuple #[b', .int .u64 (LL B left n : Nat)] /\ RBh w' lo hi b' B (left - n) /\ aW w w' eU) := by
 have hlen : (B.take left.toNat).length <= 10000000 := by rw [aK2]; omega
 refine (apU h hn hlen (by omega)).mono ?_
 rintro r w1 ⟨b', rfl, h1, x1⟩
 exact ⟨b', rfl, RBh.step hl h1, x1⟩
theorem aJ1 {cb cap lo hi m : Nat} {C : List (Nat × Nat)} {rest : List aNk} {bv : aNk} {B : List Bool} {left : Int} {w : aNj} (hF : XF C m) (hm : m <= 11) (hC : C.length <= 256) (oc : eM w cb (cc C ++ rest)) (h : RBh w lo hi bv B left) (hhi : hi <= w.heap.size) (hl : left <= B.length) (hB : B.length <= 10000000) (hk : -100000000 <= left) :
 aS pg P0 #[.slice (some ⟨cb, 0, none⟩) C.length cap, bv] w (fun r w' => ∃ b', r = .tuple #[b', .int .u8 (Eo C m (LL B left m) : Nat)] /\ RBh w' lo hi b' B (left - bitsOf C (Eo C m (LL B left m))) /\ aW w w' eU) := by
 refine avI ?_
 obtain ⟨RR, hRR⟩ : ∃ RR : aNk -> aNj -> Prop, RR = fun r w' => ∃ b', r = .tuple #[b', .int .u8 (Eo C m (LL B left m) : Nat)] /\ RBh w' lo hi b' B (left - bitsOf C (Eo C m (LL B left m))) /\ aW w w' eU := ⟨_, rfl⟩
 rw [<- hRR]
 have hX := Kt B left m
 have hhit := amL hF hX
 obtain ⟨bs, c0, hsy, hbs0, hc0⟩ := Pk.1 hhit
 have hun : ∀ s, GV C m (LL B left m) s = true -> Eo C m (LL B left m) = s := fun s hs => ayF hF hX hs
 generalize hsye : Eo C m (LL B left m) = sy at *
 have hbo := apR hsy
 rw [hbo] at hRR
 have hsyl := (aLK.1 hsy).1
 have hbm := (hF.le sy bs c0 hsy).1
 have hdiv : ∀ b, b <= m -> LL B left m / 2 ^ (m - b) = LL B left b := fun b hb => (aA8 hl hb).1
 rw [hdiv bs hbm] at hc0
 unfold aAv QB Rk
 have hz := oc.lt
 refine nK fun w1 o1 x1 s1 => ?_
 refine jS fun w2 o2 x2 s2 => ?_
 have z1 := x1.size
 obtain ⟨p3, hp3⟩ : ∃ p, p = w.heap.size := ⟨_, rfl⟩
 obtain ⟨p4, hp4⟩ : ∃ p, p = w1.heap.size := ⟨_, rfl⟩
 rw [<- hp3] at o1 ⊢
 rw [<- hp4] at o2 ⊢
 have x02 := x1.seq x2
 have oc2 := oc.ext x02 (fun h => h)
 unfold RS QT Rb Q7 Q9
 refine cU.rule (fun k (t : aNk × aNk) w' => ∃ (bits : Nat) (bv' : aNk), k = 12 - bits /\ t = (.int .i64 (LL B left (bits - 1) : Nat), .int .i64 (bits : Nat)) /\ 1 <= bits /\ bits <= bs /\ eM w' p3 bv'.cells.toList /\ RBh w' lo hi bv' B (left - (bits - 1 : Nat)) /\ aW w2 w' (fun y => y = p3)) 11
  ⟨1, bv, rfl, ?_, by omega, by omega, o1.ext x2 (fun h => h), ?_, aW.refl _ _⟩ ?_
 .have : LL B left (1 - 1) = 0 := by have := Kt B left 0; simpa using this
  rw [this] <;> rfl
 .have e : left - ((1 - 1 : Nat) : Int) = left := by omega
  rw [e]
  exact h.ext x02 (fun _ _ _ h => h)
 rintro k t w3 ⟨bits, bv', rfl, rfl, hb1, hbb, o3, h3, x3⟩
 have z2 := x2.size
 have z3 := x3.size
 unfold IY Rr
 have d1 : decide ((bits : Int) <= 11) = true := by simp; omega
 simp (disch := omega) only [aD, zL, d1, aA, aG]
 unfold TA Te ajH TL
 obtain ⟨a', k', c', i', rfl⟩ := h3.form
 have o3 : eM w3 p3 [.slice a' k' c', .int .i64 i'] := o3
 have q3 := fL (off := 0) o3 (by simp)
 simp only [aKU, aKT, aKX] at q3
 have q3 : (aL 133 (.pointer (some ⟨p3, 0, none⟩))).run pg w3 = .ok (.value (.agg #[.slice a' k' c', .int .i64 i'])) w3 := q3
 simp (disch := omega) only [aD, q3, oL, aA]
 refine (aGj (n := 1) h3 (by omega) (by omega) hB (by omega)).mono ?_
 rintro r w4 ⟨b4, rfl, h4, x4⟩
 have z4 := x4.size
 obtain ⟨a4, k4, c4, i4, rfl⟩ := h4.form
 simp (disch := omega) only [pP, pR, aA, bX, bN]
 refine jS fun w5 o5 x5 s5 => ?_
 refine cK o5 rfl (by simp [one]) (by simp) fun w6 o6 x6 s6 => ?_
 simp only [bK, aKS, aKR] at o6
 have q6 := fL (off := 0) o6 (by simp)
 simp only [aKU, aKT, aKX] at q6
 have x46 : aW w4 w6 eU := x5.new x6 (by omega)
 have x36 := x4.seq x46
 have o36 := o3.ext x36 (fun h => h)
 simp (disch := omega) only [q6, aA]
 refine cK o36 rfl (by simp [one]) (by simp) fun w7 o7 x7 s7 => ?_
 simp only [bK, aKS, aKR] at o7
 have l1 := o1.lt
 have h7 := (h4.ext x46 (fun _ _ _ h => h)).ext x7 (fun b h1 h2 h3 => by omega)
 have x27 : aW w2 w7 (fun y => y = p3) := (x3.seq (x36.mono fun _ _ h => h.elim)).seq x7
 have o72 := o2.ext x27 (by omega)
 have ocr := oc2.ext x27 (by omega)
 have hadd := aBa (B := B) (left := left) (bits - 1) 1 hl
 rw [show bits - 1 + 1 = bits from by omega, show (2 : Nat) ^ 1 = 2 from rfl] at hadd
 have r1 := Kt B (left - (bits - 1 : Nat)) 1
 have r2 := Kt B left (bits - 1)
 have hp : 2 ^ (bits - 1) <= 2 ^ 11 := aKY (by omega) (by omega)
 have e1 : IntKind.i64.wrap ((LL B (left - (bits - 1 : Nat)) 1 : Nat) : Int) = ((LL B (left - (bits - 1 : Nat)) 1 : Nat) : Int) := aP (by omega) (by omega)
 have e2 : ((LL B left (bits - 1) : Nat) : Int) * 2 + ((LL B (left - (bits - 1 : Nat)) 1 : Nat) : Int) = ((LL B left bits : Nat) : Int) := by omega
 have rb := Kt B left bits
 have hpb : 2 ^ bits <= 2 ^ 11 := aKY (by omega) (by omega)
 simp (disch := omega) only [aP, e1, e2]
 have hl7 : left - ((bits - 1 : Nat) : Int) - ((1 : Nat) : Int) = left - (bits : Nat) := by omega
 rw [hl7] at h7
 unfold Tp Ti
 refine cU.rule (fun k (t : aNk) w' => ∃ s : Nat, k = C.length - s /\ t = .int .i64 s /\ s <= C.length /\ (bits = bs -> s <= sy) /\ w' = w7) C.length
  ⟨0, rfl, rfl, by omega, by omega, rfl⟩ ?_
 rintro k t w8 ⟨s, rfl, rfl, hs, hsb, rfl⟩
 unfold Mr
 by_cases hlt : s < C.length
 .have d2 : decide ((s : Int) < (C.length : Int)) = true := by simp; omega
  have ts : (s : Int).toNat = s := aKO _
  have g := aGq hlt
  have hcl := Ei C
  have g0 := ocr.cell (off := s * 2)
  rw [aLd (by omega), g.1] at g0
  have g1 := ocr.cell (off := s * 2 + 1)
  rw [aLd (by omega), g.2] at g1
  have hse : C[s]? = some C[s] := aKW hlt
  generalize C[s] = e at *
  obtain ⟨b, c⟩ := e
  simp only at g0 g1
  by_cases hbe : b = bits
  .have d3 : ((b : Int) == (bits : Int)) = true := by simp [hbe]
   by_cases hce : c = LL B left bits
   .have d4 : ((c : Int) == ((LL B left bits : Nat) : Int)) = true := by simp [hce]
    have hit : GV C m (LL B left m) s = true := by
     rw [Pk]
     refine ⟨b, c, hse, by omega, ?_⟩
     rw [hdiv b (by omega), hbe, hce]
    have hss : sy = s := hun s hit
    have hbb2 : bs = bits := by
     rw [hss, hse] at hsy
     have := aLf hsy
     cases this
     exact hbe
    have q7 := fL (off := 0) o7 (by simp)
    simp only [aKU, aKT, aKX] at q7
    have w8e : IntKind.u8.wrap (s : Int) = s := xB (by omega) (by omega)
    simp (disch := omega) only [aD, cV, dI, ts, aKP, eS, w8e, aA, bN, aP, cL, bO, aU, d2, g0, aH, dU, d3, pZ, bH, if_true, bM, dA, g1, d4, q7, and_true, aG]
    refine cK o72 rfl (by simp [one]) (by simp) fun w9 o9 x9 s9 => ?_
    refine lT o9 (by simp [bK]) ?_
    simp only [bK, aKS, aKR, aKU, aKT, aKX]
    rw [hRR]
    have l2 := o2.lt
    refine ⟨_, by rw [hss], ?_, (x02.trans x27 fun y hy h => by omega).trans x9 fun y hy h => by omega⟩
    rw [hbb2]
    exact h7.ext x9 (fun b h1 h2 h3 => by omega)
   .have d4 : ((c : Int) == ((LL B left bits : Nat) : Int)) = false := beq_eq_false_iff_ne.2 (by omega)
    simp (disch := omega) only [aD, cV, dI, ts, aKP, eS, xB, aA, bN, aP, cL, bO, aU, d2, g0, aH, dU, d3, pZ, bH, if_true, bM, dA, g1, d4, and_true, aE, aG]
    refine ⟨C.length - (s + 1), by omega, s + 1, rfl, by simp, by omega, fun hbq => ?_⟩
    have := hsb hbq
    rcases aK9 s sy with h9 | h9
    .omega
    .exfalso
     obtain rfl : s = sy := by omega
     rw [hse] at hsy
     cases aLf hsy
     exact hce (by rw [<- hbe]; exact hc0.symm)
  .have d3 : ((b : Int) == (bits : Int)) = false := beq_eq_false_iff_ne.2 (by omega)
   simp (disch := omega) only [aD, cV, dI, ts, aKP, eS, xB, aA, bN, aP, cL, bO, aU, d2, g0, aH, dU, d3, uY, bH, aKQ, if_false, aE, cY, and_true, aG]
   refine ⟨C.length - (s + 1), by omega, s + 1, rfl, by simp, by omega, fun hbq => ?_⟩
   have := hsb hbq
   rcases aK9 s sy with h9 | h9
   .omega
   .exfalso
    obtain rfl : s = sy := by omega
    rw [hse] at hsy
    cases aLf hsy
    exact hbe hbq.symm
 .have d2 : decide ((s : Int) < (C.length : Int)) = false := by simp; omega
  have hne : bits < bs := by
   rcases aK9 bits bs with h9 | h9
   .exact h9
   .have := hsb (by omega)
    omega
  have e3 : (bits : Int) + 1 = ((bits + 1 : Nat) : Int) := by omega
  simp (disch := omega) only [aD, cV, eS, aA, bN, aP, aU, d2, aE]
  unfold Ms
  simp (disch := omega) only [aD, bN, e3, aP, aA]
  refine ⟨12 - (bits + 1), by omega, bits + 1, .agg #[.slice a4 k4 c4, .int .i64 i4], rfl, rfl, by omega, by omega, o7, ?_, x27⟩
  exact h7
theorem arB {cb cap n : Nat} {C : List (Nat × Nat)} {rest : List aNk} {x : ByteArray} {w : aNj} (hF : XF C (pE C)) (hm : pE C <= 11) (hC : C.length <= 256) (oc : eM w cb (cc C ++ rest)) (hx : x.size <= 1000000) (hn : n <= 100000) :
 aS pg Bj #[.slice (some ⟨cb, 0, none⟩) C.length cap, .string x, .int .i64 n] w (fun r w' => yV (rS C (gA x) n) r /\ aW w w' eU) := by
 refine ajP ?_
 obtain ⟨RR, hRR⟩ : ∃ RR : aNk -> aNj -> Prop, RR = fun r w' => yV (rS C (gA x) n) r /\ aW w w' eU := ⟨_, rfl⟩
 rw [<- hRR]
 have key : ∀ r w', yV (rS C (gA x) n) r -> aW w w' eU -> RR r w' := fun r w' h1 h2 => by rw [hRR]; exact ⟨h1, h2⟩
 unfold aeP Jr JR
 have hll := gR x
 have hlc := oc.lt
 cases he : XU (gA x) with
 | none =>
   refine (awK he hx).mono ?_
   rintro r w1 ⟨rfl, x1⟩
   have n0 : ((11 : Int) != 0) = true := rfl
   simp (disch := omega) only [aD, pP, pR, aA, dC]
   refine jS fun w2 o2 x2 s2 => ?_
   refine cK o2 rfl (by simp [one]) (by simp) fun w3 o3 x3 s3 => ?_
   simp (disch := omega) only [n0, aG]
   exact key _ _ (by unfold rS; rw [he] <;> rfl) (x1.seq (x2.new x3 (by omega)))
 | some k =>
   have hk := HS he
   have hstr : rS C (gA x) n = if (B3 C (pE C) (aZ (gA x)) n (k : Int)).2 < 0 then .error 11
       else if 0 < (B3 C (pE C) (aZ (gA x)) n (k : Int)).2 then .error 15
       else .ok (B3 C (pE C) (aZ (gA x)) n (k : Int)).1 := by unfold rS; rw [he]
   rw [hstr] at key
   refine (aAP he hx).mono ?_
   rintro r w1 ⟨bv, hi, rfl, hhi, hrb, x1⟩
   have z1 := x1.size
   have hBl := lW (gA x)
   generalize gA x = l at *
   have hrb : RBh w1 w.heap.size hi bv (aZ l) k := by
    unfold RBh
    rw [show ((k : Int)).toNat = k from aKO k, show (-(k : Int)).toNat = 0 from by omega]
    exact hrb
   obtain ⟨a1, k1, c1, i1, rfl⟩ := hrb.form
   have n0 : ((0 : Int) != 0) = false := rfl
   simp (disch := omega) only [aD, pP, pR, aA, dC]
   refine jS fun w2 o2 x2 s2 => ?_
   refine cK o2 rfl (by simp [one]) (by simp) fun w3 o3 x3 s3 => ?_
   simp only [bK, aKS, aKR] at o3
   have x13 : aW w1 w3 eU := x2.new x3 (by omega)
   have x03 := x1.seq x13
   have z13 := x13.size
   have hrb3 := hrb.ext x13 (fun _ _ _ h => h)
   have oc3 := oc.ext x03 (fun h => h)
   obtain ⟨p8, hp8⟩ : ∃ p, p = w1.heap.size := ⟨_, rfl⟩
   rw [<- hp8] at o3 ⊢
   have l3 := o3.lt
   simp (disch := omega) only [n0, aE]
   unfold JX Js Ka JU Lj
   have hbit : ∀ s, bitsOf C s <= 11 := fun s => by
    unfold bitsOf
    rw [aK0]
    cases hs : C[s]? with
    | none => simp
    | some e =>
      have := (hF.le s e.1 e.2 hs).1
      simp only [aMV]
      omega
   refine cU.rule (fun m (t : aNk × aNk) w' => ∃ (i : Nat) (ov bv : aNk), m = n - i /\ t = (ov, .int .i64 i) /\ i <= n /\
    eM w' p8 bv.cells.toList /\ RBh w' w.heap.size hi bv (aZ l) (B3 C (pE C) (aZ l) i (k : Int)).2 /\ sM w' w3.heap.size 1 ov i (u8s (B3 C (pE C) (aZ l) i (k : Int)).1) /\ aW w3 w' (fun y => y = p8 ∨ w3.heap.size <= y)) n
    ⟨0, _, .agg #[.slice a1 k1 c1, .int .i64 i1], rfl, rfl, by omega, o3, hrb3, sM.nil _ _ _, aW.refl _ _⟩ ?_
   rintro m t w4 ⟨i, ov, bv, rfl, rfl, hi', o4, h4, os4, x4⟩
   have z4 := x4.size
   have bd := aBK (C := C) (m := pE C) (B := aZ l) hbit i (k : Int)
   have hBs := alJ (C := C) (m := pE C) (B := aZ l) i (k : Int)
   have hsy := avK (C := C) (m := pE C) (B := aZ l) hF (n := i) (left := (k : Int))
   obtain ⟨a4, k4, c4, i4, rfl⟩ := h4.form
   obtain ⟨g, hg⟩ : ∃ g, B3 C (pE C) (aZ l) i (k : Int) = g := ⟨_, rfl⟩
   rw [hg] at bd hBs hsy h4 os4
   obtain ⟨gs, gl⟩ := g
   simp only at bd hBs hsy h4 os4
   have o4 : eM w4 p8 [.slice a4 k4 c4, .int .i64 i4] := o4
   have q4 := fL (off := 0) o4 (by simp)
   simp only [aKU, aKT, aKX] at q4
   unfold C2
   by_cases hlt : i < n
   .have d1 : decide ((i : Int) < (n : Int)) = true := by simp; omega
    have ex : ∀ y : Nat, (y = p8 ∨ w3.heap.size <= y) -> ¬ y = cb := by omega
    have oc4 := oc3.ext x4 (by omega)
    simp (disch := omega) only [aD, aU, d1, bN, aP, aA, q4, aG]
    refine (aJ1 hF hm hC oc4 h4 (by omega) (by omega) (by omega) (by omega)).mono ?_
    rintro r w5 ⟨b5, rfl, h5, x5⟩
    have z5 := x5.size
    obtain ⟨a5, k5, c5, i5, rfl⟩ := h5.form
    simp (disch := omega) only [pP, pR, aA]
    refine jS fun w6 o6 x6 s6 => ?_
    refine cK o6 rfl (by simp [one]) (by simp) fun w7 o7 x7 s7 => ?_
    simp only [bK, aKS, aKR] at o7
    have q7 := fL (off := 0) o7 (by simp)
    simp only [aKU, aKT, aKX] at q7
    have x57 : aW w5 w7 eU := x6.new x7 (by omega)
    have x47 := x5.seq x57
    have l7 := o7.lt
    simp (disch := omega) only [q7, aA]
    refine cK (o4.ext x47 (fun h => h)) rfl (by simp [one]) (by simp) fun w8 o8 x8 s8 => ?_
    simp only [bK, aKS, aKR] at o8
    have x48 : aW w4 w8 (fun y => y = p8) := (x47.mono fun _ _ h => h.elim).seq x8
    have z48 := x48.size
    have os8 := ((os4.ne (p := w4.heap.size) (aK1 _)).ext x48 (fun b hb h => by have := hb.1; omega))
    obtain ⟨sy, hsye⟩ : ∃ sy, sy = Eo C (pE C) (LL (aZ l) gl (pE C)) := ⟨_, rfl⟩
    rw [<- hsye] at h5 hBs ⊢
    have z57 := x57.size
    refine aCx os8 (by omega) (by omega) (by omega) fun v9 w9 o9 x9 => ?_
    have e2 : (i : Int) + 1 = ((i + 1 : Nat) : Int) := by omega
    simp (disch := omega) only [e2]
    refine ⟨n - (i + 1), by omega, i + 1, _, .agg #[.slice a5 k5 c5, .int .i64 i5], rfl, rfl, by omega, o8.ext x9 (by omega), ?_, ?_, ?_⟩
    .rw [hBs]
     exact ((h5.ext x57 (fun _ _ _ h => h)).ext x8 (fun b h1 h2 h3 => by omega)).ext x9 (fun b h1 h2 h3 => by have := h3.1; omega)
    .rw [hBs]
     have := o9.osl
     rw [show u8s gs ++ [.int .u8 (sy : Nat)] = u8s (gs ++ [sy]) from by show _ = List.map _ (gs ++ [sy]); rw [aLe] <;> rfl] at this
     exact this
    .exact (x4.seq (x48.mono fun _ _ h => .inl h)).seq (x9.mono fun y _ h => .inr (by have := h.1; omega))
   .have d1 : decide ((i : Int) < (n : Int)) = false := by simp; omega
    have hin : i = n := by omega
    subst hin
    rw [hg] at key
    simp only at key
    have x04 : aW w w4 eU := x03.trans x4 fun y hy h => by omega
    unfold De
    simp (disch := omega) only [aD, aU, d1, bN, aP, aA, q4, aE]
    refine (apH (lo := w.heap.size) (hi := hi) (lack := (-gl).toNat) (L := (aZ l).take gl.toNat) h4 (by rw [aK2]; omega) (by omega)).mono ?_
    rintro r w5 ⟨rfl, x5⟩
    have hgl : (((aZ l).take gl.toNat).length : Int) - ((-gl).toNat : Nat) = gl := by rw [aK2]; omega
    rw [hgl]
    by_cases h1 : gl < 0
    .have d2 : decide (gl < 0) = true := decide_eq_true h1
     rw [if_pos h1] at key
     simp (disch := omega) only [aU, d2, dH, aA, aG]
     exact key _ _ rfl (x04.seq x5)
    have d2 : decide (gl < 0) = false := decide_eq_false h1
    rw [if_neg h1] at key
    by_cases h2 : 0 < gl
    .have d3 : decide (0 < gl) = true := decide_eq_true h2
     have d4 : decide (gl > 0) = true := decide_eq_true h2
     rw [if_pos h2] at key
     simp (disch := omega) only [aU, d2, dH, d3, aA, aG, aE]
     exact key _ _ rfl (x04.seq x5)
    have d3 : decide (0 < gl) = false := decide_eq_false h2
    have d4 : decide (gl > 0) = false := decide_eq_false h2
    rw [if_neg h2] at key
    have hb := (os4.ext x5 (fun _ _ h => h)).sl
    rw [<- Vs (fun s hs => by have := hsy s hs; omega)] at hb
    have hcv := dW hb
    simp (disch := omega) only [aU, d2, dH, d3, aA, aE, hcv]
    exact key _ _ rfl (x04.seq x5)
end Go.Proofs.YtgpimhlgaokobaaGreat
