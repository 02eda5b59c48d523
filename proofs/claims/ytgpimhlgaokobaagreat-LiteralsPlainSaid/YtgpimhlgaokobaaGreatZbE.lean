/- Parts of the proof of LiteralsPlain: merged and given short names by a program of ours. -/
import Derived.Test.YtgpimhlgaokobaaGreatZbD
set_option linter.unusedVariables false
set_option linter.unusedSimpArgs false
open Array renaming length_toList → aMJ
open Bool renaming not_true → aLL, false_eq_true → aLu
open Int renaming tdiv_eq_ediv_of_nonneg → aLK, tmod_eq_emod_of_nonneg → aLU, toNat_natCast → aLs, fdiv_eq_ediv_of_nonneg → aM2
open List renaming take_of_length_le → aL0, length_eq_zero_iff → aL4, map_congr_left → aL7, mem_range → aL8, getElem?_eq_getElem → aLA, take_zero → aLB, length_map → aLD, getD_eq_getElem?_getD → aLE, length_take → aLG, getElem?_eq_none → aLH, length_drop → aLM, length_cons → aLP, mem_cons_of_mem → aLQ, getElem?_append_left → aLR, map_append → aLS, append_assoc → aLV, getElem?_map → aLZ, getElem?_cons_zero → aLq, getElem?_cons_succ → aLr, set_cons_succ → aLv, set_cons_zero → aLw, take_succ_cons → aLx, drop_zero → aLy, length_append → aLz, set_append_right → aM8, getElem?_toArray → aMB, ext_getElem? → aMC, mem_map → aMD, map_cons → aME, mem_append_left → aMG, drop_succ_cons → aMK, nil_append → aMM, take_append_of_le_length → aMN, ext_getElem → aMP, mem_of_mem_take → aMS, getElem?_replicate → aMT, getElem_of_mem → aMX, getElem_cons_zero → aMZ, mem_append → aMb, replicate_succ → aMc, append_nil → aMd, getElem_mem → aMf, getElem?_take_of_lt → aMg, length_singleton → aMj, length_replicate → aMk, mem_cons → aMl, getElem?_eq_some_iff → aMo, cons_append → aMp, take_add_one → aMq, getElem?_range → aMv, mem_of_getElem? → aMz, getLast?_concat → aNB, range_succ → aNI, drop_left' → aNK, map_nil → aNM, map_replicate → aNO, take_take → aNP, map_map → aNV, map_drop → aNc, take_length → aNd, mem_singleton → aNg, map_take → aNi, getLast?_eq_getElem? → aNl, replicate_succ' → aNm, take_left' → aNu
open Nat renaming mul_comm → aL1, mod_eq_of_lt → aL5, pow_succ → aL6, pow_le_pow_right → aLC, le_refl → aLF, lt_or_ge → aLO, two_pow_pos → aLW, mul_le_mul_right → aLY, zero_add → aLt, add_assoc → aM1, mod_two_eq_zero_or_one → aM3, lt_of_lt_of_le → aM4, add_zero → aMA, eq_zero_or_pos → aMO, add_mul → aMi, min_eq_left → aMm, pow_add → aMr, add_sub_cancel → aMt, div_le_self → aMu, le_trans → aMy, log2_two_pow → aNA, div_eq_of_lt → aNC, one_mul → aNF, mul_add → aNG, lt_trichotomy → aNQ, sub_self → aNb, zero_le → aNn, mod_lt → aNt
open Option renaming map_some → aMh, getD_some → aNz
open Option.some renaming inj → aLT
open Prod.mk renaming inj → aNe
open UInt8 renaming toNat_lt → aL9, toNat_ofNat_of_lt' → aMQ
namespace Go.Proofs.YtgpimhlgaokobaaGreat
open Go Go.En Go.Pu
set_option maxRecDepth 4000
theorem azJ {log lo hi lack k cc : Nat} {a : Option Addr} {b : aNY} {L : List Bool} {w : aNX} (h : RB w lo hi b L lack) (hhi : hi <= w.heap.size) (hn : log <= 20) (hL : L.length <= 10000000) (hk : lack <= 100000000) :
 aS pg CV #[.agg #[.int .i64 log, .slice a k cc], b] w (fun r w' => ∃ b', r = .tuple #[b', .int .i64 (qL L log : Nat)] /\ RB w' lo hi b' (L.take (L.length - min log L.length)) (lack + (log - min log L.length)) /\ aW w w' eS) := by
 refine arC ?_
 unfold atG Np
 have hb := h
 obtain ⟨v, rfl, hs, hat⟩ := h
 obtain ⟨a', c', rfl, hc⟩ := Ff hs
 refine nR fun w1 o1 x1 s1 => ?_
 refine nR fun w2 o2 x2 s2 => ?_
 refine jV fun w3 o3 x3 s3 => ?_
 simp only [Value.cells] at o1 o2
 have o13 := (o1.ext x2 (fun h => h)).ext x3 (fun h => h)
 have o23 := o2.ext x3 (fun h => h)
 have x03 : aW w w3 eS := (x1.seq x2).seq x3
 have c0 := o13.cell (off := 0)
 have l1 := fM (off := 0) o23 (by simp)
 simp only [aLq, aLr, aLy, aLx, aLB] at c0 l1
 simp (disch := omega) only [aD, l1, dQ, aA, bO, c0, aH]
 refine (aqG (hb.ext x03 (fun _ _ _ h => h)) (by omega) hL (by omega)).mono ?_
 rintro r w4 ⟨b', rfl, hb4, x4⟩
 have hlt := sX L log
 have hp : 2 ^ log <= 2 ^ 20 := aLC (by omega) hn
 generalize qL L log = x at *
 have hb4' := hb4
 obtain ⟨v4, rfl, hs4, hat4⟩ := hb4
 obtain ⟨a4, c4, rfl, hc4⟩ := Ff hs4
 simp (disch := omega) only [pT, pS, aA, bX, aQ]
 refine cL (o23.ext x4 (fun h => h)) rfl (by simp [one]) (by simp) fun w5 o5 x5 s5 => ?_
 simp only [bM, aLw, aLv] at o5
 have l5 := fM (off := 0) o5 (by simp)
 simp only [aLy, aLx, aLB] at l5
 simp (disch := omega) only [l5, aA]
 refine cL ((o3.ext x4 (fun h => h)).ext x5 (by omega)) rfl (by simp [one]) (by simp) fun w6 o6 x6 s6 => ?_
 refine mA o6 (by simp [bM]) ?_
 simp only [bM, aLw, aLv, aLy, aLx, aLB]
 have z3 := x3.size
 have x46 : aW w3 w6 (fun y => y = w1.heap.size ∨ y = w2.heap.size) := ((x4.mono fun _ _ h => h.elim).seq (x5.mono fun _ _ h => .inl h)).seq (x6.mono fun _ _ h => .inr h)
 have x06 : aW w w6 eS := x03.trans x46 fun b hb h => by omega
 refine ⟨_, rfl, ?_, x06⟩
 exact ⟨_, rfl, hs4.ext ((x5.mono fun _ _ h => .inl h : aW w4 w5 (fun y => y = w1.heap.size ∨ y = w2.heap.size)).seq (x6.mono fun _ _ h => .inr h)) (hat4 _ fun b hb hh => by omega), hat4⟩
theorem aEk {log b lo hi lack : Nat} {v bv : aNY} {L : List T3} {s : Int} {B : List Bool} {w : aNX} (ht : RT w b log L v) (hL : Low L) (hlen : L.length <= 1000000) (h : RB w lo hi bv B lack) (hhi : hi <= w.heap.size) (hB : B.length <= 10000000) (hk : lack <= 100000000) :
 aS pg Mv #[v, .int .i64 s, bv] w (fun r w' => ∃ b', r = .tuple #[b', .int .i64 (uW L s (qL B (lD L s)))] /\ RB w' lo hi b' (B.take (B.length - min (lD L s) B.length)) (lack + (lD L s - min (lD L s) B.length)) /\ aW w w' eS) := by
 refine atX ?_
 have htt := ht
 obtain ⟨cc, rest, rfl, ob⟩ := ht
 have hb := h
 obtain ⟨v, rfl, hs, hat⟩ := h
 obtain ⟨a', c', rfl, hc⟩ := Ff hs
 unfold ayJ QR
 refine nR fun w1 o1 x1 s1 => ?_
 refine nR fun w2 o2 x2 s2 => ?_
 refine jV fun w3 o3 x3 s3 => ?_
 simp only [Value.cells] at o1 o2
 have o13 := (o1.ext x2 (fun h => h)).ext x3 (fun h => h)
 have o23 := o2.ext x3 (fun h => h)
 have x03 : aW w w3 eS := (x1.seq x2).seq x3
 have c1 := o13.cell (off := 1)
 have l1 := fM (off := 0) o23 (by simp)
 simp only [aLq, aLr, aLy, aLx, aLB] at c1 l1
 have hlb := ob.lt
 have bad : lD L s = 0 -> (∀ x, uW L s x = 0) -> ∀ w6, aW w3 w6 (fun y => y = w2.heap.size) -> ∃ b', Value.tuple #[.agg #[.slice a' B.length c', .int .i64 lack], .int .i64 0] = Value.tuple #[b', .int .i64 (uW L s (qL B (lD L s)))] /\ RB w6 lo hi b' (B.take (B.length - min (lD L s) B.length)) (lack + (lD L s - min (lD L s) B.length)) /\ aW w w6 eS := by
  intro e1 e2 w6 x6
  have x06 : aW w w6 eS := x03.new x6 (by omega)
  refine ⟨_, by rw [e2], ⟨_, ?_, ?_, hat⟩, x06⟩
  .rw [e1]; simp
  .have : B.take (B.length - min (lD L s) B.length) = B := aL0 (by omega)
   rw [this]
   exact hs.ext x06 (bY _)
 by_cases hs0 : s < 0
 .have d1 : decide (s < 0) = true := by simpa using hs0
  have e1 : lD L s = 0 := by unfold lD; rw [if_neg (by omega)]
  have e2 : ∀ x, uW L s x = 0 := fun x => by unfold uW; rw [if_neg (by omega)]
  simp (disch := omega) only [aD, aR, d1, bN, aLt, aA, jH, and_true, Result.ok.injEq, Next.value.injEq, true_and, bG, iT, bF, if_true, aG, cV, l1]
  refine cL o3 rfl (by simp [one]) (by simp) fun w6 o6 x6 s6 => ?_
  refine mA o6 (by simp [bM]) ?_
  simp only [bM, aLw, aLv, aLy, aLx, aLB]
  exact bad e1 e2 w6 x6
 have d1 : decide (s < 0) = false := by simpa using hs0
 obtain ⟨i, rfl⟩ : ∃ i : Nat, s = i := ⟨s.toNat, by omega⟩
 by_cases hge : L.length <= i
 .have d2 : decide ((L.length : Int) <= (i : Int)) = true := by simp; omega
  have hnone : L[i]? = none := aLH hge
  have e1 : lD L i = 0 := by unfold lD; simp [hnone]
  have e2 : ∀ x, uW L i x = 0 := fun x => by unfold uW; simp [hnone]
  simp (disch := omega) only [aD, aR, d1, bN, aLt, aA, jH, and_true, Result.ok.injEq, Next.value.injEq, true_and, bG, cW, bF, aLu, if_false, bL, c1, aH, dN, nJ, d2, l1, aG]
  refine cL o3 rfl (by simp [one]) (by simp) fun w6 o6 x6 s6 => ?_
  refine mA o6 (by simp [bM]) ?_
  simp only [bM, aLw, aLv, aLy, aLx, aLB]
  exact bad e1 e2 w6 x6
 clear bad
 have d2 : decide ((L.length : Int) <= (i : Int)) = false := by simp; omega
 have hlt : i < L.length := by omega
 obtain ⟨n, hn, hn2, hb0', hb1⟩ := hL _ (aMf hlt)
 have hsome : L[i]? = some L[i] := aLA hlt
 have e1 : lD L i = n := by unfold lD; simp [hsome, hn]
 have e2 : ∀ x : Nat, uW L i x = L[i].2.2 + x := fun x => by unfold uW; simp [hsome]
 obtain ⟨q1, q2, q3⟩ := aJg (k := .i64) hsome
 have hq : i * 3 + 2 < (fe .i64 L).length := by rw [qC]; omega
 rw [<- aLR (l₂ := rest) (by omega)] at q1 q2 q3
 generalize L[i] = e at *
 obtain ⟨e0, en, eb⟩ := e
 simp only at hn hb0' hb1 q1 q2 q3 e2
 subst hn
 rw [e1, e2]
 have ob3 := ob.ext x03 (fun h => h)
 have od := kB o13
 have o2d := kB o23
 have obd := kB ob3
 have c1d := od.cell (off := 1)
 have l1d := fM (off := 0) o2d (by simp)
 have r2d := obd.cell (off := i * 3 + 1)
 have r2 := ob3.cell (off := i * 3 + 1)
 rw [q2] at r2 r2d
 simp only [aLq, aLr, aLy, aLx, aLB] at c1d l1d
 simp (disch := omega) only [aD, aR, d1, bN, aLt, aA, jH, and_true, Result.ok.injEq, Next.value.injEq, true_and, bG, cW, bF, aLu, if_false, bL, c1, aH, dN, nJ, d2, l1, l1d, c1d, bT, aLs, cM, bO, r2d, aE]
 refine (aqG ((hb.ext x03 (fun _ _ _ h => h)).ext (aW.dr _ eS) (fun _ _ _ h => h)) (by omega) hB (by omega)).mono ?_
 rintro r w4 ⟨b', rfl, hb4, x4⟩
 have hlt := sX B n
 have hp : 2 ^ n <= 2 ^ 20 := aLC (by omega) hn2
 generalize qL B n = x at *
 obtain ⟨v4, rfl, hs4, hat4⟩ := hb4
 obtain ⟨a4, c4, rfl, hc4⟩ := Ff hs4
 simp (disch := omega) only [pT, pS, Result.ok.injEq, Next.value.injEq, and_true, aA, bX, aQ, true_and]
 refine cL (o2d.ext x4 (fun h => h)) rfl (by simp [one]) (by simp) fun w5 o5 x5 s5 => ?_
 simp only [bM, aLw, aLv] at o5
 have z3 := x3.size
 have z4 : w3.heap.size <= w4.heap.size := x4.size
 have x35 : aW w3 w5 (fun y => y = w1.heap.size) := (((aW.dr w3 eS).seq x4).mono fun _ _ h => h.elim).seq x5
 have o15 := o13.ext x35 (by omega)
 have ob5 := ob3.ext x35 (by omega)
 have o5d := kB o5
 have l5 := fM (off := 0) o5d (by simp)
 have c15 := (kB o15).cell (off := 1)
 have r3 := (kB ob5).cell (off := i * 3 + 2)
 rw [q3] at r3
 simp only [aLq, aLr, aLy, aLx, aLB] at l5 c15
 simp (disch := omega) only [l5, c15, aH, aA, bT, aLs, aLt, Result.ok.injEq, Next.value.injEq, and_true, dD, true_and, bO, r3, bJ, aQ]
 refine cL (kB (o3.ext x35 (by omega))) rfl (by simp [one]) (by simp) fun w6 o6 x6 s6 => ?_
 simp only [bM, aLw, aLv] at o6
 have x56 : aW w5 w6 (fun y => y = w2.heap.size) := (aW.dr _ _).seq x6
 have c16 := (o15.ext x56 (by omega)).cell (off := 1)
 have r36 := (ob5.ext x56 (by omega)).cell (off := i * 3 + 2)
 rw [q3] at r36
 simp only [aLq, aLr] at c16
 simp (disch := omega) only [r36, aH, c16, and_true, true_and]
 refine mA o6 (by simp) ?_
 simp only [aLy, aLx, aLB]
 have x36 : aW w3 w6 (fun y => y = w1.heap.size ∨ y = w2.heap.size) := (x35.mono fun _ _ h => .inl h).seq (x56.mono fun _ _ h => .inr h)
 have x06 : aW w w6 eS := x03.trans x36 fun b hb h => by omega
 refine ⟨_, rfl, ⟨_, rfl, hs4.ext ((x5.mono fun _ _ h => .inl h : aW w4 w5 (fun y => y = w1.heap.size ∨ y = w2.heap.size)).seq (x56.mono fun _ _ h => .inr h)) (hat4 _ fun b hb hh => by omega), hat4⟩, x06⟩
end Go.Proofs.YtgpimhlgaokobaaGreat
namespace Go.Pu
open Go Go.En
def qH (L : List Bool) (st n : Nat) : Nat := wN ((L.drop st).take n)
theorem G7 (L : List Bool) (st n : Nat) : qH L st n < 2 ^ n := by
 have h := akE ((L.drop st).take n)
 have : ((L.drop st).take n).length <= n := by rw [aLG]; omega
 exact aM4 h (aLC (by omega) this)
def ajU (L : List Bool) (st left : Nat) : Option (Nat × Nat) :=
 let n := bl (left + 1)
 if L.length < st + (n - 1) then none
 else
  let low := qH L st (n - 1)
  let free := 2 ^ n - 2 - left
  if low < free then some (low, st + (n - 1))
  else if L.length < st + (n - 1) + 1 then none
  else if qH L (st + (n - 1)) 1 = 0 then some (low, st + (n - 1) + 1)
  else some (low + 2 ^ (n - 1) - free, st + (n - 1) + 1)
def noR (L : List Bool) : Nat -> Nat -> Option (Nat × Nat)
 | 0, _ => none
 | f + 1, st => if L.length < st + 2 then none else if qH L st 2 < 3 then some (qH L st 2, st + 2) else match noR L f (st + 2) with
   | none => none
   | some (k, st') => some (3 + k, st')
def rdC (L : List Bool) (sym : Nat) : Nat -> Nat -> Nat -> List Int -> Except Int (List Int × Nat)
 | 0, _, _, _ => .error 10
 | f + 1, st, left, ps => if left = 0 then .ok (ps, st) else match ajU L st left with
   | none => .error 10
   | some (v, st1) =>
     if v = 1 then match noR L (L.length + 1) st1 with
       | none => .error 10
       | some (k, st2) => if sym < ps.length + 1 + k then .error 11 else rdC L sym f st2 left (ps ++ 0 :: List.replicate k 0)
     else if sym < ps.length + 1 then .error 11 else rdC L sym f st1 (left - (iU ((v : Int) - 1)).toNat) (ps ++ [(v : Int) - 1])
theorem awB {L : List Bool} {st left v st1 : Nat} (h : ajU L st left = some (v, st1)) (h0 : 0 < left) : st < st1 /\ st1 <= L.length /\ v <= left + 1 := by
 have hb1 := Ni (k := left + 1) (by omega)
 have hb2 := ZP (k := left + 1) (by omega)
 have hb3 := XD (left + 1)
 have hn : 2 <= bl (left + 1) := by
  rcases aLO (bl (left + 1)) 2 with h | h
  .have : bl (left + 1) = 1 := by omega
   rw [this] at hb3; omega
  .exact h
 unfold ajU at h
 simp only at h
 generalize bl (left + 1) = n at *
 obtain ⟨m, rfl⟩ : ∃ m, n = m + 1 := ⟨n - 1, by omega⟩
 rw [aMt] at *
 rw [aL6] at *
 have hl := G7 L st m
 generalize 2 ^ m = q at *
 generalize qH L st m = low at *
 split at h
 .cases h
 .split at h
  .obtain ⟨rfl, rfl⟩ := aNe (aLT h); omega
  .split at h
   .cases h
   .split at h
    .obtain ⟨rfl, rfl⟩ := aNe (aLT h); omega
    .obtain ⟨rfl, rfl⟩ := aNe (aLT h); omega
theorem aBr {L : List Bool} : ∀ {f st k st1 : Nat}, noR L f st = some (k, st1) -> st < st1 /\ st1 <= L.length /\ 2 * k <= 3 * (st1 - st)
 | 0, st, k, st1, h => by cases h
 | f + 1, st, k, st1, h => by
   rw [noR] at h
   split at h
   .cases h
   .have hl := G7 L st 2
    split at h
    .obtain ⟨rfl, rfl⟩ := aNe (aLT h); omega
    .cases hn : noR L f (st + 2) with
     | none => rw [hn] at h; cases h
     | some x =>
       obtain ⟨k', st'⟩ := x
       rw [hn] at h
       obtain ⟨rfl, rfl⟩ := aNe (aLT h)
       have := aBr hn
       omega
def CT (L : List Bool) (most : Int) (sym : Nat) : Except Int (Nat × List Int × Nat) :=
 if L.length < 4 then .error 10
 else
  let log := qH L 0 4 + 5
  if most < log ∨ 15 < log then .error 12
  else match rdC L sym (L.length + 1) 4 (2 ^ log) [] with
   | .error e => .error e
   | .ok (ps, st) => .ok (log, ps, (st + 7) / 8)
theorem azO : ∀ k : Nat, F0 (List.replicate k 0) = 0
 | 0 => rfl
 | k + 1 => by rw [aMc, Ir, azO k] <;> rfl
theorem anM {L : List Bool} {sym : Nat} {out : List Int} {stE : Nat} {tot : Int} : ∀ {f st left : Nat} {ps : List Int}, rdC L sym f st left ps = .ok (out, stE) -> (∀ p ∈ ps, -1 <= p) -> F0 ps + left = tot →
 (left = 0 -> ps.length <= sym /\ ps.getLast? ≠ some 0 /\ 1 <= ps.length) -> (∀ p ∈ out, -1 <= p) /\ F0 out = tot /\ out.length <= sym /\ out.getLast? ≠ some 0 /\ 1 <= out.length
 | 0, st, left, ps, h, _, _, _ => by cases h
 | f + 1, st, left, ps, h, hlo, hs, hz => by
   rw [rdC] at h
   split at h
   .rename_i h0
    cases h
    obtain ⟨z1, z2, z3⟩ := hz h0
    exact ⟨hlo, by omega, z1, z2, z3⟩
   .rename_i h0
    cases hv : ajU L st left with
    | none => rw [hv] at h; cases h
    | some x =>
      obtain ⟨v, st1⟩ := x
      obtain ⟨v1, v2, v3⟩ := awB hv (by omega)
      rw [hv] at h
      simp only at h
      split at h
      .rename_i hv1
       cases hn : noR L (L.length + 1) st1 with
       | none => rw [hn] at h; cases h
       | some y =>
         obtain ⟨k, st2⟩ := y
         rw [hn] at h
         simp only at h
         split at h
         .cases h
         .refine anM h ?_ ?_ (fun h => absurd h h0)
          .intro p hp
           rcases aMb.1 hp with hp | hp
           .exact hlo p hp
           .rcases aMl.1 hp with rfl | hp
            .omega
            .rw [List.eq_of_mem_replicate hp]; omega
          .rw [Xy, Ir]
           have e := azO k
           rw [e]
           have : iU 0 = 0 := rfl
           omega
      .rename_i hv1
       split at h
       .cases h
       .have hp1 : -1 <= (v : Int) - 1 := by omega
        have hpn := sU hp1
        have hpl : iU ((v : Int) - 1) <= left := by unfold iU; split <;> omega
        refine anM h ?_ ?_ ?_
        .intro p hp
         rcases aMb.1 hp with hp | hp
         .exact hlo p hp
         .rw [aNg.1 hp]; exact hp1
        .rw [Xy, Ir]
         have e : F0 [] = 0 := rfl
         rw [e]; omega
        .intro _
         rw [aLz, aMj, aNB]
         refine ⟨by omega, ?_, by omega⟩
         intro e
         have := aLT e
         omega
end Go.Pu
namespace Go.En
open Go
section
variable {P : Program} {w : aNX} {t e : TypeId}
theorem aCS {S : Nat -> Prop} {sz n m : Nat} {i : TypeInfo} {z : aNY} {ty t2 : TypeId} {k : IntKind} (hu : P.underlying t = some (.slice e)) (hu2 : P.underlying t2 = some (.int k)) (hi : P.info? e = some i) (hsz : i.size = sz) (hz : i.zero = some z) (hzs : z.cells.size = sz)
 {v : aNY} {l : List aNY} (h : OSS w S sz v n l) (hsz0 : 0 < sz) (hone : ∀ y ∈ z.cells.toList, one y = true) (hb : ∀ b, w.heap.size <= b -> S b)
 (hn : n + m <= 9223372036854775807) (hbytes : (n + m) * i.bytes <= 140737488355328) (hmb : m * i.bytes <= 140737488355328)
 {K : aNY -> aNX -> Prop} (hk : ∀ v' w', OSS w' S sz v' (n + m) (l ++ (Builtin.zeroCells z.cells m).toList) -> aW w w' S -> K v' w') : aD P (lI .append #[t, t2] ty [v, .int k m]) w K := by
 generalize hnews : (Builtin.zeroCells z.cells m).toList = news at *
 have hnl : news.length = m * sz := by rw [<- hnews, aMJ, uU, hzs]
 have hone' : ∀ y ∈ news, one y = true := by
  intro y hy
  rw [<- hnews] at hy
  simp only [Builtin.zeroCells, Array.toList_map, aMD] at hy
  obtain ⟨j, _, rfl⟩ := hy
  refine hone _ ?_
  have : j % z.cells.size < z.cells.size := aNt _ (by omega)
  rw [getElem!_pos z.cells _ this]
  exact Array.getElem_mem_toList this
 have hmw : IntKind.i64.wrap ((m : Nat) : Int) = (m : Int) := aQ (by omega) (by omega)
 have hm0 : ¬ ((m : Int) < 0) := by omega
 have hmx : ¬ ((m : Int) * (i.bytes : Nat) > 2 ^ 48) := by
  have : (m : Int) * (i.bytes : Nat) = ((m * i.bytes : Nat) : Int) := by simp
  rw [this]; omega
 have has : ∀ w, (asInt (.int k m)).run P w = .ok (m : Int) w := fun w => rfl
 have hz' : ∀ w, (zeroValue e).run P w = .ok z w := fun w => by simp [zeroValue, typeInfo, hi, hz]
 have hnw : ∀ w, (if m * sz = 0 then pure #[] else do pure (Builtin.zeroCells (<- zeroValue e).cells m) : Sem (Array aNY)).run P w = .ok news.toArray w := fun w => by
  by_cases h0 : m * sz = 0
  .rw [if_pos h0, Sem.run_pure]
   have : news = [] := aL4.1 (by omega)
   rw [this]
  .rw [if_neg h0, Sem.run_bind, hz', Result.andThen_ok, Sem.run_pure, <- hnews, Array.toArray_toList]
 have hmax : IntKind.i64.max = 9223372036854775807 := by decide
 have hnot : ¬ (((n + m : Nat) : Int) > IntKind.i64.max) := by rw [hmax]; omega
 have hlen := h.1
 rcases h.2 with ⟨rfl, rfl⟩ | ⟨b, c, rest, rfl, h2, h3, h4, h5⟩
 .have hl0 : l = [] := aL4.1 (by omega)
  subst hl0
  by_cases hm : m = 0
  .subst hm
   have hn0 : news = [] := aL4.1 (by omega)
   subst hn0
   have : (lI .append #[t, t2] ty [.slice none 0 0, .int k (0 : Nat)]).run P w = .ok (.value (.slice none 0 0)) w := by
    unfold lI builtin
    simp only [Builtin.append_, aMB, aLq, aLr]
    simp only [underlying, typeInfo, Sem.run_bind, run_program, Result.andThen_ok, hu, hu2, hi, Sem.run_pure, lC hi, hsz, has, hmw, hm0, hmx, if_true, if_false, aLs, aLL, aLu, aLF, aMA, hnw]
   unfold aD
   rw [this]
   exact hk _ _ ⟨by simp, .inl ⟨rfl, by omega⟩⟩ (aW.refl _ _)
  .have hfit := growslice_fits (need := 0 + m) (old := 0) (bytes := i.bytes) (by omega) (by omega)
   have hfit' : ¬ (Builtin.nextslicecap (0 + m) 0 * i.bytes > 2 ^ 48) := by omega
   have hle : ¬ (0 + m <= 0) := by omega
   have hq : (Question.appendCap (0 + m) 0 e).forced = false := rfl
   obtain ⟨r, hr⟩ : ∃ r, (Question.appendCap (0 + m) 0 e).cut (w.tape w.drawn (.appendCap (0 + m) 0 e)) = m + r :=
    ⟨(w.tape w.drawn (.appendCap (0 + m) 0 e)) % (2 ^ 63 - (0 + m)), by simp only [Question.cut]; omega⟩
   have : (lI .append #[t, t2] ty [.slice none 0 0, .int k m]).run P w = .ok (.value (.slice (some ⟨w.heap.size, 0, none⟩) (0 + m) (m + r))) ((dr w).alloc (.cells (news ++ (Builtin.zeroCells z.cells (m + r - (0 + m))).toList).toArray e)) := by
    unfold lI builtin
    simp only [Builtin.append_, aMB, aLq, aLr]
    simp only [underlying, typeInfo, Sem.run_bind, run_program, Result.andThen_ok, hu, hu2, hi, Sem.run_pure, lC hi, hsz, has, hmw, hm0, hmx, if_true, if_false, aLs, aLL, aLu, hle, hnot, false_and, hfit', run_choose, hq, hr, run_askRoom]
    change ((Sem.run P _ (dr w)).andThen _).andThen _ = _
    simp only [Sem.run_bind, hnw, run_firstCells_none, Result.andThen_ok, hz', Sem.run_pure, newRow, run_newObj]
    have e1 : (#[] ++ news.toArray ++ Builtin.zeroCells z.cells (m + r - (0 + m)) : Array aNY) = (news ++ (Builtin.zeroCells z.cells (m + r - (0 + m))).toList).toArray := by
     apply Array.ext'; simp
    rw [e1]
    rfl
   unfold aD
   rw [this]
   refine hk _ _ ⟨by simp only [aMM]; rw [hnl, aLt], .inr ⟨w.heap.size, m + r, (Builtin.zeroCells z.cells (m + r - (0 + m))).toList, by rw [aLt], hb _ (aLF _), eM.alloc (dr w) _ _, ?_, by omega⟩⟩ ((aW.dr w _).seq (aW.alloc _ _ _))
   simp only [aMM, aLz, aMJ, uU, hzs, hnl]
   rw [show m + r - (0 + m) = r from by omega, aMi]
 .by_cases hc : n + m <= c
  .have hroom : news.length <= rest.length := by
    rw [aLz, hlen] at h4
    have : (n + m) * sz <= c * sz := aLY _ hc
    rw [aMi] at this; omega
   obtain ⟨w', s1, s2, s3, s4, _⟩ := Fs (P := P) (M := S) h2 news w (n * sz) 0 (l ++ rest) h3 (by rw [aLz, hlen]; omega) hone'
   have : (lI .append #[t, t2] ty [.slice (some ⟨b, 0, none⟩) n c, .int k m]).run P w = .ok (.value (.slice (some ⟨b, 0, none⟩) (n + m) c)) w' := by
    unfold lI builtin
    simp only [Builtin.append_, aMB, aLq, aLr]
    simp only [underlying, typeInfo, Sem.run_bind, run_program, Result.andThen_ok, hu, hu2, hi, Sem.run_pure, lC hi, hsz, has, hmw, hm0, hmx, if_true, if_false, aLs, aLL, aLu, hc, hnw, MR, aLt, s1]
   unfold aD
   rw [this]
   rw [aMA, <- hlen, ZC _ _ _ hroom] at s2
   refine hk _ _ ⟨by rw [aLz, hlen, hnl, aMi], .inr ⟨b, c, rest.drop news.length, rfl, h2, s2, ?_, hc⟩⟩ s3
   rw [<- h4]; simp; omega
  .have hfit := growslice_fits (need := n + m) (old := c) (bytes := i.bytes) (by omega) hbytes
   have hfit' : ¬ (Builtin.nextslicecap (n + m) c * i.bytes > 2 ^ 48) := by omega
   have hq : (Question.appendCap (n + m) c e).forced = false := rfl
   obtain ⟨r, hr⟩ : ∃ r, (Question.appendCap (n + m) c e).cut (w.tape w.drawn (.appendCap (n + m) c e)) = n + m + r :=
    ⟨(w.tape w.drawn (.appendCap (n + m) c e)) % (2 ^ 63 - (n + m)), by simp only [Question.cut]⟩
   have hold : Cl (dr w) sz (.slice (some ⟨b, 0, none⟩) n c) n l := ⟨_, _, rfl, hlen, fun _ => ⟨b, 0, rfl, fun i hi => by
    show w.cell? _ = _
    rw [h3.cell, aLt, aLR hi]⟩⟩
   have : (lI .append #[t, t2] ty [.slice (some ⟨b, 0, none⟩) n c, .int k m]).run P w = .ok (.value (.slice (some ⟨w.heap.size, 0, none⟩) (n + m) (n + m + r))) ((dr w).alloc (.cells (l ++ news ++ (Builtin.zeroCells z.cells (n + m + r - (n + m))).toList).toArray e)) := by
    have hfo := CK (P := P) hold
    unfold lI builtin
    simp only [Builtin.append_, aMB, aLq, aLr]
    simp only [underlying, typeInfo, Sem.run_bind, run_program, Result.andThen_ok, hu, hu2, hi, Sem.run_pure, lC hi, hsz, has, hmw, hm0, hmx, if_true, if_false, aLs, aLL, aLu, hc, hnot, false_and, hfit', run_choose, hq, hr, run_askRoom]
    change ((Sem.run P _ (dr w)).andThen _).andThen _ = _
    simp only [Sem.run_bind, hnw, hfo, Result.andThen_ok, hz', Sem.run_pure, newRow, run_newObj]
    have e1 : (l.toArray ++ news.toArray ++ Builtin.zeroCells z.cells (n + m + r - (n + m)) : Array aNY) = (l ++ news ++ (Builtin.zeroCells z.cells (n + m + r - (n + m))).toList).toArray := by
     apply Array.ext'; simp
    rw [e1]
    rfl
   unfold aD
   rw [this]
   refine hk _ _ ⟨by rw [aLz, hlen, hnl, aMi], .inr ⟨w.heap.size, n + m + r, _, rfl, hb _ (aLF _), eM.alloc (dr w) _ _, ?_, by omega⟩⟩ ((aW.dr w _).seq (aW.alloc _ _ _))
   simp only [aLz, aMJ, uU, hzs, hnl, hlen]
   rw [show n + m + r - (n + m) = r from by omega, aMi, aMi]
end
end Go.En
namespace Go.Proofs.YtgpimhlgaokobaaGreat
open Go Go.En Go.Pu
set_option maxRecDepth 4000
theorem aI1 {y : Nat} (h : y ≠ 0) : bl y = bl (y / 2) + 1 := by
 by_cases h2 : y / 2 = 0
 .obtain rfl : y = 1 := by omega
  decide
 .have a := ZP h2
  have b := XD (y / 2)
  have c := Ni h2
  obtain ⟨m, hm⟩ : ∃ m, bl (y / 2) = m + 1 := ⟨bl (y / 2) - 1, by omega⟩
  rw [hm, aMt] at a
  rw [hm] at b ⊢
  refine aH0 ?_ ?_
  .rw [aL6]; omega
  .rw [aL6]; omega
theorem aJd {x : Nat} (hx : x < 2 ^ 40) (w : aNX) : aS pg I9 #[.int .i64 x] w (fun r w' => r = .int .i64 (bl x : Nat) /\ w' = w) := by
 refine aoN ?_
 unfold atK OM PF Oo No Nd
 have hb : bl x <= 40 := xA hx
 refine cR.rule (fun m (t : aNY × aNY) w' => ∃ n : Nat, t = (.int .i64 m, .int .i64 n) /\ bl m + n = bl x /\ m <= x /\ w' = w) x ⟨0, rfl, rfl, aLF _, rfl⟩ ?_
 rintro m t w1 ⟨n, rfl, hn, hmx, rfl⟩
 unfold FF
 by_cases h0 : m = 0
 .subst h0
  have d1 : decide ((0 : Int) < ((0 : Nat) : Int)) = false := rfl
  unfold F4
  have : n = bl x := by rw [<- hn]; simp [aIT]
  subst this
  simp (disch := omega) only [aD, cX, d1, oY, bJ, aQ, aA, true_and, and_true, aE]
 .have d1 : decide ((0 : Int) < (m : Int)) = true := by simp; omega
  have e1 : (m : Int).tdiv 2 = ((m / 2 : Nat) : Int) := by rw [aLK (by omega)]; omega
  have hh := aI1 h0
  simp (disch := omega) only [aD, cX, d1, oY, e1, aQ, bJ, aA, and_true, aG]
  exact ⟨m / 2, by omega, n + 1, rfl, by omega, by omega⟩
theorem XW {v : aNY} {L : List Bool} {st n : Nat} {w : aNX} (hs : Bl w v L) (hn : n <= 32) (hst : st <= L.length) (hl : L.length <= 10000000) :
 aS pg zS #[.agg #[v, .int .i64 st], .int .i64 n] w (fun r w' => ((L.length < st + n /\ r = .tuple #[.agg #[v, .int .i64 st], .int .u64 0, .int .i64 10]) ∨
  (st + n <= L.length /\ r = .tuple #[.agg #[v, .int .i64 (st + n : Nat)], .int .u64 (qH L st n : Nat), .int .i64 0])) /\ aW w w' eS) := by
 refine auL ?_
 obtain ⟨a, c, rfl, hc⟩ := Ff hs
 unfold ayB Rz
 refine nR fun w1 o1 x1 s1 => ?_
 refine BH fun w2 o2 x2 s2 => ?_
 simp only [Value.cells] at o1
 have o1 := o1.ext x2 (fun h => h)
 have c0 := o1.cell (off := 0)
 have c1 := o1.cell (off := 1)
 have l1 := jJ (off := 0) o1 (by simp)
 simp only [aLq, aLr, aLy, aLx, aLB] at c0 c1 l1
 have x02 : aW w w2 eS := x1.seq x2
 have d1 : decide ((n : Int) < 0) = false := by simp
 have d2 : decide ((32 : Int) < (n : Int)) = false := by simp; omega
 by_cases hsh : L.length < st + n
 .have d3 : decide ((L.length : Int) - (st : Int) < (n : Int)) = true := by simp; omega
  simp (disch := omega) only [aD, aR, d1, eD, dK, aLt, aA, bO, lX, cW, bF, aLu, if_false, bL, cX, d2, l1, c0, aH, lL, c1, fF, aQ, d3, bJ, aG, aE]
  refine eZ o2 rfl (by simp [one]) (by simp) fun w3 o3 x3 s3 => ?_
  refine qB o3 (by simp [bM]) ?_
  simp only [bM, aLw, aLv, aLy, aLx, aLB]
  exact ⟨.inl ⟨hsh, by trivial⟩, x02.new x3 (by omega)⟩
 .have d3 : decide ((L.length : Int) - (st : Int) < (n : Int)) = false := by simp; omega
  have e1 : (st : Int) + (n : Int) = ((st + n : Nat) : Int) := by omega
  have hs2 := (hs.ext x02 (bY _)).drop' (k := st) (by omega)
  rw [<- aNc] at hs2
  have hs3 := aJA hs2 (k := n) (by omega)
  rw [<- aNi] at hs3
  have e2 : st + n - st = n := by omega
  simp (disch := omega) only [aD, aR, d1, eD, dK, aLt, aA, bO, lX, cW, bF, aLu, if_false, bL, cX, d2, c0, aH, lL, c1, fF, aQ, d3, bJ, e1, kI, aLs, e2, aE]
  refine (asK hs3 (by rw [aLG]; omega)).mono ?_
  rintro r w3 ⟨rfl, rfl⟩
  simp (disch := omega) only [c1, aH, aA, bJ, e1, aQ]
  refine pH o1 rfl (by simp) fun w4 o4 x4 s4 => ?_
  simp only [aLw, aLv] at o4
  have l4 := jJ (off := 0) o4 (by simp)
  simp only [aLy, aLx, aLB] at l4
  simp (disch := omega) only [l4, aA]
  refine eZ (o2.ext x4 (by omega)) rfl (by simp [one]) (by simp) fun w5 o5 x5 s5 => ?_
  refine qB o5 (by simp [bM]) ?_
  simp only [bM, aLw, aLv, aLy, aLx, aLB]
  exact ⟨.inr ⟨by omega, by trivial⟩, (x02.new x4 (by omega)).new x5 (by omega)⟩
theorem aGg {v : aNY} {st : Nat} {w : aNX} (hst : st <= 1000000000) : aS pg MH #[.agg #[v, .int .i64 st]] w (fun r w' => r = .int .i64 (((st + 7) / 8 : Nat)) /\ aW w w' eS) := by
 refine auH ?_
 unfold azH RW
 refine nR fun w1 o1 x1 s1 => ?_
 simp only [Value.cells] at o1
 have c1 := o1.cell (off := 1)
 simp only [aLq, aLr] at c1
 have e1 : ((st : Int) + 7).tdiv 8 = (((st + 7) / 8 : Nat) : Int) := by rw [aLK (by omega)]; omega
 simp (disch := omega) only [aD, dK, aLt, aA, bO, c1, aH, bJ, aQ, oY, e1, true_and]
 exact x1
theorem aBm {left : Nat} (h0 : 0 < left) (h1 : left <= 32768) : ∃ m, bl (left + 1) = m + 1 /\ 1 <= m /\ m <= 16 /\ left + 1 < 2 ^ (m + 1) /\ 2 ^ m <= left + 1 /\ 2 ^ (m + 1) = 2 * 2 ^ m := by
 have hb2 := ZP (k := left + 1) (by omega)
 have hb3 := XD (left + 1)
 have hb4 := xA (k := left + 1) (n := 17) (by omega)
 have hn : 2 <= bl (left + 1) := by
  rcases aLO (bl (left + 1)) 2 with h | h
  .have hb1 := Ni (k := left + 1) (by omega)
   have : bl (left + 1) = 1 := by omega
   rw [this] at hb3; omega
  .exact h
 obtain ⟨m, hm⟩ : ∃ m, bl (left + 1) = m + 1 := ⟨bl (left + 1) - 1, by omega⟩
 rw [hm] at hb2 hb3 hb4 hn ⊢
 exact ⟨m, rfl, by omega, by omega, hb3, hb2, by rw [aL6, aL1]⟩
theorem aCH (L : List Bool) (f st : Nat) : noR L (f + 1) st = if L.length < st + 2 then none else if qH L st 2 < 3 then some (qH L st 2, st + 2) else match noR L f (st + 2) with
 | none => none
 | some (k, st') => some (3 + k, st') := by rw [noR] <;> rfl
def aJj (w : aNX) (lo hi : Nat) (l : List UInt8) (o : Option (Nat × Nat)) (r : aNY) : Prop := match o with
 | none => r = .tuple #[.int .i64 0, .int .i64 10]
 | some (v, st) => r = .tuple #[.int .i64 v, .int .i64 0] /\ Fwd w lo hi l st
theorem aJi {l : List UInt8} {lo hi st left : Nat} {w : aNX} (h : Fwd w lo hi l st) (hlh : lo <= hi) (hst : st <= 8 * l.length) (hl : l.length <= 1000000) (h0 : 0 < left) (h1 : left <= 32768) :
 aS pg GC #[.pointer (some ⟨hi, 0, none⟩), .int .i64 left] w (fun r w' => aJj w' lo hi l (ajU (aZ l) st left) r /\ aW w w' (fun y => y = hi)) := by
 refine agN ?_
 obtain ⟨m, hm, hm1, hm2, hf1, hf2, hf3⟩ := aBm h0 h1
 unfold amJ Kw
 have e1 : (left : Int) + 1 = ((left + 1 : Nat) : Int) := by omega
 simp (disch := omega) only [aD, bJ, e1, aQ, aA, fY, kV]
 refine (aCB (x := left + 1) (by omega) w).mono ?_
 rintro r w1 ⟨rfl, rfl⟩
 rw [hm]
 have e2 : ((m + 1 : Nat) : Int) - 1 = (m : Int) := by omega
 simp (disch := omega) only [fF, e2, aQ, pG, aLs, aA]
 refine (X2 (n := m) h hlh (by omega) hst hl).mono ?_
 have hbl := lZ l
 unfold ajU
 simp only [hm, aMt]
 rintro r w2 (⟨hsh, rfl, hf, x2⟩ | ⟨hsh, rfl, hf, x2⟩)
 .have n1 : ((10 : Int) != 0) = true := rfl
  rw [if_pos (by omega)]
  simp (disch := omega) only [pT, pS, aA, cY, n1, aG]
  exact ⟨rfl, x2.mono fun _ _ h => h.elim⟩
 .have n1 : ((0 : Int) != 0) = false := rfl
  rw [if_neg (by omega)]
  have hlt := G7 (aZ l) st m
  have hnum : wN (((aZ l).drop st).take m) = qH (aZ l) st m := rfl
  rw [hnum]
  have hsh1 := aGm (n := m + 1) (by omega)
  have hsh0 := aGm (n := m) (by omega)
  have hp : 2 ^ m <= 2 ^ 16 := aLC (by omega) hm2
  generalize qH (aZ l) st m = low at *
  rw [hf3] at *
  generalize hq : 2 ^ m = q at *
  have e3 : ((2 * q : Nat) : Int) - 2 - (left : Int) = ((2 * q - 2 - left : Nat) : Int) := by omega
  by_cases hfr : low < 2 * q - 2 - left
  .have d1 : decide ((low : Int) < ((2 * q - 2 - left : Nat) : Int)) = true := by simp only [decide_eq_true_eq]; omega
   rw [if_pos hfr]
   simp (disch := omega) only [pT, pS, hsh1, aQ, e3, aA, cY, n1, aE, bX, bJ, fF, aR, d1, aG]
   exact ⟨⟨rfl, hf⟩, x2⟩
  .have d1 : decide ((low : Int) < ((2 * q - 2 - left : Nat) : Int)) = false := by simp only [decide_eq_false_iff_not]; omega
   rw [if_neg hfr]
   simp (disch := omega) only [pT, pS, hsh1, aQ, e3, aA, cY, n1, aE, bX, bJ, fF, aR, d1]
   refine (X2 (n := 1) hf hlh (by omega) hsh hl).mono ?_
   rintro r w3 (⟨hs3, rfl, hf3, x3⟩ | ⟨hs3, rfl, hf3, x3⟩)
   .have n1 : ((10 : Int) != 0) = true := rfl
    rw [if_pos (by omega)]
    simp (disch := omega) only [pT, pS, aA, cY, n1, aG]
    exact ⟨rfl, x2.seq (x3.mono fun _ _ h => h.elim)⟩
   .rw [if_neg (by omega)]
    have hnum : wN (((aZ l).drop (st + m)).take 1) = qH (aZ l) (st + m) 1 := rfl
    rw [hnum]
    by_cases hz : qH (aZ l) (st + m) 1 = 0
    .have n2 : (((qH (aZ l) (st + m) 1 : Nat) : Int) == 0) = true := by rw [hz] <;> rfl
     rw [if_pos hz]
     simp (disch := omega) only [pT, pS, aA, cY, n1, aE, dV, n2, aG]
     exact ⟨⟨rfl, hf3⟩, x2.seq x3⟩
    .have n2 : (((qH (aZ l) (st + m) 1 : Nat) : Int) == 0) = false := beq_eq_false_iff_ne.2 (by omega)
     have e4 : (low : Int) + (q : Int) - ((2 * q - 2 - left : Nat) : Int) = ((low + q - (2 * q - 2 - left) : Nat) : Int) := by omega
     rw [if_neg hz]
     simp (disch := omega) only [pT, pS, hsh0, e4, aA, cY, n1, aE, dV, n2]
     exact ⟨⟨rfl, hf3⟩, x2.seq x3⟩
theorem aFL {l : List UInt8} {lo hi st : Nat} {w : aNX} (h : Fwd w lo hi l st) (hlh : lo <= hi) (hst : st <= 8 * l.length) (hl : l.length <= 1000000) :
 aS pg Ct #[.pointer (some ⟨hi, 0, none⟩)] w (fun r w' => aJj w' lo hi l (noR (aZ l) ((aZ l).length + 1) st) r /\ aW w w' (fun y => y = hi)) := by
 refine YY ?_
 have hbl := lZ l
 unfold VY D2 GS GX QH GP GD G3 Gq
 refine cR.rule (fun m (t : aNY) w' => ∃ k0 st' : Nat, t = .int .i64 k0 /\ noR (aZ l) ((aZ l).length + 1) st = (match noR (aZ l) m st' with | none => none | some (k, s) => some (k0 + k, s)) /\ (aZ l).length < 2 * m + st' /\ st' <= 8 * l.length /\ k0 <= 3 * st' /\ Fwd w' lo hi l st' /\ aW w w' (fun y => y = hi)) ((aZ l).length + 1)
  ⟨0, st, rfl, by cases noR (aZ l) ((aZ l).length + 1) st with
    | none => rfl
    | some x => simp, by omega, hst, by omega, h, aW.refl _ _⟩ ?_
 rintro m t w1 ⟨k0, st', rfl, hr, hm, hs', hk0, hf, x1⟩
 obtain ⟨m, rfl⟩ : ∃ m', m = m' + 1 := ⟨m - 1, by omega⟩
 unfold AY
 refine (X2 (n := 2) hf hlh (by omega) hs' hl).mono ?_
 rw [aCH (aZ l) m st'] at hr
 rintro r w2 (⟨hsh, rfl, hf2, x2⟩ | ⟨hsh, rfl, hf2, x2⟩)
 .have n1 : ((10 : Int) != 0) = true := rfl
  rw [if_pos (by omega)] at hr
  rw [hr]
  simp (disch := omega) only [aD, pT, pS, aA, cY, n1, aG]
  exact ⟨rfl, x1.seq (x2.mono fun _ _ h => h.elim)⟩
 .have n1 : ((0 : Int) != 0) = false := rfl
  rw [if_neg (by omega)] at hr
  have hlt := G7 (aZ l) st' 2
  have hnum : wN (((aZ l).drop st').take 2) = qH (aZ l) st' 2 := rfl
  rw [hnum]
  generalize qH (aZ l) st' 2 = x at *
  have e1 : (k0 : Int) + (x : Int) = ((k0 + x : Nat) : Int) := by omega
  by_cases h3 : x < 3
  .have d1 : decide ((x : Int) < 3) = true := by simp; omega
   rw [if_pos h3] at hr
   rw [hr]
   unfold AU
   simp (disch := omega) only [aD, pT, pS, aA, cY, n1, aE, bX, aQ, aR, d1, aG, bJ, e1]
   exact ⟨⟨rfl, hf2⟩, x1.seq x2⟩
  .have d1 : decide ((x : Int) < 3) = false := by simp; omega
   rw [if_neg h3] at hr
   simp (disch := omega) only [aD, pT, pS, aA, cY, n1, aE, bX, aQ, aR, d1, bJ, e1]
   refine ⟨m, by omega, k0 + x, st' + 2, rfl, ?_, by omega, by omega, by omega, hf2, x1.seq x2⟩
   rw [hr]
   cases noR (aZ l) m (st' + 2) with
   | none => rfl
   | some y =>
     obtain ⟨k, s⟩ := y
     have : x = 3 := by omega
     subst this
     simp; omega
def aEi (v : aNY) (o : Option (Nat × Nat)) (r : aNY) : Prop := match o with
 | none => ∃ st' : Nat, r = .tuple #[.agg #[v, .int .i64 st'], .int .i64 0, .int .i64 10]
 | some (x, st) => r = .tuple #[.agg #[v, .int .i64 st], .int .i64 x, .int .i64 0]
theorem aF2 {v : aNY} {L : List Bool} {st left : Nat} {w : aNX} (hs : Bl w v L) (hst : st <= L.length) (hl : L.length <= 10000000) (h0 : 0 < left) (h1 : left <= 32768) :
 aS pg Mz #[.agg #[v, .int .i64 st], .int .i64 left] w (fun r w' => aEi v (ajU L st left) r /\ aW w w' eS) := by
 refine auO ?_
 obtain ⟨m, hm, hm1, hm2, hf1, hf2, hf3⟩ := aBm h0 h1
 obtain ⟨a, c, rfl, hc⟩ := Ff hs
 unfold ayN RQ
 refine nR fun w1 o1 x1 s1 => ?_
 refine BH fun w2 o2 x2 s2 => ?_
 simp only [Value.cells] at o1
 have o1 := o1.ext x2 (fun h => h)
 have l1 := jJ (off := 0) o1 (by simp)
 simp only [aLy, aLx, aLB] at l1
 have x02 : aW w w2 eS := x1.seq x2
 have e1 : (left : Int) + 1 = ((left + 1 : Nat) : Int) := by omega
 have hw1 : w.heap.size <= w.heap.size := aLF _
 have hw2 : w.heap.size <= w1.heap.size := x1.size
 have hne : w.heap.size ≠ w1.heap.size := by omega
 obtain ⟨p1, hp1⟩ : ∃ p1, p1 = w.heap.size := ⟨_, rfl⟩
 obtain ⟨p2, hp2⟩ : ∃ p2, p2 = w1.heap.size := ⟨_, rfl⟩
 rw [<- hp1, <- hp2] at hne
 rw [<- hp1] at o1 l1 ⊢
 rw [<- hp2] at o2 hw2 ⊢
 simp (disch := omega) only [aD, bJ, e1, aQ, aA]
 refine (aJd (x := left + 1) (by omega) w2).mono ?_
 rintro r w3 ⟨rfl, rfl⟩
 rw [hm]
 have e2 : ((m + 1 : Nat) : Int) - 1 = (m : Int) := by omega
 simp (disch := omega) only [l1, fF, e2, aQ, aA]
 unfold ajU
 simp only [hm, aMt]
 refine (XW (n := m) (hs.ext x02 (bY _)) (by omega) hst hl).mono ?_
 have fin : ∀ (st' : Nat) (xv : Int) (ev : Int) (w' : aNX) (RR : aNY -> aNX -> Prop), eM w' p1 [.slice a L.length c, .int .i64 st'] -> eM w' p2 [.slice none 0 0, .int .i64 0] -> aW w w' eS →
     (∀ w'', aW w w'' eS -> RR (.tuple #[.agg #[.slice a L.length c, .int .i64 st'], .int .i64 xv, .int .i64 ev]) w'') →
     aD pg (aL 176 (.pointer (some ⟨p1, 0, none⟩))) w' fun t15 w => aD pg (aT 176 (.pointer (some ⟨p2, 0, none⟩)) t15) w fun _u w => Ac pg 176 (.pointer (some ⟨p2, 0, none⟩)) w fun r0 => RR (.tuple #[r0, .int .i64 xv, .int .i64 ev]) w := by
  intro st' xv ev w' RR q1 q2 qx qk
  have l1 := jJ (off := 0) q1 (by simp)
  simp only [aLy, aLx, aLB] at l1
  simp (disch := omega) only [aD, l1, aA]
  refine eZ q2 rfl (by simp [one]) (by simp) fun w6 o6 x6 s6 => ?_
  refine qB o6 (by simp [bM]) ?_
  simp only [bM, aLw, aLv, aLy, aLx, aLB]
  exact qk _ (qx.new x6 hw2)
 have hx1 : w.heap.size <= p1 := by omega
 rintro r w4 ⟨⟨hsh, rfl⟩ | ⟨hsh, rfl⟩, x4⟩
 .have n1 : ((10 : Int) != 0) = true := rfl
  rw [if_pos (by omega)]
  simp (disch := omega) only [Yc, Yy, Yk, aA, cY, bX, aQ]
  refine eZ (o1.ext x4 (fun h => h)) rfl (by simp [one]) (by simp) fun w5 o5 x5 s5 => ?_
  simp only [bM, aLw, aLv] at o5
  simp (disch := omega) only [n1, aG]
  exact fin st 0 10 w5 (fun r w' => aEi (.slice a L.length c) none r /\ aW w w' eS) o5 ((o2.ext x4 (fun h => h)).ext x5 (by omega)) ((x02.seq x4).new x5 hx1) fun w6 x6 => ⟨⟨_, rfl⟩, x6⟩
 .have n1 : ((0 : Int) != 0) = false := rfl
  rw [if_neg (by omega)]
  have hlt := G7 L st m
  have hsh1 : m + 1 <= 40 := by omega
  have hp : 2 ^ m <= 2 ^ 16 := aLC (by omega) hm2
  simp (disch := omega) only [Yc, Yy, Yk, aA, cY, bX, aQ]
  refine eZ (o1.ext x4 (fun h => h)) rfl (by simp [one]) (by simp) fun w5 o5 x5 s5 => ?_
  simp only [bM, aLw, aLv] at o5
  have x05 : aW w w5 eS := (x02.seq x4).new x5 hx1
  have o25 := (o2.ext x4 (fun h => h)).ext x5 (by omega)
  simp (disch := omega) only [n1, aE]
  refine (IG m (by omega) _).mono ?_
  rintro r w6 ⟨rfl, rfl⟩
  have hpow : ((2 ^ m : Nat) : Int) = (2 : Int) ^ m := by simp
  rw [<- hpow]
  generalize qH L st m = low at *
  rw [hf3] at *
  generalize hq : 2 ^ m = q at *
  have e3 : 2 * (q : Int) - 2 - (left : Int) = ((2 * q - 2 - left : Nat) : Int) := by omega
  by_cases hfr : low < 2 * q - 2 - left
  .have d1 : decide ((low : Int) < ((2 * q - 2 - left : Nat) : Int)) = true := by simp only [decide_eq_true_eq]; omega
   rw [if_pos hfr]
   have l5 := jJ (off := 0) o5 (by simp)
   simp only [aLy, aLx, aLB] at l5
   simp (disch := omega) only [oS, aQ, bJ, aA, fF, e3, aR, d1, l5, aG]
   refine eZ o25 rfl (by simp [one]) (by simp) fun w7 o7 x7 s7 => ?_
   refine qB o7 (by simp [bM]) ?_
   simp only [bM, aLw, aLv, aLy, aLx, aLB]
   exact ⟨rfl, x05.new x7 hw2⟩
  .have d1 : decide ((low : Int) < ((2 * q - 2 - left : Nat) : Int)) = false := by simp only [decide_eq_false_iff_not]; omega
   rw [if_neg hfr]
   have l5 := jJ (off := 0) o5 (by simp)
   simp only [aLy, aLx, aLB] at l5
   simp (disch := omega) only [oS, aQ, bJ, aA, fF, e3, aR, d1, l5, aE]
   refine (XW (n := 1) (hs.ext x05 (bY _)) (by omega) hsh hl).mono ?_
   rintro r w7 ⟨⟨hs3, rfl⟩ | ⟨hs3, rfl⟩, x7⟩
   .have n1 : ((10 : Int) != 0) = true := rfl
    rw [if_pos (by omega)]
    simp (disch := omega) only [Yc, Yy, Yk, aA, cY, dV]
    refine eZ (o5.ext x7 (fun h => h)) rfl (by simp [one]) (by simp) fun w8 o8 x8 s8 => ?_
    simp only [bM, aLw, aLv] at o8
    simp (disch := omega) only [n1, aG]
    exact fin _ 0 10 w8 (fun r w' => aEi (.slice a L.length c) none r /\ aW w w' eS) o8 ((o25.ext x7 (fun h => h)).ext x8 (by omega)) ((x05.seq x7).new x8 hx1) fun w6 x6 => ⟨⟨_, rfl⟩, x6⟩
   .rw [if_neg (by omega)]
    have hb1 := G7 L (st + m) 1
    simp (disch := omega) only [Yc, Yy, Yk, aA, cY, dV]
    refine eZ (o5.ext x7 (fun h => h)) rfl (by simp [one]) (by simp) fun w8 o8 x8 s8 => ?_
    simp only [bM, aLw, aLv] at o8
    have x08 : aW w w8 eS := (x05.seq x7).new x8 hx1
    have o28 := (o25.ext x7 (fun h => h)).ext x8 (by omega)
    have l8 := jJ (off := 0) o8 (by simp)
    simp only [aLy, aLx, aLB] at l8
    by_cases hz : qH L (st + m) 1 = 0
    .have n2 : (((qH L (st + m) 1 : Nat) : Int) == 1) = false := by rw [hz] <;> rfl
     rw [if_pos hz]
     simp (disch := omega) only [n1, l8, aA, n2, aE]
     refine eZ o28 rfl (by simp [one]) (by simp) fun w9 o9 x9 s9 => ?_
     refine qB o9 (by simp [bM]) ?_
     simp only [bM, aLw, aLv, aLy, aLx, aLB]
     exact ⟨rfl, x08.new x9 hw2⟩
    .have n2 : (((qH L (st + m) 1 : Nat) : Int) == 1) = true := by rw [show qH L (st + m) 1 = 1 from by omega] <;> rfl
     have e4 : (low : Int) + (q : Int) - ((2 * q - 2 - left : Nat) : Int) = ((low + q - (2 * q - 2 - left) : Nat) : Int) := by omega
     rw [if_neg hz]
     simp (disch := omega) only [n1, l8, aA, n2, e4, aG, aE]
     refine eZ o28 rfl (by simp [one]) (by simp) fun w9 o9 x9 s9 => ?_
     refine qB o9 (by simp [bM]) ?_
     simp only [bM, aLw, aLv, aLy, aLx, aLB]
     exact ⟨rfl, x08.new x9 hw2⟩
theorem awY (L : List Bool) (sym f st left : Nat) (ps : List Int) : rdC L sym (f + 1) st left ps = if left = 0 then .ok (ps, st) else match ajU L st left with
 | none => .error 10
 | some (v, st1) =>
   if v = 1 then match noR L (L.length + 1) st1 with
     | none => .error 10
     | some (k, st2) => if sym < ps.length + 1 + k then .error 11 else rdC L sym f st2 left (ps ++ 0 :: List.replicate k 0)
   else if sym < ps.length + 1 then .error 11 else rdC L sym f st1 (left - (iU ((v : Int) - 1)).toNat) (ps ++ [(v : Int) - 1]) := by rw [rdC] <;> rfl
theorem aBM (k : Nat) : (Builtin.zeroCells (Value.int .i64 0).cells k).toList = List.replicate k (Value.int .i64 0) := by
 apply aMP
 .rw [aMJ, uU, aMk]; simp [Value.cells]
 .intro i h1 h2
  simp [Builtin.zeroCells, Value.cells, Nat.mod_one]
theorem aJc {n m base : Nat} {ty : TypeId} {w : aNX} {v : aNY} {l : List aNY} (h : tE w base 1 v n l) (hb : base <= w.heap.size) (hn : (n + m) * 8 <= 140737488355328) {K : aNY -> aNX -> Prop}
 (hk : ∀ v' w', tE w' base 1 v' (n + m) (l ++ List.replicate m (.int .i64 0)) -> aW w w' (fun y => base <= y) -> K v' w') : aD pg (lI .append #[42, 3] ty [v, .int .i64 m]) w K :=
 aCS (i := Tryz.t3) (S := fun y => base <= y) Tryz.underlying42 Tryz.underlying3 Bk rfl rfl rfl h (by decide) (by intro y hy; simp [Value.cells] at hy; subst hy; rfl) (fun b hbb => aMy hb hbb) (by omega) (by rw [show Tryz.t3.bytes = 8 from rfl]; omega) (by rw [show Tryz.t3.bytes = 8 from rfl]; omega)
  (fun v' w' o x => hk v' w' (by rw [<- aBM]; exact o) x)
def afP (w : aNX) (base : Nat) (o : Except Int (Nat × List Int × Nat)) (r : aNY) : Prop := match o with
 | .error e => r = .tuple #[.agg #[.int .i64 0, .slice none 0 0], .int .i64 0, .int .i64 e]
 | .ok (log, ps, used) => ∃ v, r = .tuple #[.agg #[.int .i64 log, v], .int .i64 used, .int .i64 0] /\ tE w base 1 v ps.length (ps.map (Value.int .i64))
theorem Ut {p6 : Nat} {w0 w : aNX} {e : Int} (o6 : eM w p6 [.int .i64 0, .slice none 0 0]) (hx : aW w0 w eS) (hp : w0.heap.size <= p6) {RR : aNY -> aNX -> Prop}
 (hR : ∀ w', aW w0 w' eS -> RR (.tuple #[.agg #[.int .i64 0, .slice none 0 0], .int .i64 0, .int .i64 e]) w') :
 aD pg (aT 100 (.pointer (some ⟨p6, 0, none⟩)) (.agg #[.int .i64 0, .slice none 0 0])) w fun _u w => Ac pg 100 (.pointer (some ⟨p6, 0, none⟩)) w fun r0 => RR (.tuple #[r0, .int .i64 0, .int .i64 e]) w := by
 refine wR o6 rfl (by simp [one]) (by simp) fun w6 o6 x6 s6 => ?_
 refine QI o6 (by simp [bM]) ?_
 simp only [bM, aLw, aLv, aLy, aLx, aLB]
 exact hR _ (hx.new x6 hp)
theorem aGG {l : List UInt8} {log lo hi p6 pc sym : Nat} {w0 w : aNX} {res : Except Int (List Int × Nat)} (hlh : lo <= hi) (hlp : w0.heap.size <= p6) (hl : l.length <= 1000000) (h6 : p6 < lo) (hhp : hi < pc) (hsym : sym <= 1000000) (hlog : log <= 15)
 (o6 : eM w p6 [.int .i64 0, .slice none 0 0]) (oc : eM w pc [.int .i64 log, .slice none 0 0]) (hf : Fwd w lo hi l 4) (h4 : 4 <= 8 * l.length) (hx : aW w0 w eS)
 (hres : rdC (aZ l) sym ((aZ l).length + 1) 4 (2 ^ log) [] = res)
 {RR : aNY -> aNX -> Prop} (hE : ∀ e w', res = .error e -> aW w0 w' eS -> RR (.tuple #[.agg #[.int .i64 0, .slice none 0 0], .int .i64 0, .int .i64 e]) w')
 (hO : ∀ ps st v w', res = .ok (ps, st) -> tE w' w0.heap.size 1 v ps.length (ps.map (Value.int .i64)) -> aW w0 w' eS -> RR (.tuple #[.agg #[.int .i64 log, v], .int .i64 (((st + 7) / 8 : Nat)), .int .i64 0]) w') :
 C8 RR (.int .i64 sym) (.pointer (some ⟨p6, 0, none⟩)) (.pointer (some ⟨hi, 0, none⟩)) (.pointer (some ⟨pc, 0, none⟩)) (.int .i64 (2 ^ log : Nat)) w := by
 have hbl := lZ l
 have hp15 : 2 ^ log <= 2 ^ 15 := aLC (by omega) hlog
 unfold C8 Nk Pv
 have lpc := oc.lt
 refine cR.rule (fun m (t : aNY) w' => ∃ (st left : Nat) (ps : List Int) (v : aNY), t = .int .i64 left /\ rdC (aZ l) sym m st left ps = res /\ (aZ l).length < m + st /\ st <= 8 * l.length /\ left <= 32768 /\ ps.length <= 1000000 /\
  eM w' p6 [.int .i64 0, .slice none 0 0] /\ eM w' pc [.int .i64 log, v] /\ tE w' (pc + 1) 1 v ps.length (ps.map (Value.int .i64)) /\ Fwd w' lo hi l st /\ aW w w' (fun y => y = hi ∨ pc <= y)) ((aZ l).length + 1)
  ⟨4, 2 ^ log, [], _, rfl, hres, by omega, h4, by omega, by simp, o6, oc, tE.nil _ _ _, hf, aW.refl _ _⟩ ?_
 rintro m t w1 ⟨st, left, ps, v, rfl, hr, hm, hst, hleft, hpl, o61, oc1, ov, hf1, x1⟩
 have z1 := x1.size
 have hx0 := hx.size
 have hx1 : ∀ {w' : aNX}, aW w w' (fun y => y = hi ∨ pc <= y) -> aW w0 w' eS := fun h => hx.trans h fun b hb hh => by omega
 obtain ⟨m, rfl⟩ : ∃ m', m = m' + 1 := ⟨m - 1, by omega⟩
 rw [awY] at hr
 obtain ⟨av, cv, hv⟩ := ov.len
 unfold Fg Ps
 by_cases h0 : left = 0
 .have d1 : decide ((0 : Int) < (left : Int)) = false := by simp; omega
  rw [if_pos h0] at hr
  subst hv
  have lc := rJ (off := 0) (kB oc1) (by simp)
  have lc' := rJ (off := 0) oc1 (by simp)
  simp only [aLy, aLx, aLB] at lc lc'
  unfold FR
  simp (disch := omega) only [aD, cX, d1, jH, and_true, true_and, aA, lc, aE]
  refine (aGt (hf1.ext (aW.dr w1 eS) (fun _ _ _ h => h) hlh) (by omega)).mono ?_
  rintro r w2 ⟨rfl, rfl⟩
  simp (disch := omega) only [lc, true_and]
  refine wR (kB o61) rfl (by simp [one]) (by simp) fun w6 o6 x6 s6 => ?_
  refine QI o6 (by simp [bM]) ?_
  simp only [bM, aLw, aLv, aLy, aLx, aLB]
  have x16 : aW w1 w6 (fun y => y = p6) := (aW.dr w1 _).seq x6
  have ov6 := ov.ext x16 (fun b hb h => by omega)
  refine hO ps st _ w6 hr.symm ⟨ov6.1, ?_⟩ ((hx1 x1).new x16 (by omega))
  rcases ov6.2 with h | ⟨b, c, rest, q1, q2, q3⟩
  .exact .inl h
  .exact .inr ⟨b, c, rest, q1, by omega, q3⟩
 .have d1 : decide ((0 : Int) < (left : Int)) = true := by simp; omega
  rw [if_neg h0] at hr
  simp (disch := omega) only [aD, cX, d1, aA, aG]
  unfold Pc VS NB
  refine (aJi hf1 hlh hst hl (by omega) hleft).mono ?_
  rintro r w2 ⟨hv2, x2⟩
  have x12 : aW w w2 (fun y => y = hi ∨ pc <= y) := x1.seq (x2.mono fun y _ h => .inl h)
  have o62 := o61.ext x2 (by omega)
  have oc2 := oc1.ext x2 (by omega)
  have ov2 := ov.ext x2 (fun b hb h => by omega)
  have z2 := x2.size
  cases hval : ajU (aZ l) st left with
  | none =>
    rw [hval] at hr hv2
    obtain rfl := hv2
    have n1 : ((10 : Int) != 0) = true := rfl
    simp (disch := omega) only [aD, pT, pS, fZ, aA, bK, aLt, dS, cY, n1, aG]
    exact Ut (RR := RR) (e := 10) o62 (hx1 x12) hlp fun w' h => hE _ _ hr.symm h
  | some y =>
    obtain ⟨x, st1⟩ := y
    rw [hval] at hr hv2
    simp only at hr
    obtain ⟨rfl, hf2⟩ := hv2
    obtain ⟨b1, b2, b3⟩ := awB hval (by omega)
    have n1 : ((0 : Int) != 0) = false := rfl
    simp (disch := omega) only [aD, pT, pS, fZ, aA, bK, aLt, dS, cY, n1, aE, fF, aQ, dV]
    refine (aBx _ _).mono ?_
    rintro r w3 ⟨rfl, rfl⟩
    have c1 := oc2.cell (off := 1)
    simp only [aLq, aLr] at c1
    have hpp : iU ((x : Int) - 1) <= left := by unfold iU; split <;> omega
    have hpn := sU (p := (x : Int) - 1) (by omega)
    obtain ⟨pq, hpq⟩ : ∃ pq : Nat, iU ((x : Int) - 1) = pq := ⟨(iU ((x : Int) - 1)).toNat, by omega⟩
    rw [hpq] at hr hpp ⊢
    rw [aLs] at hr
    have e1 : (left : Int) - (pq : Int) = ((left - pq : Nat) : Int) := by omega
    simp (disch := omega) only [fF, e1, aQ, aA, c1, aH]
    refine X3 (cells := #[.int .i64 ((x : Int) - 1)]) (by decide) (by decide) (by kernel_rfl) fun w4 o4 x4 s4 => ?_
    have z4 := x4.size
    refine Tu (m := 1) (news := [.int .i64 ((x : Int) - 1)]) (ov2.ext x4 (fun _ _ h => h)) (o4.cl (off := 0) (l := [.int .i64 ((x : Int) - 1)]) (n := 1) rfl (fun i hi => by rw [aLt])) (by simp [one]) (by omega) (by omega) fun v5 w5 o5 x5 => ?_
    have z5 := x5.size
    obtain ⟨av5, cv5, rfl⟩ := o5.len
    have oc5 := (oc2.ext x4 (fun h => h)).ext x5 (by omega)
    refine anC oc5 rfl (by simp) fun w6 oc6 x6 s6 => ?_
    simp only [aLw, aLv] at oc6
    have z6 := x6.size
    have ov6 := o5.ext x6 (fun b hb h => by omega)
    have x26 : aW w3 w6 (fun y => pc <= y) := ((x4.mono fun _ _ h => h.elim).seq (x5.mono fun y _ h => by omega)).seq (x6.mono fun y _ h => by omega)
    have x16 : aW w w6 (fun y => y = hi ∨ pc <= y) := x12.seq (x26.mono fun y _ h => .inr h)
    have o66 := o62.ext x26 (by omega)
    have hf6 := hf2.ext x26 (fun b _ _ => by omega) hlh
    have hsz : pc < w6.heap.size := oc6.lt
    rw [show (ps.map (Value.int .i64) ++ [Value.int .i64 ((x : Int) - 1)]) = (ps ++ [(x : Int) - 1]).map (Value.int .i64) from by simp] at ov6
    have hwl : IntKind.i64.wrap (left : Int) = left := aQ (by omega) (by omega)
    have tail : ∀ (ps' : List Int) (st' left' : Nat) (a : Option Addr) (cc : Nat) (w' : aNX), (if sym < ps'.length then .error 11 else rdC (aZ l) sym m st' left' ps') = res -> ps'.length <= 10000000 -> left' <= 32768 -> st < st' -> st' <= 8 * l.length →
        eM w' p6 [.int .i64 0, .slice none 0 0] -> eM w' pc [.int .i64 log, .slice a ps'.length cc] -> tE w' (pc + 1) 1 (.slice a ps'.length cc) ps'.length (ps'.map (Value.int .i64)) -> Fwd w' lo hi l st' -> aW w w' (fun y => y = hi ∨ pc <= y) →
        BI (fun _ _ _ _ aX w'' => ∃ m', m' < m + 1 /\ ∃ (st left : Nat) (ps : List Int) (v : aNY), aX = .int .i64 left /\ rdC (aZ l) sym m' st left ps = res /\ (aZ l).length < m' + st /\ st <= 8 * l.length /\ left <= 32768 /\ ps.length <= 1000000 /\
         eM w'' p6 [.int .i64 0, .slice none 0 0] /\ eM w'' pc [.int .i64 log, v] /\ tE w'' (pc + 1) 1 v ps.length (ps.map (Value.int .i64)) /\ Fwd w'' lo hi l st /\ aW w w'' (fun y => y = hi ∨ pc <= y)) RR
         (.int .i64 sym) (.pointer (some ⟨p6, 0, none⟩)) (.pointer (some ⟨hi, 0, none⟩)) (.pointer (some ⟨pc, 0, none⟩)) (.int .i64 left') w' := by
     intro ps' st' left' a cc w' q1 q2 q3 q4 q5 q6 q7 q8 q9 q10
     have c1 := q7.cell (off := 1)
     simp only [aLq, aLr] at c1
     unfold BI
     by_cases hgt : sym < ps'.length
     .have d1 : decide ((sym : Int) < (ps'.length : Int)) = true := by simp; omega
      rw [if_pos hgt] at q1
      simp (disch := omega) only [aD, bK, aLt, fZ, aA, dS, c1, aH, gC, cX, d1, iT, bF, if_true, aG, cV]
      exact Ut (RR := RR) (e := 11) q6 (hx1 q10) hlp fun w' h => hE _ _ q1.symm h
     .have d1 : decide ((sym : Int) < (ps'.length : Int)) = false := by simp; omega
      have d2 : decide ((left' : Int) < 0) = false := by simp
      rw [if_neg hgt] at q1
      simp (disch := omega) only [aD, bK, aLt, fZ, aA, dS, c1, aH, gC, cX, d1, cW, bF, aLu, if_false, bL, aR, d2, aE]
      exact ⟨m, by omega, st', left', ps', _, rfl, q1, by omega, q5, q3, by omega, q6, q7, q8, q9, q10⟩
    by_cases h1 : x = 1
    .subst h1
     have n2 : (((1 : Nat) : Int) - 1 == 0) = true := rfl
     obtain rfl : pq = 0 := by
      have : iU (((1 : Nat) : Int) - 1) = 0 := rfl
      omega
     rw [if_pos rfl] at hr
     simp (disch := omega) only [n2, aG]
     refine (aFL hf6 hlh (by omega) hl).mono ?_
     rintro r w7 ⟨hv7, x7⟩
     have x17 : aW w w7 (fun y => y = hi ∨ pc <= y) := x16.seq (x7.mono fun y _ h => .inl h)
     have o67 := o66.ext x7 (by omega)
     have oc7 := oc6.ext x7 (by omega)
     have ov7 := ov6.ext x7 (fun b hb h => by omega)
     have z7 := x7.size
     cases hno : noR (aZ l) ((aZ l).length + 1) st1 with
     | none =>
       rw [hno] at hr hv7
       obtain rfl := hv7
       have n1 : ((10 : Int) != 0) = true := rfl
       simp (disch := omega) only [pT, pS, aA, cY, n1, aG]
       exact Ut (RR := RR) (e := 10) o67 (hx1 x17) hlp fun w' h => hE _ _ hr.symm h
     | some y =>
       obtain ⟨k, st2⟩ := y
       rw [hno] at hr hv7
       simp only at hr
       obtain ⟨rfl, hf7⟩ := hv7
       obtain ⟨k1, k2, k3⟩ := aBr hno
       have n1 : ((0 : Int) != 0) = false := rfl
       by_cases hgt : sym < k
       .have d1 : decide ((sym : Int) < (k : Int)) = true := by simp; omega
        rw [if_pos (by omega)] at hr
        simp (disch := omega) only [pT, pS, aA, cY, n1, aE, cX, d1, aG]
        exact Ut (RR := RR) (e := 11) o67 (hx1 x17) hlp fun w' h => hE _ _ hr.symm h
       .have d1 : decide ((sym : Int) < (k : Int)) = false := by simp; omega
        have c7 := oc7.cell (off := 1)
        simp only [aLq, aLr] at c7
        simp (disch := omega) only [pT, pS, aA, cY, n1, aE, cX, d1, c7, aH]
        refine aJc (m := k) ov7 (by omega) (by omega) fun v8 w8 o8 x8 => ?_
        obtain ⟨av8, cv8, rfl⟩ := o8.len
        have z8 := x8.size
        refine anC (oc7.ext x8 (by omega)) rfl (by simp) fun w9 oc9 x9 s9 => ?_
        simp only [aLw, aLv] at oc9
        have z9 := x9.size
        have x79 : aW w7 w9 (fun y => pc <= y) := (x8.mono fun y _ h => by omega).seq (x9.mono fun y _ h => by omega)
        have ov9 := o8.ext x9 (fun b hb h => by omega)
        have hlk : ps.length + 1 + k = (ps ++ 0 :: List.replicate k 0).length := by simp; omega
        have hmk : List.map (Value.int .i64) (ps ++ [((1 : Nat) : Int) - 1]) ++ List.replicate k (Value.int .i64 0) = (ps ++ 0 :: List.replicate k 0).map (Value.int .i64) := by simp
        rw [hmk, hlk] at ov9
        rw [hlk] at hr oc9
        refine tail _ st2 left _ _ w9 hr (by rw [<- hlk]; omega) hleft (by omega) (by omega) (o67.ext x79 (by omega)) oc9 ov9 (hf7.ext x79 (fun b _ _ => by omega) hlh) (x17.seq (x79.mono fun y _ h => .inr h))
    .have n2 : ((x : Int) - 1 == 0) = false := beq_eq_false_iff_ne.2 (by omega)
     rw [if_neg h1] at hr
     simp (disch := omega) only [n2, aE]
     rw [show ps.length + 1 = (ps ++ [(x : Int) - 1]).length from by simp] at hr ov6 oc6
     exact tail _ st1 _ _ _ w6 hr (by simp; omega) (by omega) b1 (by omega) o66 oc6 ov6 hf6 x16
theorem aDZ {bv : aNY} {l : List UInt8} {most : Int} {sym : Nat} {w : aNX} (hb : Bs w bv l) (hl : l.length <= 1000000) (hsym : sym <= 1000000) :
 aS pg I8 #[bv, .int .i64 most, .int .i64 sym] w (fun r w' => afP w' w.heap.size (CT (aZ l) most sym) r /\ aW w w' eS) := by
 refine aoT ?_
 obtain ⟨RR, hRR⟩ : ∃ RR : aNY -> aNX -> Prop, RR = fun r w' => afP w' w.heap.size (CT (aZ l) most sym) r /\ aW w w' eS := ⟨_, rfl⟩
 rw [<- hRR]
 have hbl := lZ l
 unfold atA LP KC
 refine B6 fun w1 o1 x1 s1 => ?_
 refine (aBz (hb.ext x1 (bY _)) (by omega)).mono ?_
 rintro r w2 ⟨hi, rfl, hi1, hi2, hf2, x2⟩
 have z1 := x1.size
 have z2 := x2.size
 simp (disch := omega) only [aD, fZ, aA]
 refine (X2 (n := 4) hf2 hi1 (by omega) (by omega) hl).mono ?_
 rintro r w3 (⟨hsh, rfl, hf3, x3⟩ | ⟨hsh, rfl, hf3, x3⟩)
 .have n1 : ((10 : Int) != 0) = true := rfl
  have hrl : CT (aZ l) most sym = .error 10 := by unfold CT; rw [if_pos (by omega)]
  rw [hrl] at hRR
  simp (disch := omega) only [pT, pS, aA, cY, n1, aG]
  exact Ut (RR := RR) (e := 10) ((o1.ext x2 (fun h => h)).ext x3 (fun h => h)) ((x1.seq x2).seq x3) (aLF _) fun w' h => by rw [hRR]; exact ⟨rfl, h⟩
 .have n1 : ((0 : Int) != 0) = false := rfl
  have hnum : wN (((aZ l).drop 0).take 4) = qH (aZ l) 0 4 := rfl
  have hlt := G7 (aZ l) 0 4
  have hrl : CT (aZ l) most sym = (if most < ((qH (aZ l) 0 4 + 5 : Nat) : Int) ∨ 15 < qH (aZ l) 0 4 + 5 then .error 12 else match rdC (aZ l) sym ((aZ l).length + 1) 4 (2 ^ (qH (aZ l) 0 4 + 5)) [] with
   | .error e => .error e
   | .ok (ps, st) => .ok (qH (aZ l) 0 4 + 5, ps, (st + 7) / 8)) := by unfold CT; rw [if_neg (by omega)] <;> rfl
  rw [hrl] at hRR
  rw [hnum]
  generalize qH (aZ l) 0 4 = x at *
  have e1 : (x : Int) + 5 = ((x + 5 : Nat) : Int) := by omega
  have x03 : aW w w3 eS := (x1.seq x2).trans x3 fun b hb h => by omega
  have o13 := (o1.ext x2 (fun h => h)).ext x3 (by omega)
  simp (disch := omega) only [pT, pS, aA, cY, n1, aE, bX, aQ, bJ, e1, iG]
  refine B6 fun w4 o4 x4 s4 => ?_
  refine wR o4 rfl (by simp [one]) (by simp) fun w5 o5 x5 s5 => ?_
  simp only [bM, aLw, aLv] at o5
  have z3 := x3.size
  have z4 := x4.size
  have x05 : aW w w5 eS := (x03.seq x4).new x5 (by omega)
  have x35 : aW w3 w5 eS := x4.new x5 (by omega)
  have o15 := o13.ext x35 (fun h => h)
  have c5 := o5.cell (off := 0)
  simp only [aLq, aLr] at c5
  by_cases hmo : most < ((x + 5 : Nat) : Int)
  .have d1 : decide (most < ((x + 5 : Nat) : Int)) = true := by simpa using hmo
   rw [if_pos (.inl hmo)] at hRR
   simp (disch := omega) only [bV, aA, bO, c5, aH, cX, d1, iT, bF, if_true, aG, cV]
   exact Ut (RR := RR) (e := 12) o15 x05 (aLF _) fun w' h => by rw [hRR]; exact ⟨rfl, h⟩
  have d1 : decide (most < ((x + 5 : Nat) : Int)) = false := by simpa using hmo
  by_cases h15 : 15 < x + 5
  .have d2 : decide ((15 : Int) < ((x + 5 : Nat) : Int)) = true := by simp; omega
   rw [if_pos (.inr h15)] at hRR
   simp (disch := omega) only [bV, aA, bO, c5, aH, cX, d1, cW, bF, aLu, if_false, bL, d2, pG, aLs, aG]
   exact Ut (RR := RR) (e := 12) o15 x05 (aLF _) fun w' h => by rw [hRR]; exact ⟨rfl, h⟩
  have d2 : decide ((15 : Int) < ((x + 5 : Nat) : Int)) = false := by simp; omega
  rw [if_neg (by omega)] at hRR
  have hsh := aGm (n := x + 5) (by omega)
  simp (disch := omega) only [bV, aA, bO, c5, aH, cX, d1, cW, bF, aLu, if_false, bL, d2, pG, aLs, hsh, aE]
  have hl5 := o5.lt
  refine aGG (l := l) (w0 := w) (log := x + 5) (res := rdC (aZ l) sym ((aZ l).length + 1) 4 (2 ^ (x + 5)) []) (lo := w1.heap.size) hi1 (aLF _) hl (by omega) (by omega) hsym (by omega) o15 o5 (hf3.ext x35 (fun _ _ _ h => h) hi1) (by omega) x05 rfl ?_ ?_
  .intro e w' he hx
   rw [hRR, he]
   exact ⟨rfl, hx⟩
  .intro ps st v w' he ho hx
   rw [hRR, he]
   exact ⟨⟨v, rfl, ho⟩, hx⟩
def Sk (L : List Bool) (v st1 : Nat) : Option (Nat × Nat) := if v = 1 then noR L (L.length + 1) st1 else some (0, st1)
theorem aIP {L : List Bool} {sym f st left : Nat} {ps : List Int} (h0 : left ≠ 0) : rdC L sym (f + 1) st left ps = match ajU L st left with
 | none => .error 10
 | some (v, st1) => match Sk L v st1 with
   | none => .error 10
   | some (k, st2) => if sym < ps.length + 1 + k then .error 11 else rdC L sym f st2 (left - (iU ((v : Int) - 1)).toNat) (ps ++ ((v : Int) - 1) :: List.replicate k 0) := by
 rw [awY, if_neg h0]
 cases ajU L st left with
 | none => rfl
 | some x =>
   obtain ⟨v, st1⟩ := x
   simp only
   unfold Sk
   by_cases h : v = 1
   .subst h
    rw [if_pos rfl, if_pos rfl]
    have : iU (((1 : Nat) : Int) - 1) = 0 := rfl
    rw [this] <;> rfl
   .rw [if_neg h, if_neg h]
    rfl
theorem anB {p6 : Nat} {w0 w : aNX} {e : Int} (o6 : eM w p6 [.int .i64 0, .slice none 0 0]) (hx : aW w0 w eS) (hp : w0.heap.size <= p6) {RR : aNY -> aNX -> Prop}
 (hR : ∀ w', aW w0 w' eS -> RR (.tuple #[.agg #[.int .i64 0, .slice none 0 0], .int .i64 0, .int .i64 e]) w') :
 aD pg (aT 128 (.pointer (some ⟨p6, 0, none⟩)) (.agg #[.int .i64 0, .slice none 0 0])) w fun _u w => Ac pg 128 (.pointer (some ⟨p6, 0, none⟩)) w fun r0 => RR (.tuple #[r0, .int .i64 0, .int .i64 e]) w := by
 refine sG o6 rfl (by simp [one]) (by simp) fun w6 o6 x6 s6 => ?_
 refine Hq o6 (by simp [bM]) ?_
 simp only [bM, aLw, aLv, aLy, aLx, aLB]
 exact hR _ (hx.new x6 hp)
structure RdS (w : aNX) (p6 pf pc log st : Nat) (bv : aNY) (L : List Bool) (ps : List Int) (v : aNY) : Prop where
 o6 : eM w p6 [.int .i64 0, .slice none 0 0]
 of : eM w pf [bv, .int .i64 st]
 oc : eM w pc [.int .i64 log, v]
 os : tE w (pc + 1) 1 v ps.length (ps.map (Value.int .i64))
 bl : Bl w bv L
 at' : AtI bv 0 pf
 h6 : p6 < pf
 hf : pf < pc
theorem RdS.ext {w w' : aNX} {p6 pf pc log st : Nat} {bv : aNY} {L : List Bool} {ps : List Int} {v : aNY} (h : RdS w p6 pf pc log st bv L ps v) (hx : aW w w' eS) : RdS w' p6 pf pc log st bv L ps v :=
 ⟨h.o6.ext hx (fun h => h), h.of.ext hx (fun h => h), h.oc.ext hx (fun h => h), h.os.ext hx (fun _ _ h => h), h.bl.ext hx (bY _), h.at', h.h6, h.hf⟩
theorem RdS.setF {w w' : aNX} {p6 pf pc log st st' : Nat} {bv : aNY} {L : List Bool} {ps : List Int} {v : aNY} (h : RdS w p6 pf pc log st bv L ps v) (hx : aW w w' (fun y => y = pf)) (o : eM w' pf [bv, .int .i64 st']) : RdS w' p6 pf pc log st' bv L ps v := by
 have h6 := h.h6
 have hf := h.hf
 exact ⟨h.o6.ext hx (by omega), o, h.oc.ext hx (by omega), h.os.ext hx (fun _ _ h => by omega), h.bl.ext hx (h.at' _ fun b _ hb => by omega), h.at', h.h6, h.hf⟩
theorem aG0 {w : aNX} {p6 pf pc log st : Nat} {bv : aNY} {L : List Bool} {ps : List Int} {v : aNY} (h : RdS w p6 pf pc log st bv L ps v) (p : Int) (hl : ps.length <= 100000000) {K : aNX -> Prop}
 (hK : ∀ w' v', RdS w' p6 pf pc log st bv L (ps ++ [p]) v' -> aW w w' (fun y => pc <= y) -> K w') :
 aD pg (cU 42 1 [(0, .int .i64 p)]) w fun t64 w => aD pg (lI .append #[42, 42] 42 [v, t64]) w fun t65 w => aD pg (aK 128 (.pointer (some ⟨pc, 0, none⟩)) 1) w fun t66 w => aD pg (aT 42 t66 t65) w fun _ w => K w := by
 have lpc := h.oc.lt
 have h6 := h.h6
 have hf := h.hf
 refine X3 (cells := #[.int .i64 p]) (by decide) (by decide) (by kernel_rfl) fun w4 o4 x4 s4 => ?_
 have z4 := x4.size
 refine Tu (m := 1) (news := [.int .i64 p]) (h.os.ext x4 (fun _ _ h => h)) (o4.cl (off := 0) (l := [.int .i64 p]) (n := 1) rfl (fun i hi => by rw [aLt])) (by simp [one]) (by omega) (by omega) fun v5 w5 o5 x5 => ?_
 have z5 := x5.size
 obtain ⟨av5, cv5, rfl⟩ := o5.len
 have oc5 := (h.oc.ext x4 (fun h => h)).ext x5 (by omega)
 simp (disch := omega) only [aD, aN, aLt, aA]
 refine anC oc5 rfl (by simp) fun w6 oc6 x6 s6 => ?_
 simp only [aLw, aLv] at oc6
 have ov6 := o5.ext x6 (fun b hb h => by omega)
 have x26 : aW w w6 (fun y => pc <= y) := ((x4.mono fun _ _ h => h.elim).seq (x5.mono fun y _ h => by omega)).seq (x6.mono fun y _ h => by omega)
 rw [show (ps.map (Value.int .i64) ++ [Value.int .i64 p]) = (ps ++ [p]).map (Value.int .i64) from by simp, show ps.length + 1 = (ps ++ [p]).length from by simp] at ov6
 rw [show ps.length + 1 = (ps ++ [p]).length from by simp] at oc6
 exact hK w6 _ ⟨h.o6.ext x26 (by omega), h.of.ext x26 (by omega), oc6, ov6, h.bl.ext x26 (h.at' _ fun b _ hb => by omega), h.at', h6, hf⟩ x26
theorem aGJ {w : aNX} {p6 pf pc log st sym left : Nat} {bv : aNY} {L : List Bool} {ps : List Int} {v : aNY} (h : RdS w p6 pf pc log st bv L ps v) {x : Nat} (hx3 : x <= 3) (hl : ps.length <= 90000000) {kn : aNY -> aNY -> aNY -> aNY -> aNY -> aNY -> aNX -> Prop}
 (hK : ∀ w' v', RdS w' p6 pf pc log st bv L (ps ++ List.replicate x 0) v' -> aW w w' (fun y => pc <= y) -> kn (.int .i64 sym) (.pointer (some ⟨p6, 0, none⟩)) (.pointer (some ⟨pf, 0, none⟩)) (.pointer (some ⟨pc, 0, none⟩)) (.int .i64 left) (.bool (((x : Nat) : Int) == 3)) w') :
 I5 kn (.int .i64 sym) (.pointer (some ⟨p6, 0, none⟩)) (.pointer (some ⟨pf, 0, none⟩)) (.int .u64 x) (.pointer (some ⟨pc, 0, none⟩)) (.int .i64 left) w := by
 unfold I5 Q8 QW Sf Q2
 refine cR.rule (fun m (t : aNY) w' => ∃ (i : Nat) (v' : aNY), m = x - i /\ t = .int .i64 i /\ i <= x /\ RdS w' p6 pf pc log st bv L (ps ++ List.replicate i 0) v' /\ aW w w' (fun y => pc <= y)) x
  ⟨0, v, rfl, rfl, by omega, by simpa using h, aW.refl _ _⟩ ?_
 rintro m t w1 ⟨i, v', rfl, rfl, hi, h1, x1⟩
 unfold II
 by_cases hlt : i < x
 .have d1 : decide ((i : Int) < (x : Int)) = true := by simp; omega
  have c1 := h1.oc.cell (off := 1)
  simp only [aLq, aLr] at c1
  simp (disch := omega) only [aD, bX, aQ, aN, aLt, bJ, aA, dS, aR, d1, c1, aH, aG]
  refine aG0 h1 0 (by simp; omega) fun w2 v2 h2 x2 => ?_
  refine ⟨x - (i + 1), by omega, i + 1, v2, rfl, rfl, by omega, ?_, x1.seq x2⟩
  rw [aLV, <- aNm] at h2
  exact h2
 .have d1 : decide ((i : Int) < (x : Int)) = false := by simp; omega
  obtain rfl : i = x := by omega
  unfold IM
  simp (disch := omega) only [aD, bX, aQ, aN, aLt, bJ, aA, dS, dV, aR, d1, aE]
  exact hK _ _ h1 x1
theorem aDg {w0 w : aNX} {p6 pf pc log st sym left x : Nat} {bv : aNY} {L : List Bool} {ps : List Int} {v : aNY} (h : RdS w p6 pf pc log st bv L ps v) (hl : ps.length <= 1000001) (hL : L.length <= 8000000) (hst : st <= L.length) (hx : aW w0 w eS) (hp : w0.heap.size <= p6) (hsym : sym <= 1000000)
 {kn : aNY -> aNY -> aNY -> aNY -> aNY -> aNX -> Prop} {RR : aNY -> aNX -> Prop}
 (hE : ∀ w', Sk L x st = none -> aW w0 w' eS -> RR (.tuple #[.agg #[.int .i64 0, .slice none 0 0], .int .i64 0, .int .i64 10]) w')
 (hB : ∀ k st2 w', Sk L x st = some (k, st2) -> sym < ps.length + k -> aW w0 w' eS -> RR (.tuple #[.agg #[.int .i64 0, .slice none 0 0], .int .i64 0, .int .i64 11]) w')
 (hK : ∀ k st2 w' v', Sk L x st = some (k, st2) -> ¬ sym < ps.length + k -> RdS w' p6 pf pc log st2 bv L (ps ++ List.replicate k 0) v' -> aW w0 w' eS -> kn (.int .i64 sym) (.pointer (some ⟨p6, 0, none⟩)) (.pointer (some ⟨pf, 0, none⟩)) (.pointer (some ⟨pc, 0, none⟩)) (.int .i64 left) w') :
 Bn kn RR (.int .i64 sym) (.pointer (some ⟨p6, 0, none⟩)) (.pointer (some ⟨pf, 0, none⟩)) (.pointer (some ⟨pc, 0, none⟩)) (.int .i64 left) (.int .i64 x) w := by
 have h6 := h.h6
 have hf := h.hf
 unfold Bn NS
 simp (disch := omega) only [aD, dV, aA]
 unfold OX NA Pg
 refine cR.rule (fun m (t : aNY) w' => ∃ (k0 st' : Nat) (bt : Bool) (v' : aNY), t = .bool bt /\ RdS w' p6 pf pc log st' bv L (ps ++ List.replicate k0 0) v' /\ aW w0 w' eS /\ st' <= L.length /\ k0 <= 3 * st' /\
  (bt = true -> Sk L x st = (match noR L m st' with | none => none | some (k, s) => some (k0 + k, s)) /\ L.length < 2 * m + st') /\ (bt = false -> Sk L x st = some (k0, st'))) (L.length + 1)
  ⟨0, st, _, v, rfl, by simpa using h, hx, hst, by omega, ?_, ?_⟩ ?_
 .intro hb
  have hx1 : x = 1 := by simp at hb; omega
  subst hx1
  refine ⟨?_, by omega⟩
  unfold Sk
  rw [if_pos rfl]
  cases noR L (L.length + 1) st with
  | none => rfl
  | some y => simp
 .intro hb
  have hx1 : x ≠ 1 := by
   intro h; subst h; simp at hb
  unfold Sk
  rw [if_neg hx1]
 rintro m t w1 ⟨k0, st', bt, v', rfl, h1, x1, hst', hk0, ht, hfa⟩
 unfold FG Nh
 cases bt with
 | false =>
   have hb := hfa rfl
   obtain ⟨av, cv, hv⟩ := h1.os.len
   have c1 := h1.oc.cell (off := 1)
   subst hv
   simp only [aLq, aLr, aLz, aMk] at c1
   have hlen : ((ps ++ List.replicate k0 0).length : Int) = ((ps.length + k0 : Nat) : Int) := by simp
   unfold IQ
   by_cases hgt : sym < ps.length + k0
   .have d1 : decide ((sym : Int) < ((ps.length + k0 : Nat) : Int)) = true := by simp only [decide_eq_true_eq]; omega
    simp (disch := omega) only [aD, aN, aLt, dI, aA, dS, c1, aH, gC, cX, d1, iT, bF, if_true, aG, cV, aE]
    exact anB (RR := RR) (e := 11) h1.o6 x1 hp fun w' h => hB _ _ _ hb hgt h
   .have d1 : decide ((sym : Int) < ((ps.length + k0 : Nat) : Int)) = false := by simp only [decide_eq_false_iff_not]; omega
    have d2 : decide ((left : Int) < 0) = false := by simp
    simp (disch := omega) only [aD, aN, aLt, dI, aA, dS, c1, aH, gC, cX, d1, cW, bF, aLu, if_false, bL, aR, d2, aE]
    exact hK _ _ _ _ hb hgt h1 x1
 | true =>
   obtain ⟨hb, hm⟩ := ht rfl
   obtain ⟨m, rfl⟩ : ∃ m', m = m' + 1 := ⟨m - 1, by omega⟩
   rw [aCH] at hb
   have lf := jJ (off := 0) h1.of (by simp)
   simp only [aLy, aLx, aLB] at lf
   unfold O1 WZ Nl
   simp (disch := omega) only [aD, lf, dI, aA, aG]
   refine (XW (n := 2) h1.bl (by omega) hst' (by omega)).mono ?_
   rintro r w2 ⟨⟨hsh, rfl⟩ | ⟨hsh, rfl⟩, x2⟩
   .have n1 : ((10 : Int) != 0) = true := rfl
    rw [if_pos (by omega)] at hb
    obtain ⟨bn, bc, hbv, _⟩ := Ff h1.bl
    simp (disch := omega) only [Yc, Yy, Yk, aA, cY]
    refine eZ (h1.ext x2).of rfl (by subst hbv; simp [one]) (by simp) fun w3 o3 x3 s3 => ?_
    simp (disch := omega) only [n1, aG]
    exact anB (RR := RR) (e := 10) ((h1.ext x2).o6.ext x3 (by omega)) ((x1.seq x2).new x3 (by omega)) hp fun w' h => hE _ hb h
   .have n1 : ((0 : Int) != 0) = false := rfl
    rw [if_neg (by omega)] at hb
    obtain ⟨bn, bc, hbv, _⟩ := Ff h1.bl
    have hlt := G7 L st' 2
    simp (disch := omega) only [Yc, Yy, Yk, aA, cY]
    refine eZ (h1.ext x2).of rfl (by subst hbv; simp [one]) (by simp) fun w3 o3 x3 s3 => ?_
    simp only [bM, aLw, aLv] at o3
    have h3 := (h1.ext x2).setF x3 o3
    have x03 : aW w0 w3 eS := (x1.seq x2).new x3 (by omega)
    have z03 := x03.size
    simp (disch := omega) only [n1, aE]
    refine aGJ h3 (by omega) (by simp; omega) fun w4 v4 h4 x4 => ?_
    have hpc := h3.hf
    have x04 : aW w0 w4 eS := x03.trans x4 fun b hb h => by omega
    rw [aLV, List.replicate_append_replicate] at h4
    refine ⟨m, by omega, k0 + qH L st' 2, st' + 2, _, v4, rfl, h4, x04, hsh, by omega, ?_, ?_⟩
    .intro hq
     have h3' : qH L st' 2 = 3 := by simp at hq; omega
     rw [if_neg (by omega)] at hb
     refine ⟨?_, by omega⟩
     rw [hb, h3']
     cases noR L m (st' + 2) with
     | none => rfl
     | some y =>
       obtain ⟨k, s⟩ := y
       simp; omega
    .intro hq
     have h3' : qH L st' 2 ≠ 3 := by
      intro h; rw [h] at hq; simp at hq
     rw [if_pos (by omega)] at hb
     exact hb
theorem aCb {log p6 pf pc sym : Nat} {w0 w : aNX} {bv v : aNY} {L : List Bool} {res : Except Int (List Int × Nat)} (hlp : w0.heap.size <= p6) (hl : L.length <= 8000000) (hsym : sym <= 1000000) (hlog : log <= 15)
 (h : RdS w p6 pf pc log 4 bv L [] v) (h4 : 4 <= L.length) (hx : aW w0 w eS)
 (hres : rdC L sym (L.length + 1) 4 (2 ^ log) [] = res)
 {RR : aNY -> aNX -> Prop} (hE : ∀ e w', res = .error e -> aW w0 w' eS -> RR (.tuple #[.agg #[.int .i64 0, .slice none 0 0], .int .i64 0, .int .i64 e]) w')
 (hO : ∀ ps st v w', res = .ok (ps, st) -> tE w' w0.heap.size 1 v ps.length (ps.map (Value.int .i64)) -> aW w0 w' eS -> RR (.tuple #[.agg #[.int .i64 log, v], .int .i64 (((st + 7) / 8 : Nat)), .int .i64 0]) w') :
 Fa RR (.int .i64 sym) (.pointer (some ⟨p6, 0, none⟩)) (.pointer (some ⟨pf, 0, none⟩)) (.pointer (some ⟨pc, 0, none⟩)) (.int .i64 (2 ^ log : Nat)) w := by
 have hp15 : 2 ^ log <= 2 ^ 15 := aLC (by omega) hlog
 have h6 := h.h6
 have hf := h.hf
 unfold Fa Oz PJ
 refine cR.rule (fun m (t : aNY) w' => ∃ (st left : Nat) (ps : List Int) (v : aNY), t = .int .i64 left /\ rdC L sym m st left ps = res /\ L.length < m + st /\ st <= L.length /\ left <= 32768 /\ ps.length <= 1000000 /\
  RdS w' p6 pf pc log st bv L ps v /\ aW w0 w' eS) (L.length + 1)
  ⟨4, 2 ^ log, [], v, rfl, hres, by omega, h4, by omega, by simp, h, hx⟩ ?_
 rintro m t w1 ⟨st, left, ps, v, rfl, hr, hm, hst, hleft, hpl, h1, x1⟩
 have hx0 := x1.size
 obtain ⟨m, rfl⟩ : ∃ m', m = m' + 1 := ⟨m - 1, by omega⟩
 obtain ⟨bn, bc, hbv, _⟩ := Ff h1.bl
 unfold Fw PL
 by_cases h0 : left = 0
 .have d1 : decide ((0 : Int) < (left : Int)) = false := by simp; omega
  rw [awY, if_pos h0] at hr
  obtain ⟨av, cv, hv⟩ := h1.os.len
  subst hv hbv
  have lc := qA (off := 0) (kB h1.oc) (by simp)
  have lc' := qA (off := 0) h1.oc (by simp)
  have lf := jJ (off := 0) (kB h1.of) (by simp)
  have lf' := jJ (off := 0) h1.of (by simp)
  simp only [aLy, aLx, aLB] at lc lc' lf lf'
  unfold IJ
  simp (disch := omega) only [aD, cX, d1, jH, and_true, true_and, aA, lc, lf, aE]
  refine (aGg (by omega)).mono ?_
  rintro r w2 ⟨rfl, x2⟩
  have x12 : aW w1 w2 eS := (aW.dr w1 eS).seq x2
  have h2 := h1.ext x12
  have lc2 := qA (off := 0) h2.oc (by simp)
  simp only [aLy, aLx, aLB] at lc2
  simp (disch := omega) only [lc2, true_and]
  refine sG h2.o6 rfl (by simp [one]) (by simp) fun w6 o6 x6 s6 => ?_
  refine Hq o6 (by simp [bM]) ?_
  simp only [bM, aLw, aLv, aLy, aLx, aLB]
  have ov6 := h2.os.ext x6 (fun b hb h => by omega)
  refine hO ps st _ w6 hr.symm ⟨ov6.1, ?_⟩ ((x1.seq x12).new x6 (by omega))
  rcases ov6.2 with h | ⟨b, c, rest, q1, q2, q3⟩
  .exact .inl h
  .exact .inr ⟨b, c, rest, q1, by omega, q3⟩
 .have d1 : decide ((0 : Int) < (left : Int)) = true := by simp; omega
  rw [aIP h0] at hr
  have lf := jJ (off := 0) h1.of (by simp)
  simp only [aLy, aLx, aLB] at lf
  unfold O7 Xb OR
  simp (disch := omega) only [aD, cX, d1, dI, aA, aN, aLt, fF, aQ, dS, lf, aG]
  refine (aF2 h1.bl hst (by omega) (by omega) hleft).mono ?_
  rintro r w2 ⟨hv2, x2⟩
  have h2 := h1.ext x2
  cases hval : ajU L st left with
  | none =>
    rw [hval] at hr hv2
    obtain ⟨st', rfl⟩ := hv2
    have n1 : ((10 : Int) != 0) = true := rfl
    simp (disch := omega) only [Yc, Yy, Yk, aA, cY, fF, aQ, dV]
    refine eZ h2.of rfl (by subst hbv; simp [one]) (by simp) fun w3 o3 x3 s3 => ?_
    simp (disch := omega) only [n1, aG]
    exact anB (RR := RR) (e := 10) (h2.o6.ext x3 (by omega)) ((x1.seq x2).new x3 (by omega)) hlp fun w' h => hE _ _ hr.symm h
  | some y =>
    obtain ⟨x, st1⟩ := y
    rw [hval] at hr hv2
    simp only at hr
    obtain rfl := hv2
    obtain ⟨b1, b2, b3⟩ := awB hval (by omega)
    have n1 : ((0 : Int) != 0) = false := rfl
    simp (disch := omega) only [Yc, Yy, Yk, aA, cY, fF, aQ, dV]
    refine eZ h2.of rfl (by subst hbv; simp [one]) (by simp) fun w3 o3 x3 s3 => ?_
    simp only [bM, aLw, aLv] at o3
    have h3 := h2.setF x3 o3
    have x03 : aW w0 w3 eS := (x1.seq x2).new x3 (by omega)
    have c3 := h3.oc.cell (off := 1)
    simp only [aLq, aLr] at c3
    simp (disch := omega) only [n1, c3, aH, aA, aE]
    refine aG0 h3 ((x : Int) - 1) (by omega) fun w4 v4 h4 x4 => ?_
    have z03 := x03.size
    have hpc := h3.hf
    have x04 : aW w0 w4 eS := x03.trans x4 fun b hb h => by omega
    have hpn := sU (p := (x : Int) - 1) (by omega)
    have hfin : ∀ (left' : Nat), left' = left - (iU ((x : Int) - 1)).toNat -> Bn (fun _ _ _ _ aX w'' => ∃ m', m' < m + 1 /\ ∃ (st left : Nat) (ps : List Int) (v : aNY), aX = .int .i64 left /\ rdC L sym m' st left ps = res /\ L.length < m' + st /\ st <= L.length /\ left <= 32768 /\ ps.length <= 1000000 /\
        RdS w'' p6 pf pc log st bv L ps v /\ aW w0 w'' eS) RR (.int .i64 sym) (.pointer (some ⟨p6, 0, none⟩)) (.pointer (some ⟨pf, 0, none⟩)) (.pointer (some ⟨pc, 0, none⟩)) (.int .i64 left') (.int .i64 x) w4 := by
     intro left' hl'
     have hlen1 : (ps ++ [(x : Int) - 1]).length = ps.length + 1 := by simp
     refine aDg (left := left') h4 (by omega) hl b2 x04 hlp hsym ?_ ?_ ?_
     .intro w' hbe hx
      rw [hbe] at hr
      exact hE _ _ hr.symm hx
     .intro k st2 w' hbe hgt hx
      rw [hbe] at hr
      simp only at hr
      rw [if_pos (by omega)] at hr
      exact hE _ _ hr.symm hx
     .intro k st2 w' v' hbe hgt h5 hx
      rw [hbe] at hr
      simp only at hr
      rw [if_neg (by omega), <- hl'] at hr
      have hb2 : st1 <= st2 /\ st2 <= L.length := by
       unfold Sk at hbe
       split at hbe
       .obtain ⟨q1, q2, _⟩ := aBr hbe; omega
       .obtain ⟨rfl, rfl⟩ := aNe (aLT hbe); omega
      rw [aLV, List.singleton_append] at h5
      exact ⟨m, by omega, st2, left', _, v', rfl, hr, by omega, hb2.2, by omega, by simp; omega, h5, hx⟩
    by_cases hx0 : x = 0
    .subst hx0
     have n2 : (((0 : Nat) : Int) == 0) = true := rfl
     have e1 : (left : Int) - 1 = ((left - 1 : Nat) : Int) := by omega
     simp (disch := omega) only [n2, e1, aG]
     exact hfin _ rfl
    .have n2 : ((x : Int) == 0) = false := beq_eq_false_iff_ne.2 (by omega)
     have e0 : (x : Int) - 1 = ((x - 1 : Nat) : Int) := by omega
     have e1 : (left : Int) - ((x : Int) - 1) = ((left - (x - 1) : Nat) : Int) := by omega
     simp (disch := omega) only [n2, e1, aE]
     refine hfin _ ?_
     unfold iU
     rw [if_neg (by omega), e0, aLs]
theorem aDW {s : ByteArray} {most : Int} {sym : Nat} {w : aNX} (hl : s.size <= 1000000) (hsym : sym <= 1000000) :
 aS pg Mq #[.string s, .int .i64 most, .int .i64 sym] w (fun r w' => afP w' w.heap.size (CT (aZ (fU s)) most sym) r /\ aW w w' eS) := by
 refine avN ?_
 obtain ⟨RR, hRR⟩ : ∃ RR : aNY -> aNX -> Prop, RR = fun r w' => afP w' w.heap.size (CT (aZ (fU s)) most sym) r /\ aW w w' eS := ⟨_, rfl⟩
 rw [<- hRR]
 have hll := eU s
 have hbl := lZ (fU s)
 unfold axL MW NW
 refine wO fun w1 o1 x1 s1 => ?_
 refine (axP hl).mono ?_
 rintro r w2 ⟨ob2, x2⟩
 have hbl2 : Bl w2 r (aZ (fU s)) := ob2.sl
 have hat := tE.atI ob2
 obtain ⟨bn, bc, rfl, _⟩ := Ff hbl2
 have z1 := x1.size
 have z2 := x2.size
 simp (disch := omega) only [aD, fC, dI, aA]
 refine BH fun w3 o3 x3 s3 => ?_
 refine eZ o3 rfl (by simp [one]) (by simp) fun w4 o4 x4 s4 => ?_
 simp only [bM, aLw, aLv] at o4
 have z3 := x3.size
 have z4 := x4.size
 have x24 : aW w2 w4 eS := x3.new x4 (by omega)
 have lf := jJ (off := 0) o4 (by simp)
 simp only [aLy, aLx, aLB] at lf
 have hbl4 := hbl2.ext x24 (bY _)
 have e0 : (0 : Int) = ((0 : Nat) : Int) := rfl
 rw [e0] at lf
 simp (disch := omega) only [lf, aA]
 refine (XW (st := 0) (n := 4) hbl4 (by omega) (by omega) (by omega)).mono ?_
 rintro r w5 ⟨⟨hsh, rfl⟩ | ⟨hsh, rfl⟩, x5⟩
 .have n1 : ((10 : Int) != 0) = true := rfl
  have hrl : CT (aZ (fU s)) most sym = .error 10 := by unfold CT; rw [if_pos (by omega)]
  rw [hrl] at hRR
  simp (disch := omega) only [Yc, Yy, Yk, aA, cY, bX, aQ, bJ, eH]
  refine eZ (o4.ext x5 (fun h => h)) rfl (by simp [one]) (by simp) fun w6 o6 x6 s6 => ?_
  simp (disch := omega) only [n1, aG]
  exact anB (RR := RR) (e := 10) ((((o1.ext x2 (fun h => h)).ext x24 (fun h => h)).ext x5 (fun h => h)).ext x6 (by omega)) ((((x1.seq x2).seq x24).seq x5).new x6 (by omega)) (aLF _) fun w' h => by rw [hRR]; exact ⟨rfl, h⟩
 .have n1 : ((0 : Int) != 0) = false := rfl
  have hlt := G7 (aZ (fU s)) 0 4
  have hrl : CT (aZ (fU s)) most sym = (if most < ((qH (aZ (fU s)) 0 4 + 5 : Nat) : Int) ∨ 15 < qH (aZ (fU s)) 0 4 + 5 then .error 12 else match rdC (aZ (fU s)) sym ((aZ (fU s)).length + 1) 4 (2 ^ (qH (aZ (fU s)) 0 4 + 5)) [] with
   | .error e => .error e
   | .ok (ps, st) => .ok (qH (aZ (fU s)) 0 4 + 5, ps, (st + 7) / 8)) := by unfold CT; rw [if_neg (by omega)] <;> rfl
  rw [hrl] at hRR
  generalize qH (aZ (fU s)) 0 4 = x at *
  have e1 : (x : Int) + 5 = ((x + 5 : Nat) : Int) := by omega
  have z5 := x5.size
  simp (disch := omega) only [aLt, Yc, Yy, Yk, aA, cY, bX, aQ, bJ, eH]
  refine eZ (o4.ext x5 (fun h => h)) rfl (by simp [one]) (by simp) fun w6 o6 x6 s6 => ?_
  simp only [bM, aLw, aLv] at o6
  have z6 := x6.size
  have x06 : aW w w6 eS := (((x1.seq x2).seq x24).seq x5).new x6 (by omega)
  have o16 := ((((o1.ext x2 (fun h => h)).ext x24 (fun h => h)).ext x5 (fun h => h)).ext x6 (by omega))
  have hbl6 : Bl w6 _ _ := (hbl4.ext x5 (bY _)).ext x6 (hat _ fun b hb hh => by omega)
  simp (disch := omega) only [n1, e1, aE]
  refine wO fun w7 o7 x7 s7 => ?_
  refine sG o7 rfl (by simp [one]) (by simp) fun w8 o8 x8 s8 => ?_
  simp only [bM, aLw, aLv] at o8
  have x68 : aW w6 w8 eS := x7.new x8 (by omega)
  have x08 : aW w w8 eS := x06.seq x68
  have o18 := o16.ext x68 (fun h => h)
  have c8 := o8.cell (off := 0)
  simp only [aLq, aLr] at c8
  by_cases hmo : most < ((x + 5 : Nat) : Int)
  .have d1 : decide (most < ((x + 5 : Nat) : Int)) = true := by simpa using hmo
   rw [if_pos (.inl hmo)] at hRR
   simp (disch := omega) only [bB, aA, bO, c8, aH, cX, d1, iT, bF, if_true, aG, cV]
   exact anB (RR := RR) (e := 12) o18 x08 (aLF _) fun w' h => by rw [hRR]; exact ⟨rfl, h⟩
  have d1 : decide (most < ((x + 5 : Nat) : Int)) = false := by simpa using hmo
  by_cases h15 : 15 < x + 5
  .have d2 : decide ((15 : Int) < ((x + 5 : Nat) : Int)) = true := by simp; omega
   rw [if_pos (.inr h15)] at hRR
   simp (disch := omega) only [bB, aA, bO, c8, aH, cX, d1, cW, bF, aLu, if_false, bL, d2, aG]
   exact anB (RR := RR) (e := 12) o18 x08 (aLF _) fun w' h => by rw [hRR]; exact ⟨rfl, h⟩
  have d2 : decide ((15 : Int) < ((x + 5 : Nat) : Int)) = false := by simp; omega
  rw [if_neg (by omega)] at hRR
  simp (disch := omega) only [bB, aA, bO, c8, aH, cX, d1, cW, bF, aLu, if_false, bL, d2, aE]
  refine (IG (x + 5) (by omega) _).mono ?_
  rintro r w9 ⟨rfl, rfl⟩
  have hpow : ((2 ^ (x + 5) : Nat) : Int) = (2 : Int) ^ (x + 5) := by simp
  rw [<- hpow]
  have hS : RdS w9 w.heap.size w2.heap.size w6.heap.size (x + 5) 4 (.slice bn (aZ (fU s)).length bc) (aZ (fU s)) [] (.slice none 0 0) :=
   ⟨o18, o6.ext x68 (fun h => h), o8, tE.nil _ _ _, hbl6.ext x68 (bY _), fun M hM => hat M fun b _ hb => hM b (by omega) (by omega), by omega, by omega⟩
  refine aCb (w0 := w) (res := rdC (aZ (fU s)) sym ((aZ (fU s)).length + 1) 4 (2 ^ (x + 5)) []) (aLF _) (by omega) hsym (by omega) hS (by omega) x08 rfl ?_ ?_
  .intro e w' he hx
   rw [hRR, he]
   exact ⟨rfl, hx⟩
  .intro ps st v w' he ho hx
   rw [hRR, he]
   exact ⟨⟨v, rfl, ho⟩, hx⟩
end Go.Proofs.YtgpimhlgaokobaaGreat
namespace Go.Pu
open Go Go.En
theorem azN {L : List Bool} {most : Int} {sym log used : Nat} {ps : List Int} (h : CT L most sym = .ok (log, ps, used)) : (ps.length <= 256 -> May log ps) /\ (log : Int) <= most /\ ps.length <= sym := by
 unfold CT at h
 split at h
 .cases h
 .simp only at h
  split at h
  .cases h
  .rename_i h1 h2
   have hpow : ((2 ^ (qH L 0 4 + 5) : Nat) : Int) = (2 : Int) ^ (qH L 0 4 + 5) := by simp
   have hp := aLW (qH L 0 4 + 5)
   cases hr : rdC L sym (L.length + 1) 4 (2 ^ (qH L 0 4 + 5)) [] with
   | error e => rw [hr] at h; cases h
   | ok x =>
     obtain ⟨p, st⟩ := x
     rw [hr] at h
     cases h
     have e0 : F0 [] = 0 := rfl
     obtain ⟨q1, q2, q3, q4, q5⟩ := anM (tot := (2 : Int) ^ (qH L 0 4 + 5)) hr (by simp) (by rw [e0, hpow]; omega) (fun h => by omega)
     exact ⟨fun hs => ⟨by omega, by omega, q5, hs, q4, q1, q2⟩, by omega, q3⟩
theorem aCh {L : List Bool} {sym : Nat} {e : Int} : ∀ {f st left : Nat} {ps : List Int}, rdC L sym f st left ps = .error e -> e = 10 ∨ e = 11
 | 0, st, left, ps, h => by cases h; exact .inl rfl
 | f + 1, st, left, ps, h => by
   rw [rdC] at h
   split at h
   .cases h
   .split at h
    .cases h; exact .inl rfl
    .split at h
     .split at h
      .cases h; exact .inl rfl
      .split at h
       .cases h; exact .inr rfl
       .exact aCh h
     .split at h
      .cases h; exact .inr rfl
      .exact aCh h
theorem aoX {L : List Bool} {most : Int} {sym : Nat} {e : Int} (h : CT L most sym = .error e) : e ≠ 0 := by
 unfold CT at h
 split at h
 .cases h; decide
 .simp only at h
  split at h
  .cases h; decide
  .split at h
   .rename_i hr
    cases h
    rcases aCh hr with h | h <;> omega
   .cases h
theorem awQ {L : List Bool} {sym : Nat} {out : List Int} {stE : Nat} : ∀ {f st left : Nat} {ps : List Int}, rdC L sym f st left ps = .ok (out, stE) -> st <= L.length -> stE <= L.length
 | 0, st, left, ps, h, _ => by cases h
 | f + 1, st, left, ps, h, hst => by
   rw [rdC] at h
   split at h
   .cases h; exact hst
   .rename_i h0
    cases hv : ajU L st left with
    | none => rw [hv] at h; cases h
    | some x =>
      obtain ⟨v, st1⟩ := x
      obtain ⟨v1, v2, v3⟩ := awB hv (by omega)
      rw [hv] at h
      simp only at h
      split at h
      .cases hn : noR L (L.length + 1) st1 with
       | none => rw [hn] at h; cases h
       | some y =>
         obtain ⟨k, st2⟩ := y
         rw [hn] at h
         simp only at h
         split at h
         .cases h
         .exact awQ h (aBr hn).2.1
      .split at h
       .cases h
       .exact awQ h v2
theorem azA {L : List Bool} {most : Int} {sym log used : Nat} {ps : List Int} (h : CT L most sym = .ok (log, ps, used)) : 8 * used <= L.length + 7 := by
 unfold CT at h
 split at h
 .cases h
 .simp only at h
  split at h
  .cases h
  .cases hr : rdC L sym (L.length + 1) 4 (2 ^ (qH L 0 4 + 5)) [] with
   | error e => rw [hr] at h; cases h
   | ok x =>
     obtain ⟨p, st⟩ := x
     rw [hr] at h
     cases h
     have := awQ hr (by omega)
     omega
def Wb (b : List Nat) (i : Nat) : Nat := if i % 2 = 0 then b.getD (i / 2) 0 / 16 else b.getD (i / 2) 0 % 16
def mW (b : List Nat) (n : Nat) : List Nat := (List.range n).map (Wb b)
theorem BV (b : List Nat) (n : Nat) : (mW b n).length = n := by simp [mW]
theorem aiT (b : List Nat) (n : Nat) : mW b (n + 1) = mW b n ++ [Wb b n] := by
 unfold mW; rw [aNI, aLS] <;> rfl
theorem aCt {b : List Nat} (h : ∀ x ∈ b, x < 256) (i : Nat) : Wb b i < 16 := by
 unfold Wb
 have : b.getD (i / 2) 0 < 256 := by
  rcases aLO (i / 2) b.length with hi | hi
  .exact h _ (tX hi)
  .rw [aLE, aLH hi]; decide
 split <;> omega
theorem acT {b : List Nat} (h : ∀ x ∈ b, x < 256) (n : Nat) : ∀ x ∈ mW b n, x < 16 := fun x hx => by
 obtain ⟨i, _, rfl⟩ := aMD.1 hx
 exact aCt h i
def CA (m : List Nat) : List Nat := (List.range ((m.length + 1) / 2)).map fun j => m.getD (2 * j) 0 * 16 + m.getD (2 * j + 1) 0
theorem Cm (m : List Nat) : (CA m).length = (m.length + 1) / 2 := by simp [CA]
theorem anN {m : List Nat} {j : Nat} (h : j < (m.length + 1) / 2) : (CA m).getD j 0 = m.getD (2 * j) 0 * 16 + m.getD (2 * j + 1) 0 := by
 rw [aLE]
 unfold CA
 rw [aLZ, aMv h] <;> rfl
theorem akJ {m : List Nat} (h : ∀ x ∈ m, x < 16) (i : Nat) : m.getD i 0 < 16 := by
 rcases aLO i m.length with hi | hi
 .exact h _ (tX hi)
 .rw [aLE, aLH hi]; decide
theorem aCY {m : List Nat} (h : ∀ x ∈ m, x < 16) : mW (CA m) m.length = m := by
 apply aMC
 intro i
 rcases aLO i m.length with hi | hi
 .unfold mW
  rw [aLZ, aMv hi]
  have hp := anN (m := m) (j := i / 2) (by omega)
  have e : m[i]? = some (m.getD i 0) := by rw [aLE, aLA hi] <;> rfl
  rw [e]
  simp only [aMh, Option.some.injEq]
  unfold Wb
  rw [hp]
  have h1 := akJ h (2 * (i / 2))
  have h2 := akJ h (2 * (i / 2) + 1)
  split
  .rw [show 2 * (i / 2) = i from by omega] at *; omega
  .rw [show 2 * (i / 2) + 1 = i from by omega] at *; omega
 .rw [aLH (by rw [BV]; exact hi), aLH hi]
theorem azT {m : List Nat} {k d : Nat} (h : jF (m ++ [k]) = d) (hd : d ≠ 0) : tP m = some k := by
 obtain ⟨h1, h2, h3, h4, h5, h6⟩ := yM h hd
 rw [aNB] at h5
 have hk0 : k ≠ 0 := fun e => h5 (by rw [e])
 have hkd : k <= d := h1 k (by simp)
 rw [CP, pC] at h6
 have e0 : dU [] = 0 := rfl
 have ek : G2 k = 2 ^ (k - 1) := by unfold G2; rw [if_neg hk0]
 rw [e0, ek] at h6
 have hp : 2 ^ (k - 1) <= 2 ^ (d - 1) := aLC (by omega) (by omega)
 obtain ⟨e, rfl⟩ : ∃ e, d = e + 1 := ⟨d - 1, by omega⟩
 rw [aMt] at hp
 have hpe : 2 ^ (e + 1) = 2 ^ e + 2 ^ e := by rw [aL6]; omega
 have hpk := aLW (k - 1)
 have hpe0 := aLW e
 have hbl : bl (dU m) = e + 1 := aH0 (by omega) (by omega)
 have hleft : 2 ^ (e + 1) - dU m = 2 ^ (k - 1) := by omega
 unfold tP
 rw [hbl, hleft, aNA, if_pos]
 .congr 1; omega
 .simp at h3 h4
  exact ⟨rS.2 fun w hw => aMy (h1 w (aMG _ hw)) h2, by omega, by omega, by omega, h2, rfl⟩
end Go.Pu
namespace Go.Proofs.YtgpimhlgaokobaaGreat
open Go Go.En Go.Pu
set_option maxRecDepth 4000
abbrev nX (m : List Nat) : List UInt8 := m.map UInt8.ofNat
theorem X5 {m : List Nat} (h : ∀ x ∈ m, x < 256) : cF (nX m) = m := by
 unfold cF nX
 rw [aNV]
 conv => rhs; rw [<- List.map_id m]
 apply aL7
 intro x hx
 show (UInt8.ofNat x).toNat = x
 exact aMQ (h x hx)
theorem awS {x : Nat} (h : x < 256) : tJ (UInt8.ofNat x) = .int .u8 (x : Nat) := by
 unfold tJ; rw [aMQ h]
theorem aAW (l : List UInt8) : nX (cF l) = l := by
 unfold nX cF
 rw [aNV]
 conv => rhs; rw [<- List.map_id l]
 apply aL7
 intro x _
 show UInt8.ofNat x.toNat = x
 simp
theorem aKq {x : Nat} (h : x < 256) : VE .u8 (x : Int) 15 = ((x % 16 : Nat) : Int) := by
 have : ∀ k : Fin 256, VE .u8 (k.val : Int) 15 = ((k.val % 16 : Nat) : Int) := by decide +kernel
 exact this ⟨x, h⟩
theorem asH {base i c : Nat} {bv t15 t16 v' : aNY} {cells : List aNY} {w : aNX} (o : tE w base 1 v' i cells) (hb : base <= w.heap.size) (hi : i <= 100000) (hc : c < 256) {kn : aNY -> aNY -> aNY -> aNY -> aNX -> Prop}
 (hK : ∀ v2 w2, tE w2 base 1 v2 (i + 1) (cells ++ [.int .u8 (c % 16 : Nat)]) -> aW w w2 (fun y => base <= y) -> kn bv v2 t15 t16 w2) : wL kn bv v' (.int .u8 c) t15 t16 w := by
 unfold wL
 have e6 := aKq (x := c) hc
 obtain ⟨av, cv, rfl⟩ := o.len
 simp (disch := omega) only [aD, xK, e6, aA]
 refine pD (cells := #[.int .u8 (c % 16 : Nat)]) (by decide) (by decide) (by kernel_rfl) fun w5 o5 x5 s5 => ?_
 have z5 := x5.size
 refine mJ (m := 1) (news := [.int .u8 (c % 16 : Nat)]) (o.ext x5 (fun _ _ h => h)) (o5.cl (off := 0) (l := [.int .u8 (c % 16 : Nat)]) (n := 1) rfl (fun i hi => by rw [aLt])) (by simp [one]) (by omega) (by omega) fun v6 w6 o6 x6 => ?_
 exact hK v6 w6 o6 ((x5.mono fun _ _ h => h.elim).seq x6)
theorem aHU {v : aNY} {l : List UInt8} {n : Nat} {w : aNX} (h : Bs w v l) (hl : l.length <= 100000) (hn : n <= 100000) :
 aS pg Cf #[v, .int .i64 n] w (fun r w' => ((l.length < (n + 1) / 2 /\ r = .tuple #[.slice none 0 0, .int .i64 10]) ∨
  ((n + 1) / 2 <= l.length /\ ∃ v', r = .tuple #[v', .int .i64 0] /\ tE w' w.heap.size 1 v' n ((nX (mW (cF l) n)).map tJ))) /\ aW w w' eS) := by
 refine Yp ?_
 obtain ⟨a, n', c, rfl, hn', hc, hh⟩ := id h
 rw [aLD] at hn'
 subst hn'
 have e1 : (n : Int) + 1 = ((n + 1 : Nat) : Int) := by omega
 have e2 : ((n + 1 : Nat) : Int).tdiv 2 = (((n + 1) / 2 : Nat) : Int) := by rw [aLK (by omega)]; omega
 unfold VX DR Ec
 by_cases hsh : l.length < (n + 1) / 2
 .have d1 : decide ((l.length : Int) < (((n + 1) / 2 : Nat) : Int)) = true := by simp only [decide_eq_true_eq]; omega
  simp (disch := omega) only [aD, aP, bJ, e1, aQ, and_true, aA, oY, e2, aR, d1, aG]
  exact ⟨.inl hsh, aW.refl _ _⟩
 have d1 : decide ((l.length : Int) < (((n + 1) / 2 : Nat) : Int)) = false := by simp only [decide_eq_false_iff_not]; omega
 simp (disch := omega) only [aD, aP, bJ, e1, aQ, and_true, aA, oY, e2, aR, d1, aE]
 unfold DX Ej Em Eb DY
 refine cR.rule (fun m (t : aNY × aNY) w' => ∃ (i : Nat) (v' : aNY), m = n - i /\ t = (v', .int .i64 i) /\ i <= n /\ tE w' w.heap.size 1 v' i ((nX (mW (cF l) i)).map tJ) /\ aW w w' eS) n
  ⟨0, _, rfl, rfl, by omega, tE.nil _ _ _, aW.refl _ _⟩ ?_
 rintro m t w1 ⟨i, v', rfl, rfl, hi, o1, x1⟩
 unfold A1 F1
 by_cases hlt : i < n
 .have d2 : decide ((i : Int) < (n : Int)) = true := by simp; omega
  obtain ⟨b, off, rfl, hcell⟩ := slA (h.ext x1 (bY _)) (by omega)
  have e3 : (i : Int).tdiv 2 = ((i / 2 : Nat) : Int) := by rw [aLK (by omega)]; omega
  have e4 : (i : Int).tmod 2 = ((i % 2 : Nat) : Int) := by rw [aLU (by omega)]; omega
  have hi2 : i / 2 < l.length := by omega
  have g1 := hcell (i / 2) hi2
  rw [aLZ, aLA hi2] at g1
  simp only [aMh, tJ] at g1
  have hgd := aDA hi2
  have hs := aiT (cF l) i
  have hf : Wb (cF l) i = if i % 2 = 0 then (cF l).getD (i / 2) 0 / 16 else (cF l).getD (i / 2) 0 % 16 := rfl
  rw [hgd] at hf
  have hx : (l[i / 2]).toNat < 256 := aL9 _
  have hf16 := aCt (Qn l) i
  generalize (l[i / 2]).toNat = x at *
  generalize Wb (cF l) i = y at *
  have z1 := x1.size
  have hy : tJ (UInt8.ofNat y) = .int .u8 (y : Nat) := awS (by omega)
  have hcells : ∀ c : Nat, c % 16 = y -> ((nX (mW (cF l) i)).map tJ ++ [.int .u8 (c % 16 : Nat)]) = (nX (mW (cF l) (i + 1))).map tJ := fun c hc => by
   rw [hs, hc]
   simp only [nX, aLS, aME, aNM, hy]
  unfold EY GA Qk FB
  by_cases hev : i % 2 = 0
  .have n2 : (((i % 2 : Nat) : Int) == 0) = true := by rw [hev] <;> rfl
   rw [if_pos hev] at hf
   have e5 : (x : Int).fdiv (2 ^ (min 4 IntKind.u8.bits)) = ((x / 16 : Nat) : Int) := by
    rw [show min 4 IntKind.u8.bits = 4 from rfl, aM2 _ (by omega)]; omega
   have t4 : (4 : Int).toNat = 4 := rfl
   simp (disch := omega) only [aD, aR, d2, oY, e3, aQ, rL, e4, aA, dV, n2, aG, dO, aLs, iJ, g1, aH, sT, t4, e5]
   refine asH (c := x / 16) o1 (by omega) (by omega) (by omega) fun v2 w2 o2 x2 => ?_
   rw [hcells _ (by omega)] at o2
   unfold wF
   simp (disch := omega) only [aD, bJ, aQ, aA]
   exact ⟨n - (i + 1), by omega, i + 1, _, rfl, rfl, by omega, o2, x1.trans x2 fun b hb h => by omega⟩
  .have n2 : (((i % 2 : Nat) : Int) == 0) = false := beq_eq_false_iff_ne.2 (by omega)
   rw [if_neg hev] at hf
   simp (disch := omega) only [aD, aR, d2, oY, e3, aQ, rL, e4, aA, dV, n2, aE, dO, aLs, iJ, g1, aH, aG]
   refine asH (c := x) o1 (by omega) (by omega) (by omega) fun v2 w2 o2 x2 => ?_
   rw [hcells _ (by omega)] at o2
   unfold wF
   simp (disch := omega) only [aD, bJ, aQ, aA]
   exact ⟨n - (i + 1), by omega, i + 1, _, rfl, rfl, by omega, o2, x1.trans x2 fun b hb h => by omega⟩
 .have d2 : decide ((i : Int) < (n : Int)) = false := by simp; omega
  obtain rfl : i = n := by omega
  unfold Ba
  simp (disch := omega) only [aD, aR, d2, aA, aE]
  exact ⟨.inr ⟨by omega, v', rfl, o1⟩, x1⟩
def MZ (w : aNX) (base : Nat) (h : Nat) (rest : List UInt8) (r : aNY) : Prop :=
 if rest.length < (h - 127 + 1) / 2 then r = .tuple #[.slice none 0 0, .int .i64 0, .int .i64 10]
 else match tP (mW (cF rest) (h - 127)) with
  | none => r = .tuple #[.slice none 0 0, .int .i64 0, .int .i64 11]
  | some k => ∃ v, r = .tuple #[v, .int .i64 (1 + (h - 127 + 1) / 2 : Nat), .int .i64 0] /\ tE w base 1 v (h - 127 + 1) ((nX (mW (cF rest) (h - 127)) ++ [UInt8.ofNat k]).map tJ)
theorem aBL {v : aNY} {h : Nat} {rest : List UInt8} {l : List UInt8} {w : aNX} (hb : Bs w v l) (hle : l = UInt8.ofNat h :: rest) (hh : 128 <= h) (hh2 : h < 256) (hl : rest.length <= 10000) :
 aS pg BJ #[v] w (fun r w' => MZ w' w.heap.size h rest r /\ aW w w' eS) := by
 refine FQ ?_
 obtain ⟨RR, hRR⟩ : ∃ RR : aNY -> aNX -> Prop, RR = fun r w' => MZ w' w.heap.size h rest r /\ aW w w' eS := ⟨_, rfl⟩
 rw [<- hRR]
 have key : ∀ r w', MZ w' w.heap.size h rest r -> aW w w' eS -> RR r w' := fun r w' h1 h2 => by rw [hRR]; exact ⟨h1, h2⟩
 have hll : l.length = rest.length + 1 := by rw [hle] <;> rfl
 obtain ⟨b, off, c, rfl, hc, hcell⟩ := O9 hb (by omega)
 have g0 := hcell 0 (by omega)
 have hl0 : (l[0]'(by omega)).toNat = h := by
  subst hle
  exact aMQ hh2
 rw [hl0] at g0
 have hsub := hb.drop' (k := 1) (by omega)
 rw [<- aNc] at hsub
 have hdr : l.drop 1 = rest := by rw [hle] <;> rfl
 rw [hdr, hll] at hsub
 have n0 : ((l.length : Int) == 0) = false := beq_eq_false_iff_ne.2 (by omega)
 have d1 : decide ((128 : Int) <= (h : Int)) = true := by simp; omega
 have e1 : (h : Int) - 128 = ((h - 128 : Nat) : Int) := by omega
 have e2 : ((h - 128 : Nat) : Int) + 2 = ((h - 126 : Nat) : Int) := by omega
 have e3 : ((h - 126 : Nat) : Int).tdiv 2 = (((h - 127 + 1) / 2 : Nat) : Int) := by rw [aLK (by omega)]; omega
 have e4 : ((h - 128 : Nat) : Int) + 1 = ((h - 127 : Nat) : Int) := by omega
 have t0 : (0 : Int).toNat = 0 := rfl
 have t1 : (1 : Int).toNat = 1 := rfl
 unfold Mw Aj Ap
 simp (disch := omega) only [aD, aP, dO, t0, eF, t1, aA, iJ, dV, n0, g0, aH, dT, aQ, nJ, d1, fF, e1, bJ, e4, e2, oY, e3, aR, aG, aE]
 rw [hll]
 refine (aHU hsub (by omega) (by omega)).mono ?_
 rintro r w1 ⟨⟨hsh, rfl⟩ | ⟨hsh, v1, rfl, o1⟩, x1⟩
 .have n1 : ((10 : Int) != 0) = true := rfl
  unfold qI
  simp (disch := omega) only [pT, pS, aD, bJ, aQ, aA, cY, n1, aG]
  refine key _ _ ?_ x1
  unfold MZ
  rw [if_pos hsh]
 .have n1 : ((0 : Int) != 0) = false := rfl
  have hlt : ∀ x ∈ mW (cF rest) (h - 127), x < 256 := fun x hx => by have := acT (Qn rest) _ x hx; omega
  have hbs : Bs w1 v1 (nX (mW (cF rest) (h - 127))) := o1.sl
  have z1 := x1.size
  obtain ⟨av, cv, rfl⟩ := o1.len
  unfold qI
  simp (disch := omega) only [pT, pS, aD, bJ, aQ, aA, cY, n1, aE]
  refine (aE5 hbs (by simp [BV]; omega)).mono ?_
  rintro r w2 ⟨hwo, x2⟩
  rw [X5 hlt] at hwo
  cases hw : tP (mW (cF rest) (h - 127)) with
  | none =>
    rw [hw] at hwo
    obtain rfl := hwo
    have n2 : ((11 : Int) != 0) = true := rfl
    simp (disch := omega) only [pT, pS, aA, cY, n2, aG]
    refine key _ _ ?_ (x1.seq x2)
    unfold MZ
    rw [if_neg (by omega), hw]
  | some k =>
    rw [hw] at hwo
    obtain ⟨v2, rfl, o2⟩ := hwo
    have e5 : (1 : Int) + (((h - 127 + 1) / 2 : Nat) : Int) = ((1 + (h - 127 + 1) / 2 : Nat) : Int) := by omega
    have hlen : (nX (mW (cF rest) (h - 127))).length = h - 127 := by simp [BV]
    rw [hlen] at o2
    simp (disch := omega) only [pT, pS, e5, aA, cY, n1, aE]
    refine key _ _ ?_ (x1.seq x2)
    unfold MZ
    rw [if_neg (by omega), hw]
    refine ⟨v2, rfl, o2.1, ?_⟩
    rcases o2.2 with h | ⟨b, c, rest', q1, q2, q3⟩
    .exact .inl h
    .exact .inr ⟨b, c, rest', q1, by omega, q3⟩
def qR (L : List T3) (s : Nat) : Nat := match L[s]? with | some e => e.1.toNat | none => 0
def stN (L : List T3) (B : List Bool) : Nat -> Nat -> Nat -> Nat -> List Nat -> Option (List Nat)
 | 0, _, _, _, _ => none
 | f + 1, a, b, left, out =>
   if left < lD L a then (if 255 < out.length + 2 then none else some (out ++ [qR L a, qR L b]))
   else stN L B f b (uW L a (qL (B.take left) (lD L a))).toNat (left - lD L a) (out ++ [qR L a])
structure Vld (L : List T3) : Prop where
 low : Low L
 sy : ∀ e ∈ L, 0 <= e.1 /\ e.1 < 256
 nx : ∀ s : Nat, s < L.length -> ∀ x : Nat, x < 2 ^ lD L s -> 0 <= uW L s x /\ (uW L s x).toNat < L.length
 len : L.length <= 32768
theorem aeZ {log : Nat} {ps : List Int} (hm : May log ps) : Vld (xF log ps) := by
 have hl := xE log ps
 have h15 := hm.log15
 have hp : 2 ^ log <= 2 ^ 15 := aLC (by omega) h15
 refine ⟨aEz hm, aGq hm, fun s hs x hx => ?_, by omega⟩
 rw [hl] at hs ⊢
 obtain ⟨sy, hsy, h1, h2, h3, h4, h5⟩ := axI hm (Ok hm 0) hs
 have hat := aA7 (ps := ps) hs
 have hb : lD (xF log ps) s = log + 1 - bl (kAt ps (rM 0 log ps) s) := by
  unfold lD
  rw [if_pos (by omega), aLs, hat]; simp [UZ, EW]
 have hn : uW (xF log ps) s x = ((kAt ps (rM 0 log ps) s * 2 ^ (log + 1 - bl (kAt ps (rM 0 log ps) s)) : Nat) : Int) - 2 ^ log + x := by
  unfold uW
  rw [if_pos (by omega), aLs, hat]; simp [UZ, EW]
 rw [hb] at hx
 rw [hn]
 have hk : kAt ps (rM 0 log ps) s < 2 ^ (log + 1) := by rw [h4, aL6]; omega
 have hk1 : 1 <= kAt ps (rM 0 log ps) s := by rw [h4]; omega
 obtain ⟨q1, q2, q3, q4⟩ := aBD hk1 hk
 generalize kAt ps (rM 0 log ps) s = k at *
 generalize log + 1 - bl k = n at *
 rw [aMi, aNF, aL6] at q2
 have hpow : ((2 ^ log : Nat) : Int) = (2 : Int) ^ log := by simp
 rw [<- hpow]
 generalize k * 2 ^ n = q at *
 generalize 2 ^ n = r at *
 generalize 2 ^ log = N at *
 omega
abbrev u8s (m : List Nat) : List aNY := m.map fun (x : Nat) => Value.int .u8 x
theorem V4 {m : List Nat} (h : ∀ x ∈ m, x < 256) : (nX m).map tJ = u8s m := by
 show List.map tJ (m.map UInt8.ofNat) = _
 rw [aNV]
 exact aL7 fun x hx => awS (h x hx)
theorem PR {L : List T3} (h : Vld L) (s : Nat) : qR L s < 256 := by
 unfold qR
 cases hs : L[s]? with
 | none => simp
 | some e => have := h.sy e (aMz hs); simp only; omega
theorem aEO {L : List T3} {B : List Bool} (h : Vld L) : ∀ {f a b left : Nat} {out m : List Nat}, stN L B f a b left out = some m -> (∀ x ∈ out, x < 256) -> (∀ x ∈ m, x < 256) /\ m.length <= 255
 | 0, _, _, _, _, _, e, _ => by cases e
 | f + 1, a, b, left, out, m, e, ho => by
   rw [stN] at e
   split at e
   .split at e
    .cases e
    .cases e
     refine ⟨fun x hx => ?_, by rw [aLz]; simp; omega⟩
     rcases aMb.1 hx with hx | hx
     .exact ho x hx
     .simp only [aMl, List.not_mem_nil, or_false] at hx
      rcases hx with rfl | rfl
      .exact PR h a
      .exact PR h b
   .refine aEO h e fun x hx => ?_
    rcases aMb.1 hx with hx | hx
    .exact ho x hx
    .rw [aNg.1 hx]; exact PR h a
theorem aCQ {base px i x : Nat} {v : aNY} {cells : List aNY} {w : aNX} (o : OSS w (fun b => base <= b /\ b ≠ px) 1 v i cells) (hb : base <= w.heap.size) (hp : px < w.heap.size) (hi : i <= 100000) {K : aNY -> aNX -> Prop}
 (hK : ∀ v2 w2, OSS w2 (fun b => base <= b /\ b ≠ px) 1 v2 (i + 1) (cells ++ [.int .u8 x]) -> aW w w2 (fun y => base <= y /\ y ≠ px) -> K v2 w2) :
 aD pg (cU 22 1 [(0, .int .u8 x)]) w fun t w => aD pg (lI .append #[22, 22] 22 [v, t]) w fun t' w => K t' w := by
 refine pD (cells := #[.int .u8 x]) (by decide) (by decide) (by kernel_rfl) fun w5 o5 x5 s5 => ?_
 have z5 := x5.size
 refine yY (m := 1) (news := [.int .u8 x]) (i := Tryz.t5) Tryz.underlying22 Tryz.underlying22 S0 rfl rfl rfl (o.ext x5 (fun _ _ h => h)) (o5.cl (off := 0) (l := [.int .u8 x]) (n := 1) rfl (fun i hi => by rw [aLt])) (by simp [one]) (fun b hb => ⟨by omega, by omega⟩) (by omega) (by rw [show Tryz.t5.bytes = 1 from rfl]; omega) (by decide) fun v6 w6 o6 x6 => ?_
 exact hK v6 w6 o6 ((x5.mono fun _ _ h => h.elim).seq x6)
theorem aBw {L : List T3} (h : Vld L) {s : Nat} (hs : s < L.length) : ∃ bs : Int, L[s] = ((qR L s : Int), (lD L s : Int), bs) := by
 have hsome : L[s]? = some L[s] := aLA hs
 obtain ⟨n, hn, hn2, _, _⟩ := h.low _ (aMf hs)
 have hsy := h.sy _ (aMf hs)
 refine ⟨L[s].2.2, ?_⟩
 have e1 : lD L s = n := by unfold lD; simp [hsome, hn]
 have e2 : ((qR L s : Nat) : Int) = L[s].1 := by unfold qR; simp only [hsome]; omega
 rw [e1, e2, <- hn]
def two (i a b : Nat) : List aNY := if i % 2 = 0 then [.int .i64 a, .int .i64 b] else [.int .i64 b, .int .i64 a]
theorem aCe (i a b : Nat) : (two i a b)[i % 2]? = some (.int .i64 a) := by
 unfold two
 rcases aM3 i with h | h <;> rw [h] <;> simp
theorem aID (i a b : Nat) : (two i a b)[(i + 1) % 2]? = some (.int .i64 b) := by
 unfold two
 rcases aM3 i with h | h
 .rw [h, show (i + 1) % 2 = 1 from by omega]; simp
 .rw [h, show (i + 1) % 2 = 0 from by omega]; simp
theorem aIF (i a b c : Nat) : (two i a b).set (i % 2) (.int .i64 c) = two (i + 1) b c := by
 unfold two
 rcases aM3 i with h | h
 .rw [h, show (i + 1) % 2 = 1 from by omega]; simp
 .rw [h, show (i + 1) % 2 = 0 from by omega]; simp
theorem aIM (i a b : Nat) : (two i a b).length = 2 := by unfold two; split <;> rfl
theorem aBp {p8 p9 b hi lo log : Nat} {L : List T3} {l : List UInt8} {a0 b0 left0 : Nat} {w : aNX} (hv : Vld L) (hl : l.length <= 100000)
 (o8 : eM w p8 [.int .i64 log, .slice (some ⟨b, 0, none⟩) L.length L.length]) (ob : eM w b (fe .u8 L)) (o9 : eM w p9 (two 0 a0 b0)) (hbw : Bwd w lo hi l left0)
 (hne : p8 ≠ hi /\ b ≠ hi /\ p9 ≠ hi /\ p8 ≠ p9 /\ b ≠ p9 /\ lo <= hi /\ hi < p9) (ha : a0 < L.length) (hb : b0 < L.length) (hleft : left0 <= 8 * l.length) {G : Option (List Nat)} (hG : stN L (aZ l) 256 a0 b0 left0 [] = G)
 {R : aNY -> aNX -> Prop} (hR : ∀ v w' e, (match G with | none => v = .slice none 0 0 /\ e = 11 | some m => tE w' w.heap.size 1 v m.length (u8s m) /\ e = 0) -> aW w w' (fun y => y = p9 ∨ y = hi) -> R (.tuple #[v, .int .i64 e]) w') :
 Be R (.pointer (some ⟨hi, 0, none⟩)) (.pointer (some ⟨p8, 0, none⟩)) (.pointer (some ⟨p9, 0, none⟩)) (.slice none 0 0) w := by
 obtain ⟨n1, n2, n3, n4, n5, n6, n7⟩ := hne
 have q8 := o8.lt
 have q9 := o9.lt
 have qb := ob.lt
 have qh := hbw.choose_spec.1.lt
 unfold Be Fp F7 F9 FT
 refine cR.rule (fun m (t : aNY × aNY) w' => ∃ (i a b' left : Nat) (out : List Nat) (ov : aNY), m = 256 - i /\ t = (ov, .int .i64 i) /\ i <= 256 /\ out.length = i /\ a < L.length /\ b' < L.length /\ left <= 8 * l.length /\
  eM w' p9 (two i a b') /\ Bwd w' lo hi l left /\ stN L (aZ l) (256 - i) a b' left out = G /\ tE w' w.heap.size 1 ov i (u8s out) /\ aW w w' (fun y => y = p9 ∨ y = hi ∨ w.heap.size <= y)) 256
  ⟨0, a0, b0, left0, [], _, rfl, rfl, by omega, rfl, ha, hb, hleft, o9, hbw, hG, tE.nil _ _ _, aW.refl _ _⟩ ?_
 clear o9 hbw hG hleft ha hb
 rintro m t w1 ⟨i, a, b', left, out, ov, rfl, rfl, hi6, hol, ha, hb', hleft, o9, hbw, hG, oo, x1⟩
 have z1 := x1.size
 have x1n : ∀ w2, aW w1 w2 (fun y => y = p9 ∨ y = hi ∨ w.heap.size <= y) -> aW w w2 (fun y => y = p9 ∨ y = hi) := fun w2 x2 => (x1.seq x2).mono fun y hy h => by
  rcases h with h | h | h
  .exact .inl h
  .exact .inr h
  .omega
 have hos : ∀ {w2 : aNX}, aW w1 w2 (fun y => w.heap.size <= y) -> aW w w2 (fun y => y = p9 ∨ y = hi ∨ w.heap.size <= y) := fun x2 => x1.seq (x2.mono fun _ _ h => .inr (.inr h))
 unfold Bi
 by_cases hlt : i < 256
 case neg =>
  have d1 : decide ((i : Int) < 256) = false := by simp; omega
  obtain rfl : i = 256 := by omega
  obtain ⟨ao, co, rfl⟩ := oo.len
  have d2 : decide ((256 : Int) <= ((256 : Nat) : Int)) = true := by decide
  unfold wS
  simp (disch := omega) only [aD, aR, d1, cT, aLt, rL, jH, Result.ok.injEq, Next.value.injEq, and_true, bJ, aQ, true_and, aA, gB, aP, nJ, d2, aG, aE]
  refine hR _ _ 11 ?_ (x1n _ (aW.refl _ _))
  rw [<- hG]
  exact ⟨rfl, rfl⟩
 have d1 : decide ((i : Int) < 256) = true := by simp; omega
 have e1 : (i : Int).tmod 2 = ((i % 2 : Nat) : Int) := by rw [aLU (by omega)]; simp
 have e2 : ((i : Int) + 1).tmod 2 = (((i + 1) % 2 : Nat) : Int) := by rw [aLU (by omega)]; omega
 have hj := aNt i (show 0 < 2 by omega)
 have hj1 := aNt (i + 1) (show 0 < 2 by omega)
 have tj : ((i % 2 : Nat) : Int).toNat = i % 2 := aLs _
 have tj1 : (((i + 1) % 2 : Nat) : Int).toNat = (i + 1) % 2 := aLs _
 have ta : (a : Int).toNat = a := aLs _
 have tb : (b' : Int).toNat = b' := aLs _
 obtain ⟨bs, hea⟩ := aBw hv ha
 obtain ⟨bs2, heb⟩ := aBw hv hb'
 have hta := aB5 (k := .u8) ha
 have htb := W6 .u8 L b' hb'
 rw [hea] at hta
 rw [heb] at htb
 have hbl := aA5 hv.low a
 have hsa := PR hv a
 have hsb := PR hv b'
 have ho8 : ∀ {w2 : aNX}, aW w w2 (fun y => y = p9 ∨ y = hi ∨ w.heap.size <= y) -> eM w2 p8 [.int .i64 log, .slice (some ⟨b, 0, none⟩) L.length L.length] := fun x => o8.ext x (by omega)
 have hob : ∀ {w2 : aNX}, aW w w2 (fun y => y = p9 ∨ y = hi ∨ w.heap.size <= y) -> eM w2 b (fe .u8 L) := fun x => ob.ext x (by omega)
 have hent : ∀ {w2 : aNX}, eM w2 b (fe .u8 L) -> (aL 115 (.pointer (some ⟨b, a * 3, none⟩))).run pg w2 = .ok (.value (.agg #[.int .u8 (qR L a), .int .i64 (lD L a), .int .i64 bs])) w2 := fun o => by
  have := Zv (off := a * 3) o (by rw [qC]; omega)
  rw [hta] at this
  exact this
 have x1d : aW w (dr w1) (fun y => y = p9 ∨ y = hi ∨ w.heap.size <= y) := x1.seq (aW.dr _ _)
 have c8 := (ho8 x1d).cell (off := 1)
 have c9 := (kB o9).cell (off := i % 2)
 rw [aCe] at c9
 simp only [aLq, aLr] at c8
 have l1 := hent (hob x1d)
 simp (disch := omega) only [aD, aR, d1, cT, aLt, rL, e1, jH, Result.ok.injEq, Next.value.injEq, and_true, bJ, aQ, true_and, aA, oM, bO, gB, tj, c8, aH, c9, gV, ta, l1, aG]
 refine amB fun w2 o2 x2 s2 => ?_
 have x12 : aW w1 w2 eS := (aW.dr _ _).seq x2
 have xw2 := x1.seq (x12.mono fun _ _ h => h.elim)
 have c8' := (ho8 xw2).cell (off := 1)
 have c9' := (o9.ext x12 (fun h => h)).cell (off := i % 2)
 rw [aCe] at c9'
 simp only [aLq, aLr] at c8'
 have l1' := hent (hob xw2)
 simp (disch := omega) only [l1', c9', aH, c8', and_true, eJ, gP, aLt, Result.ok.injEq, Next.value.injEq, aA, bO, true_and, iJ]
 refine ZA o2 rfl (by simp [one]) (by simp) fun w3 o3 x3 s3 => ?_
 simp only [bM, aLw, aLv] at o3
 have hsz2 : (dr w1).heap.size = w1.heap.size := rfl
 rw [hsz2] at o3 x3
 simp only [hsz2]
 have x13 : aW w1 w3 eS := x12.new x3 (aLF _)
 have z3 := o3.lt
 have k0 := o3.cell (off := 0)
 simp only [aLq, aLr] at k0
 simp (disch := omega) only [k0, aH, aA]
 have os3 := (oo.ne (p := w1.heap.size) (aLF _)).ext x13 (fun _ _ h => h)
 refine aCQ os3 (by omega) (by omega) (by omega) fun v4 w4 o4 x4 => ?_
 have x14 : aW w1 w4 (fun y => w.heap.size <= y) := (x13.mono fun _ _ h => h.elim).seq (x4.mono fun _ _ h => h.1)
 have z4 := x14.size
 have z34 := x4.size
 have hob4 : u8s out ++ [.int .u8 (qR L a : Nat)] = u8s (out ++ [qR L a]) := by show _ = List.map _ (out ++ [qR L a]); rw [aLS] <;> rfl
 rw [hob4] at o4
 have o34 := o3.ext x4 (by omega)
 have hbw4 : Bwd (dr w4) lo hi l left := (hbw.ext x14 (fun b h1 h2 => by omega) n6).ext (aW.dr _ eS) (fun _ _ _ h => h) n6
 refine (anI hbw4).mono ?_
 rintro r w5 ⟨rfl, rfl⟩
 have k1 := (kB o34).cell (off := 1)
 simp only [aLq, aLr] at k1
 have xw4 := hos x14
 have xw5 : aW w (dr (dr w4)) (fun y => y = p9 ∨ y = hi ∨ w.heap.size <= y) := (xw4.seq (aW.dr _ _)).seq (aW.dr _ _)
 have x15 : aW w1 (dr (dr w4)) (fun y => w.heap.size <= y) := (x14.seq (aW.dr _ _)).seq (aW.dr _ _)
 have c8 := (ho8 xw5).cell (off := 1)
 simp only [aLq, aLr] at c8
 have o9d := o9.ext x15 (by omega)
 obtain ⟨f, hf⟩ : ∃ f, 256 - i = f + 1 := ⟨255 - i, by omega⟩
 rw [hf, stN] at hG
 by_cases hsh : left < lD L a
 .have d3 : decide ((left : Int) < ((lD L a : Nat) : Int)) = true := by simp only [decide_eq_true_eq]; omega
  rw [if_pos hsh] at hG
  have c9 := o9d.cell (off := (i + 1) % 2)
  rw [aID] at c9
  have m0 := (hob xw5).cell (off := b' * 3)
  rw [htb.1] at m0
  simp (disch := omega) only [k1, aH, Result.ok.injEq, Next.value.injEq, and_true, c8, e2, tj1, c9, aA, true_and, gV, tb, aLt, eJ, iJ, m0, aR, d3, aG]
  have o5 := (o4.ext (aW.dr w4 eS) (fun _ _ h => h)).ext (aW.dr (dr w4) eS) (fun _ _ h => h)
  have hszd : (dr (dr w4)).heap.size = w4.heap.size := rfl
  refine aCQ o5 (by rw [hszd]; omega) (by rw [hszd]; omega) (by omega) fun v6 w6 o6 x6 => ?_
  have hob6 : u8s (out ++ [qR L a]) ++ [.int .u8 (qR L b' : Nat)] = u8s (out ++ [qR L a, qR L b']) := by show List.map _ (out ++ [qR L a]) ++ _ = List.map _ (out ++ [qR L a, qR L b']); rw [aLS, aLS, aLV] <;> rfl
  rw [hob6] at o6
  have o6l := o6.osl
  obtain ⟨a6, c6, rfl⟩ := o6.len
  unfold wS
  have x16 : aW w1 w6 (fun y => y = p9 ∨ y = hi ∨ w.heap.size <= y) := (x15.mono fun _ _ h => .inr (.inr h)).seq (x6.mono fun _ _ h => .inr (.inr h.1))
  by_cases h255 : 255 < out.length + 2
  .rw [if_pos h255] at hG
   have d4 : decide ((256 : Int) <= ((i + 1 + 1 : Nat) : Int)) = true := by simp only [decide_eq_true_eq]; omega
   simp (disch := omega) only [aD, aP, aA, nJ, d4, aG]
   refine hR _ _ 11 ?_ (x1n _ x16)
   rw [<- hG]; exact ⟨rfl, rfl⟩
  .rw [if_neg h255] at hG
   have d4 : decide ((256 : Int) <= ((i + 1 + 1 : Nat) : Int)) = false := by simp only [decide_eq_false_iff_not]; omega
   simp (disch := omega) only [aD, aP, aA, nJ, d4, aE]
   refine hR _ _ 0 ?_ (x1n _ x16)
   rw [<- hG]
   refine ⟨?_, rfl⟩
   rw [show (out ++ [qR L a, qR L b']).length = i + 1 + 1 from by rw [aLz]; simp; omega]
   exact o6l
 .have d3 : decide ((left : Int) < ((lD L a : Nat) : Int)) = false := by simp only [decide_eq_false_iff_not]; omega
  rw [if_neg hsh] at hG
  have c9 := o9d.cell (off := i % 2)
  rw [aCe] at c9
  have l8 := Rp (off := 0) (ho8 xw5) (by simp)
  simp only [aLy, aLx, aLB] at l8
  simp (disch := omega) only [k1, aH, Result.ok.injEq, Next.value.injEq, and_true, l8, c9, aA, true_and, aR, d3, aE]
  have hbw5 : Bwd (dr (dr w4)) lo hi l left := hbw4.ext (aW.dr _ eS) (fun _ _ _ h => h) n6
  have hszd : (dr (dr w4)).heap.size = w4.heap.size := rfl
  refine (aGh (base := 0) (b := b) (L := L) (s := a) ⟨rfl, aNn _, hob xw5⟩ hv.low (by have := hv.len; omega) hbw5 n6 (by omega) n2 (by omega) (by omega) (by omega)).mono ?_
  rintro r w6 ⟨rfl, hbw6, x6⟩
  have tl : (left : Int).toNat = left := aLs _
  rw [tl]
  have hln := sX ((aZ l).take left) (lD L a)
  obtain ⟨g1, g2⟩ := hv.nx a ha _ hln
  obtain ⟨c, hc⟩ : ∃ c : Nat, uW L a (qL ((aZ l).take left) (lD L a)) = c := ⟨_, (Int.toNat_of_nonneg g1).symm⟩
  rw [hc] at g2 hG ⊢
  rw [aLs] at g2 hG
  have o96 := o9d.ext x6 (by omega)
  refine pH o96 rfl (by rw [aIM]; omega) fun w7 o7 x7 s7 => ?_
  rw [aIF] at o7
  have x17 : aW w1 w7 (fun y => y = p9 ∨ y = hi ∨ w.heap.size <= y) := ((x15.mono fun _ _ h => .inr (.inr h)).seq (x6.mono fun _ _ h => .inr (.inl h))).seq (x7.mono fun _ _ h => .inl h)
  have hbw7 := hbw6.ext x7 (fun b h1 h2 => by omega) n6
  have o47 := ((o4.ext (aW.dr w4 eS) (fun _ _ h => h)).ext (aW.dr (dr w4) eS) (fun _ _ h => h)).ext x6 (fun b h hh => by omega) |>.ext x7 (fun b h hh => by omega)
  refine ⟨f, by omega, i + 1, b', c, left - lD L a, out ++ [qR L a], v4, by omega, rfl, by omega, by rw [aLz, hol] <;> rfl, hb', g2, by omega, o7, ?_, ?_, o47.osl, x1.seq x17⟩
  .rw [show ((left - lD L a : Nat) : Int) = (left : Int) - (lD L a : Nat) from by omega]; exact hbw7
  .rw [show 256 - (i + 1) = f from by omega]; exact hG
def vY (l : List UInt8) : Except Int (List Nat) := match CT (aZ l) 6 12 with
 | .error e => .error e
 | .ok (lg, ps, n) => match Yt (l.drop n) with
   | none => .error 11
   | some k => if k < 2 * lg then .error 11 else
     match stN (xF lg ps) (aZ (l.drop n)) 256 (qL ((aZ (l.drop n)).take k) lg) (qL ((aZ (l.drop n)).take (k - lg)) lg) (k - 2 * lg) [] with
     | none => .error 11
     | some m => .ok m
def aKe (w : aNX) (base : Nat) (o : Except Int (List Nat)) (r : aNY) : Prop := match o with
 | .error e => r = .tuple #[.slice none 0 0, .int .i64 e]
 | .ok m => ∃ v, r = .tuple #[v, .int .i64 0] /\ tE w base 1 v m.length ((nX m).map tJ)
theorem azL {l : List UInt8} {m : List Nat} (h : vY l = .ok m) : (∀ x ∈ m, x < 256) /\ m.length <= 255 := by
 unfold vY at h
 split at h
 .cases h
 .rename_i lg ps n hr
  obtain ⟨h1, h2, h3⟩ := azN hr
  have hm := h1 (by omega)
  split at h
  .cases h
  .split at h
   .cases h
   .split at h
    .cases h
    .rename_i hs
     cases h
     exact aEO (aeZ hm) hs (by simp)
theorem aH5 {p8 p9 b hi lo log k : Nat} {L : List T3} {l : List UInt8} {w : aNX} (hl : l.length <= 100000) (hlog : log <= 15) (hlen : L.length = 2 ^ log)
 (o8 : eM w p8 [.int .i64 log, .slice (some ⟨b, 0, none⟩) L.length L.length]) (o9 : eM w p9 [.int .i64 0, .int .i64 0]) (hbw : Bwd w lo hi l k)
 (hne : p8 ≠ hi /\ p9 ≠ hi /\ p8 ≠ p9 /\ lo <= hi /\ hi < p9) (hk : k <= 8 * l.length) {R : aNY -> aNX -> Prop}
 (hR : ∀ w', eM w' p9 (two 0 (qL ((aZ l).take k) log) (qL ((aZ l).take (k - log)) log)) -> Bwd w' lo hi l ((k : Int) - log - log) -> aW w w' (fun y => y = p9 ∨ y = hi) →
  Bg R (.pointer (some ⟨hi, 0, none⟩)) (.pointer (some ⟨p8, 0, none⟩)) (.pointer (some ⟨p9, 0, none⟩)) w') :
 yZ R (.pointer (some ⟨hi, 0, none⟩)) (.pointer (some ⟨p8, 0, none⟩)) (.pointer (some ⟨p9, 0, none⟩)) w := by
 obtain ⟨n1, n3, n4, n6, n7⟩ := hne
 have q9 := o9.lt
 have qh := hbw.choose_spec.1.lt
 have hp : 2 ^ log <= 2 ^ 15 := aLC (by omega) hlog
 unfold yZ D3 D7 Ew Ea
 have hla := sX ((aZ l).take k) log
 have hlb := sX ((aZ l).take (k - log)) log
 obtain ⟨a, ha⟩ : ∃ a, qL ((aZ l).take k) log = a := ⟨_, rfl⟩
 obtain ⟨b', hb'⟩ : ∃ a, qL ((aZ l).take (k - log)) log = a := ⟨_, rfl⟩
 rw [ha, hb'] at hR
 refine cR.rule (fun m (t : aNY) w' => ∃ (i : Nat), m = 2 - i /\ t = .int .i64 i /\ i <= 2 /\ eM w' p9 (if i = 0 then [.int .i64 0, .int .i64 0] else if i = 1 then [.int .i64 a, .int .i64 0] else [.int .i64 a, .int .i64 b']) /\ Bwd w' lo hi l ((k : Int) - i * log) /\ aW w w' (fun y => y = p9 ∨ y = hi)) 2
  ⟨0, rfl, rfl, by omega, o9, by simpa using hbw, aW.refl _ _⟩ ?_
 rintro m t w1 ⟨i, rfl, rfl, hi2, o9, hbw, x1⟩
 have z1 := x1.size
 unfold zD
 have hcase : i = 0 ∨ i = 1 ∨ i = 2 := by omega
 have o81 := o8.ext x1 (by omega)
 have l8 := Rp (off := 0) o81 (by simp)
 simp only [aLy, aLx, aLB] at l8
 rcases hcase with rfl | rfl | rfl
 .have d1 : decide (((0 : Nat) : Int) < 2) = true := rfl
  simp (disch := omega) only [aD, aR, d1, oM, aLs, aLt, bJ, aQ, aA, l8, aG]
  refine (awN hbw n6 (by omega) (by omega) (by omega) (by omega) (by omega)).mono ?_
  rintro r w2 ⟨rfl, hbw2, x2⟩
  rw [show ((k : Int) - ((0 : Nat) : Int) * (log : Nat)).toNat = k from by omega, ha]
  refine pH (o9.ext x2 (by omega)) rfl (by simp) fun w3 o3 x3 s3 => ?_
  refine ⟨1, by omega, 1, rfl, rfl, by omega, o3, ?_, (x1.seq (x2.mono fun _ _ h => .inr h)).seq (x3.mono fun _ _ h => .inl h)⟩
  have := hbw2.ext x3 (fun b h1 h2 => by omega) n6
  rwa [show (k : Int) - ((0 : Nat) : Int) * (log : Nat) - (log : Nat) = (k : Int) - ((1 : Nat) : Int) * (log : Nat) from by omega] at this
 .have d1 : decide (((1 : Nat) : Int) < 2) = true := rfl
  have t1 : ((1 : Nat) : Int).toNat = 1 := rfl
  simp (disch := omega) only [aD, aR, d1, oM, aLs, aLt, bJ, aQ, aA, l8, aG]
  refine (awN hbw n6 (by omega) (by omega) (by omega) (by omega) (by omega)).mono ?_
  rintro r w2 ⟨rfl, hbw2, x2⟩
  rw [show ((k : Int) - ((1 : Nat) : Int) * (log : Nat)).toNat = k - log from by omega, hb']
  refine pH (o9.ext x2 (by omega)) rfl (by simp) fun w3 o3 x3 s3 => ?_
  refine ⟨0, by omega, 2, rfl, rfl, by omega, o3, ?_, (x1.seq (x2.mono fun _ _ h => .inr h)).seq (x3.mono fun _ _ h => .inl h)⟩
  have := hbw2.ext x3 (fun b h1 h2 => by omega) n6
  rwa [show (k : Int) - ((1 : Nat) : Int) * (log : Nat) - (log : Nat) = (k : Int) - ((2 : Nat) : Int) * (log : Nat) from by omega] at this
 .have d1 : decide (((2 : Nat) : Int) < 2) = false := rfl
  simp (disch := omega) only [aD, aR, d1, bJ, aQ, aA, aE]
  refine hR w1 o9 ?_ x1
  rwa [show (k : Int) - ((2 : Nat) : Int) * (log : Nat) = (k : Int) - (log : Nat) - (log : Nat) from by omega] at hbw
theorem aHO {v : aNY} {l : List UInt8} {w : aNX} (h : Bs w v l) (hl : l.length <= 1000) :
 aS pg BY #[v] w (fun r w' => aKe w' w.heap.size (vY l) r /\ aW w w' eS) := by
 refine Yr ?_
 obtain ⟨RR, hRR⟩ : ∃ RR : aNY -> aNX -> Prop, RR = fun r w' => aKe w' w.heap.size (vY l) r /\ aW w w' eS := ⟨_, rfl⟩
 rw [<- hRR]
 have key : ∀ r w', aKe w' w.heap.size (vY l) r -> aW w w' eS -> RR r w' := fun r w' h1 h2 => by rw [hRR]; exact ⟨h1, h2⟩
 obtain ⟨av, nv, cv, hvv, hnv, hcv, _⟩ := id h
 rw [aLD] at hnv
 subst hnv
 have hv' := hvv
 subst hv'
 unfold XP Et Ek DV OE Eo
 refine (aDZ (most := 6) (sym := 12) h (by omega) (by omega)).mono ?_
 rintro r w1 ⟨hr, x1⟩
 unfold vY at key
 cases hrd : CT (aZ l) 6 12 with
 | error e =>
   rw [hrd] at hr key
   have he := aoX hrd
   obtain rfl := hr
   have n1 : (e != 0) = true := by simp [he]
   simp (disch := omega) only [aD, Yc, Yy, Yk, nN, aA, cY, eF]
   refine B6 fun w2 o2 x2 s2 => ?_
   refine wR o2 rfl (by simp [one]) (by simp) fun w3 o3 x3 s3 => ?_
   simp (disch := omega) only [n1, aG]
   exact key _ _ rfl (x1.seq (x2.new x3 (by omega)))
 | ok x =>
   obtain ⟨lg, ps, n⟩ := x
   rw [hrd] at hr key
   simp only at key
   obtain ⟨hmay, hlg6, hps12⟩ := azN hrd
   have hm := hmay (by omega)
   have hused := azA hrd
   rw [lZ] at hused
   obtain ⟨pv, rfl, op⟩ := hr
   obtain ⟨pa, pc, rfl⟩ := op.len
   have n1 : ((0 : Int) != 0) = false := rfl
   simp (disch := omega) only [aD, Yc, Yy, Yk, nN, aA, cY, eF, aLs]
   refine B6 fun w2 o2 x2 s2 => ?_
   refine wR o2 rfl (by simp [one]) (by simp) fun w3 o3 x3 s3 => ?_
   simp only [bM, aLw, aLv] at o3
   have x13 : aW w1 w3 eS := x2.new x3 (by omega)
   have x03 := x1.seq x13
   have hb3 := h.ext x03 (bY _)
   have hdr := hb3.drop' (k := n) (by omega)
   rw [<- aNc] at hdr
   have hdr : Bs w3 _ (l.drop n) := hdr
   have tn : (n : Int).toNat = n := aLs _
   have hdl : (l.drop n).length <= 1000 := by rw [aLM]; omega
   simp (disch := omega) only [n1, aE]
   generalize l.drop n = l' at *
   cases he : Yt l' with
   | none =>
     rw [he] at key
     refine (UU hdr he (by omega)).mono ?_
     rintro r w4 ⟨rfl, rfl⟩
     have n2 : ((11 : Int) != 0) = true := rfl
     simp (disch := omega) only [pT, pS, aA, cY, n2, aG]
     exact key _ _ rfl x03
   | some k =>
     rw [he] at key
     simp only at key
     have hk := H9 he
     refine (Wf hdr he (by omega)).mono ?_
     rintro r w4 ⟨hi, rfl, hlh, hhi, hbw, x4⟩
     have o34 := o3.ext x4 (fun h => h)
     have l3 := rJ (off := 0) o34 (by simp)
     simp only [aLy, aLx, aLB] at l3
     simp (disch := omega) only [pT, pS, aA, cY, n1, aE, l3]
     have op4 := (op.ext x13 (fun _ _ h => h)).ext x4 (fun _ _ h => h)
     refine (aIV hm op4.sl).mono ?_
     rintro r w5 ⟨b, tv, rfl, ⟨rfl, hb5, ob⟩, x5⟩
     simp (disch := omega) only [pT, pS, aA, cY]
     refine MG fun w6 o6 x6 s6 => ?_
     refine I0 o6 rfl (by simp [one]) (by simp) fun w7 o7 x7 s7 => ?_
     simp only [bM, aLw, aLv] at o7
     simp (disch := omega) only [n1, aE]
     refine aEc fun w8 o8 x8 s8 => ?_
     refine aDb o8 rfl (by simp [one]) (by simp) fun w9 o9 x9 s9 => ?_
     simp only [bM, aLw, aLv] at o9
     have x57 : aW w5 w7 eS := x6.new x7 (by omega)
     have x79 : aW w7 w9 eS := x8.new x9 (by omega)
     have x59 := x57.seq x79
     have x49 := x5.seq x59
     have x39 := x4.seq x49
     have z4 := x4.size
     have z5 := x5.size
     have z57 := x57.size
     have z79 := x79.size
     have qb := ob.lt
     have q6 := o7.lt
     have o79 := o7.ext x79 (fun h => h)
     have hN : (xF lg ps).length = 2 ^ lg := xE lg ps
     have h15 := hm.log15
     have hv := aeZ hm
     have hla := sX ((aZ l').take k) lg
     have hlb := sX ((aZ l').take (k - lg)) lg
     have ob9 := ob.ext x59 (fun h => h)
     rw [<- hN] at hla hlb
     generalize xF lg ps = L at *
     refine aH5 (L := L) (l := l') (k := k) (by omega) h15 hN o79 o9 (hbw.ext x49 (fun _ _ _ h => h) hlh) (by omega) (by omega) fun w10 o10 hbw10 x10 => ?_
     have x010 : aW w w10 eS := (x03.seq x39).trans x10 fun y hy h => by have := x03.size; omega
     unfold Bg FJ
     refine (anI hbw10).mono ?_
     rintro r w11 ⟨rfl, rfl⟩
     by_cases hlt : k < 2 * lg
     .rw [if_pos hlt] at key
      have d1 : decide ((k : Int) - (lg : Nat) - (lg : Nat) < 0) = true := by simp only [decide_eq_true_eq]; omega
      simp (disch := omega) only [aD, aR, d1, aA, aG]
      exact key _ _ rfl x010
     .rw [if_neg hlt] at key
      have d1 : decide ((k : Int) - (lg : Nat) - (lg : Nat) < 0) = false := by simp only [decide_eq_false_iff_not]; omega
      simp (disch := omega) only [aD, aR, d1, aA, aE]
      have z10 := x10.size
      refine aBp (left0 := k - 2 * lg) (L := L) (l := l') (G := stN L (aZ l') 256 (qL ((aZ l').take k) lg) (qL ((aZ l').take (k - lg)) lg) (k - 2 * lg) []) hv (by omega) (o79.ext x10 (by omega)) (ob9.ext x10 (by omega)) o10
       (by rw [show ((k - 2 * lg : Nat) : Int) = (k : Int) - (lg : Nat) - (lg : Nat) from by omega]; exact hbw10) (by omega) hla hlb (by omega) rfl fun v' w12 e hG x12 => ?_
      have x012 : aW w w12 eS := x010.trans x12 fun y hy h => by have := x03.size; omega
      refine key _ _ ?_ x012
      cases hs : stN L (aZ l') 256 (qL ((aZ l').take k) lg) (qL ((aZ l').take (k - lg)) lg) (k - 2 * lg) [] with
      | none =>
        rw [hs] at hG
        obtain ⟨rfl, rfl⟩ := hG
        exact rfl
      | some m =>
        rw [hs] at hG
        obtain ⟨om, rfl⟩ := hG
        refine ⟨v', rfl, ?_⟩
        rw [V4 (aEO hv hs (by simp)).1]
        exact om.lower (by have := x03.size; omega)
theorem aHi {k : IntKind} {L : List T3} {rest : List aNY} {i : Nat} (h : i < L.length) : ((fe k L ++ rest).drop (i * 3)).take 3 = [.int k L[i].1, .int .i64 L[i].2.1, .int .i64 L[i].2.2] := by
 have hl := qC k L
 rw [List.drop_append_of_le_length (by omega), aMN (by rw [aLM]; omega), aB5 h]
def zB (o : Except Int (List Nat)) (r : aNY) : Prop := match o with
 | .error e => r = .tuple #[.string ⟨#[]⟩, .int .i64 e]
 | .ok m => r = .tuple #[.string ⟨(nX m).toArray⟩, .int .i64 0]
theorem aIC {w : aNX} {lo hi : Nat} {b : aNY} {B : List Bool} {left n : Nat} (hl : left <= B.length) (hn : n <= left)
 (h : RB w lo hi b ((B.take left).take ((B.take left).length - min n (B.take left).length)) (0 + (n - min n (B.take left).length))) : RB w lo hi b (B.take (left - n)) 0 := by
 have e : (B.take left).length = left := by rw [aLG]; omega
 rw [e, show 0 + (n - min n left) = 0 from by omega, aNP, show min (left - min n left) left = left - n from by omega] at h
 exact h
theorem auN {p7 p8 b lo hi log cc : Nat} {L : List T3} {l : List UInt8} {a0 b0 left0 : Nat} {bv : aNY} {rest : List aNY} {w w0 : aNX} (hv : Vld L) (hl : l.length <= 100000)
 (o8 : eM w p8 [.int .i64 log, .slice (some ⟨b, 0, none⟩) L.length cc]) (ob : eM w b (fe .i64 L ++ rest)) (o7 : eM w p7 bv.cells.toList) (hrb : RB w lo hi bv ((aZ l).take left0) 0)
 (hne : p8 ≠ p7 /\ b ≠ p7 /\ hi <= p7 /\ w0.heap.size <= p7) (ha : a0 < L.length) (hb : b0 < L.length) (hleft : left0 <= 8 * l.length) {G : Option (List Nat)} (hG : stN L (aZ l) 256 a0 b0 left0 [] = G) (x0 : aW w0 w eS)
 {R : aNY -> aNX -> Prop} (hR : ∀ r w', zB (match G with | none => .error 11 | some m => .ok m) r -> aW w0 w' eS -> R r w') :
 Dq R (.pointer (some ⟨p7, 0, none⟩)) (.pointer (some ⟨p8, 0, none⟩)) (.int .i64 a0) (.int .i64 b0) (.slice none 0 0) w := by
 obtain ⟨n1, n2, n3, n4⟩ := hne
 have q8 := o8.lt
 have q7 := o7.lt
 have qb := ob.lt
 unfold Dq Kt Kv
 refine cR.rule (fun m (t : aNY × aNY × aNY) w' => ∃ (i a b' left : Nat) (out : List Nat) (ov bv : aNY), m = 256 - i /\ t = (.int .i64 a, .int .i64 b', ov) /\ i <= 256 /\ out.length = i /\ a < L.length /\ b' < L.length /\ left <= 8 * l.length /\
  eM w' p7 bv.cells.toList /\ RB w' lo hi bv ((aZ l).take left) 0 /\ stN L (aZ l) (256 - i) a b' left out = G /\ tE w' w.heap.size 1 ov i (u8s out) /\ (∀ x ∈ out, x < 256) /\ aW w w' (fun y => y = p7 ∨ w.heap.size <= y)) 256
  ⟨0, a0, b0, left0, [], _, bv, rfl, rfl, by omega, rfl, ha, hb, hleft, o7, hrb, hG, tE.nil _ _ _, by simp, aW.refl _ _⟩ ?_
 clear o7 hrb hG hleft ha hb
 rintro m t w1 ⟨i, a, b', left, out, ov, bv, rfl, rfl, hi6, hol, ha, hb', hleft, o7, hrb, hG, oo, hout, x1⟩
 have z1 := x1.size
 have x0n : ∀ {w2 : aNX}, aW w w2 (fun y => y = p7 ∨ w.heap.size <= y) -> aW w0 w2 eS := fun x2 => x0.trans x2 fun y hy h => by have := x0.size; omega
 have hrb' := hrb
 obtain ⟨v, rfl, hs, hat⟩ := hrb
 obtain ⟨a', c', rfl, hc⟩ := Ff hs
 simp only [Value.cells] at o7
 obtain ⟨ao, co, rfl⟩ := oo.len
 unfold Dr
 by_cases hlt : i < 256
 case neg =>
  have d1 : decide ((i : Int) < 256) = false := by simp; omega
  obtain rfl : i = 256 := by omega
  unfold DO
  simp (disch := omega) only [aD, aP, bN, aLt, jH, and_true, aA, bG, aR, d1, aE]
  refine hR _ _ ?_ (x0n x1)
  rw [<- hG]
  exact rfl
 have d1 : decide ((i : Int) < 256) = true := by simp; omega
 have ta : (a : Int).toNat = a := aLs _
 have tb : (b' : Int).toNat = b' := aLs _
 obtain ⟨bs, hea⟩ := aBw hv ha
 obtain ⟨bs2, heb⟩ := aBw hv hb'
 have hta := aHi (k := .i64) (rest := rest) ha
 have htb := W6 .i64 L b' hb'
 have hfl := qC .i64 L
 rw [hea] at hta
 rw [heb] at htb
 have hbl := aA5 hv.low a
 have hsa := PR hv a
 have hsb := PR hv b'
 have ho8 : ∀ {w2 : aNX}, aW w w2 (fun y => y = p7 ∨ w.heap.size <= y) -> eM w2 p8 [.int .i64 log, .slice (some ⟨b, 0, none⟩) L.length cc] := fun x => o8.ext x (by omega)
 have hob : ∀ {w2 : aNX}, aW w w2 (fun y => y = p7 ∨ w.heap.size <= y) -> eM w2 b (fe .i64 L ++ rest) := fun x => ob.ext x (by omega)
 have hos : ∀ {w2 : aNX}, aW w1 w2 (fun y => w.heap.size <= y) -> aW w w2 (fun y => y = p7 ∨ w.heap.size <= y) := fun x2 => x1.seq (x2.mono fun _ _ h => .inr h)
 have c8 := (ho8 x1).cell (off := 1)
 simp only [aLq, aLr] at c8
 have l1 := Vb (off := a * 3) (hob x1) (by rw [aLz, hfl]; omega)
 rw [hta] at l1
 have ew : IntKind.u8.wrap (qR L a : Nat) = (qR L a : Nat) := xL (by omega) (by omega)
 have ewb : IntKind.u8.wrap (qR L b' : Nat) = (qR L b' : Nat) := xL (by omega) (by omega)
 simp (disch := omega) only [aD, aP, bN, aLt, jH, and_true, aA, bG, aR, d1, c8, aH, bT, ta, l1, aG]
 refine Xr fun w2 o2 x2 s2 => ?_
 refine Vj o2 rfl (by simp [one]) (by simp) fun w3 o3 x3 s3 => ?_
 simp only [bM, aLw, aLv] at o3
 have x13 : aW w1 w3 eS := x2.new x3 (aLF _)
 have z3 := o3.lt
 have k0 := o3.cell (off := 0)
 simp only [aLq, aLr] at k0
 simp (disch := omega) only [bU, cM, aLt, Result.ok.injEq, Next.value.injEq, and_true, aA, bO, true_and, k0, aH, eQ, ew]
 have os3 := (oo.ne (p := w1.heap.size) (aLF _)).ext x13 (fun _ _ h => h)
 refine aCQ os3 (by omega) (by omega) (by omega) fun v4 w4 o4 x4 => ?_
 have x14 : aW w1 w4 (fun y => w.heap.size <= y) := (x13.mono fun _ _ h => h.elim).seq (x4.mono fun _ _ h => h.1)
 have z4 := x14.size
 have z34 := x4.size
 have hob4 : u8s out ++ [.int .u8 (qR L a : Nat)] = u8s (out ++ [qR L a]) := by show _ = List.map _ (out ++ [qR L a]); rw [aLS] <;> rfl
 rw [hob4] at o4
 have o34 := o3.ext x4 (by omega)
 have o74 := o7.ext x14 (by omega)
 have l7 := fM (off := 0) (kB o74) (by simp)
 simp only [aLy, aLx, aLB] at l7
 have hrb4 := (hrb'.ext x14 (fun b h1 h2 => by omega)).ext (aW.dr _ eS) (fun _ _ _ h => h)
 have hBl : (aZ l).length = 8 * l.length := lZ l
 have htl : ((aZ l).take left).length = left := by rw [aLG]; omega
 simp (disch := omega) only [l7, aA, true_and]
 refine (aoG hrb4 (by omega) (by omega)).mono ?_
 rintro r w5 ⟨rfl, x5⟩
 have x45 : aW w4 w5 eS := (aW.dr _ _).seq x5
 have x15 : aW w1 w5 (fun y => w.heap.size <= y) := x14.seq (x45.mono fun _ _ h => h.elim)
 have xw5 := hos x15
 have z5 := x45.size
 rw [htl, show ((left : Nat) : Int) - ((0 : Nat) : Int) = left from by omega]
 have k1d := (kB o34).cell (off := 1)
 have k1 := (o34.ext x45 (fun h => h)).cell (off := 1)
 simp only [aLq, aLr] at k1 k1d
 have c85 := (ho8 xw5).cell (off := 1)
 simp only [aLq, aLr] at c85
 have o45 := o4.ext x45 (fun _ _ h => h)
 have o75 := o74.ext x45 (fun h => h)
 obtain ⟨f, hf⟩ : ∃ f, 256 - i = f + 1 := ⟨255 - i, by omega⟩
 rw [hf, stN] at hG
 by_cases hsh : left < lD L a
 .have d3 : decide ((left : Int) < ((lD L a : Nat) : Int)) = true := by simp only [decide_eq_true_eq]; omega
  rw [if_pos hsh] at hG
  have m0 := (hob xw5).cell (off := b' * 3)
  rw [aLR (by omega), htb.1] at m0
  simp (disch := omega) only [k1, aH, k1d, Result.ok.injEq, Next.value.injEq, and_true, c85, aA, bT, tb, aLt, bU, bO, m0, eQ, ewb, aR, d3, aG, true_and]
  refine aCQ o45 (by omega) (by omega) (by omega) fun v6 w6 o6 x6 => ?_
  have hob6 : u8s (out ++ [qR L a]) ++ [.int .u8 (qR L b' : Nat)] = u8s (out ++ [qR L a, qR L b']) := by show List.map _ (out ++ [qR L a]) ++ _ = List.map _ (out ++ [qR L a, qR L b']); rw [aLS, aLS, aLV] <;> rfl
  rw [hob6] at o6
  have o6l := o6.osl
  have hm2 : ∀ x ∈ out ++ [qR L a, qR L b'], x < 256 := fun x hx => by
   rcases aMb.1 hx with hx | hx
   .exact hout x hx
   .simp only [aMl, List.not_mem_nil, or_false] at hx
    rcases hx with rfl | rfl
    .exact hsa
    .exact hsb
  rw [<- V4 hm2] at o6l
  have hb6 : Bs w6 v6 (nX (out ++ [qR L a, qR L b'])) := o6l.sl
  obtain ⟨a6, c6, rfl⟩ := o6.len
  have x16 : aW w w6 (fun y => y = p7 ∨ w.heap.size <= y) := xw5.seq (x6.mono fun _ _ h => .inr h.1)
  by_cases h255 : 255 < out.length + 2
  .rw [if_pos h255] at hG
   have d4 : decide ((255 : Int) < ((i + 1 + 1 : Nat) : Int)) = true := by simp only [decide_eq_true_eq]; omega
   simp (disch := omega) only [aP, aA, cX, d4, aG]
   refine hR _ _ ?_ (x0n x16)
   rw [<- hG]; exact rfl
  .rw [if_neg h255] at hG
   have d4 : decide ((255 : Int) < ((i + 1 + 1 : Nat) : Int)) = false := by simp only [decide_eq_false_iff_not]; omega
   have hcv := iD hb6
   simp (disch := omega) only [aP, aA, cX, d4, hcv, aE]
   refine hR _ _ ?_ (x0n x16)
   rw [<- hG]; exact rfl
 .have d3 : decide ((left : Int) < ((lD L a : Nat) : Int)) = false := by simp only [decide_eq_false_iff_not]; omega
  rw [if_neg hsh] at hG
  have l8 := vQ (off := 0) (ho8 xw5) (by simp)
  have l75 := fM (off := 0) o75 (by simp)
  simp only [aLy, aLx, aLB] at l8 l75
  simp (disch := omega) only [k1, aH, k1d, Result.ok.injEq, Next.value.injEq, and_true, l8, aA, l75, aR, d3, aE, true_and]
  have hrb5 := hrb4.ext x5 (fun _ _ _ h => h)
  refine (aEk (b := b) (L := L) (s := a) ⟨cc, rest, rfl, hob xw5⟩ hv.low (by have := hv.len; omega) hrb5 (by omega) (by omega) (by omega)).mono ?_
  rintro r w6 ⟨bv6, rfl, hrb6, x6⟩
  have hrb6 := aIC (by omega) (by omega) hrb6
  have hln := sX ((aZ l).take left) (lD L a)
  obtain ⟨g1, g2⟩ := hv.nx a ha _ hln
  obtain ⟨c, hc⟩ : ∃ c : Nat, uW L a (qL ((aZ l).take left) (lD L a)) = c := ⟨_, (Int.toNat_of_nonneg g1).symm⟩
  rw [hc] at g2 hG ⊢
  rw [aLs] at g2 hG
  have hrb6' := hrb6
  obtain ⟨v6, rfl, hs6, hat6⟩ := hrb6
  obtain ⟨a6, c6, rfl, hc6⟩ := Ff hs6
  simp (disch := omega) only [pT, pS, aA]
  refine cL (o75.ext x6 (fun h => h)) rfl (by simp [one]) (by simp) fun w7 o7' x7 s7 => ?_
  simp only [bM, aLw, aLv] at o7'
  have x17 : aW w w7 (fun y => y = p7 ∨ w.heap.size <= y) := (xw5.seq (x6.mono fun _ _ h => h.elim)).seq (x7.mono fun _ _ h => .inl h)
  have o47 := (o45.ext x6 (fun _ _ h => h)).ext x7 (fun b h hh => by omega)
  refine ⟨f, by omega, i + 1, b', c, left - lD L a, out ++ [qR L a], v4, .agg #[.slice a6 ((aZ l).take (left - lD L a)).length c6, .int .i64 (0 : Nat)], by omega, rfl, by omega, by rw [aLz, hol] <;> rfl, hb', g2, by omega, o7', hrb6'.ext x7 (fun b h1 h2 => by omega), ?_, o47.osl, ?_, x17⟩
  .rw [show 256 - (i + 1) = f from by omega]; exact hG
  .intro x hx
   rcases aMb.1 hx with hx | hx
   .exact hout x hx
   .rw [aNg.1 hx]; exact hsa
theorem aFw {l : List UInt8} {left : Int} {n : Nat} (h1 : left <= 8 * l.length) :
 ((aZ l).take left.toNat).take (((aZ l).take left.toNat).length - min n ((aZ l).take left.toNat).length) = (aZ l).take (left - n).toNat /\
 (-left).toNat + (n - min n ((aZ l).take left.toNat).length) = (-(left - n)).toNat := by
 have hlen : ((aZ l).take left.toNat).length = left.toNat := by rw [aLG, lZ]; omega
 rw [hlen]
 constructor
 .rw [aNP]; congr 1; omega
 .omega
theorem aDq {x : ByteArray} {w : aNX} (hl : x.size <= 1000) :
 aS pg EX #[.string x] w (fun r w' => zB (vY (fU x)) r /\ aW w w' eS) := by
 refine alZ ?_
 obtain ⟨RR, hRR⟩ : ∃ RR : aNY -> aNX -> Prop, RR = fun r w' => zB (vY (fU x)) r /\ aW w w' eS := ⟨_, rfl⟩
 rw [<- hRR]
 have key : ∀ r w', zB (vY (fU x)) r -> aW w w' eS -> RR r w' := fun r w' h1 h2 => by rw [hRR]; exact ⟨h1, h2⟩
 have hll := eU x
 unfold alW J8 Kr
 refine (aDW (s := x) (most := 6) (sym := 12) (by omega) (by omega)).mono ?_
 rintro r w1 ⟨hr, x1⟩
 unfold vY at key
 cases hrd : CT (aZ (fU x)) 6 12 with
 | error e =>
   rw [hrd] at hr key
   have he := aoX hrd
   obtain rfl := hr
   have n1 : (e != 0) = true := by simp [he]
   simp (disch := omega) only [aD, Yc, Yy, Yk, aA, cY, jZ]
   refine wO fun w2 o2 x2 s2 => ?_
   refine sG o2 rfl (by simp [one]) (by simp) fun w3 o3 x3 s3 => ?_
   simp (disch := omega) only [n1, aG]
   exact key _ _ rfl (x1.seq (x2.new x3 (by omega)))
 | ok z =>
   obtain ⟨lg, ps, n⟩ := z
   rw [hrd] at hr key
   simp only at key
   obtain ⟨hmay, hlg6, hps12⟩ := azN hrd
   have hm := hmay (by omega)
   have hused := azA hrd
   rw [lZ] at hused
   obtain ⟨pv, rfl, op⟩ := hr
   obtain ⟨pa, pc, rfl⟩ := op.len
   have n1 : ((0 : Int) != 0) = false := rfl
   simp (disch := omega) only [aD, Yc, Yy, Yk, aA, cY, jZ, aLs]
   refine wO fun w2 o2 x2 s2 => ?_
   refine sG o2 rfl (by simp [one]) (by simp) fun w3 o3 x3 s3 => ?_
   simp only [bM, aLw, aLv] at o3
   have x13 : aW w1 w3 eS := x2.new x3 (by omega)
   have x03 := x1.seq x13
   have tn : (n : Int).toNat = n := aLs _
   have hle : fU (x.extract n x.size) = (fU x).drop n := by
    rw [BO, aL0 (by rw [aLM]; omega)]
   have hsz' : (x.extract n x.size).size = (fU x).length - n := by rw [<- eU, hle, aLM]
   simp (disch := omega) only [n1, aE]
   generalize x.extract n x.size = y at *
   have hdl : ((fU x).drop n).length <= 1000 := by rw [aLM]; omega
   rw [<- hle] at key hdl
   cases he : Yt (fU y) with
   | none =>
     rw [he] at key
     refine (ayR he (by omega)).mono ?_
     rintro r w4 ⟨rfl, x4⟩
     have n2 : ((11 : Int) != 0) = true := rfl
     simp (disch := omega) only [pT, pS, aA, cY]
     refine jV fun w5 o5 x5 s5 => ?_
     refine cL o5 rfl (by simp [one]) (by simp) fun w6 o6 x6 s6 => ?_
     simp (disch := omega) only [n2, aG]
     exact key _ _ rfl ((x03.seq x4).seq (x5.new x6 (by omega)))
   | some k =>
     rw [he] at key
     simp only at key
     have hk := H9 he
     refine (aA9 he (by omega)).mono ?_
     rintro r w4 ⟨bv, hi, rfl, hhi, hrb, x4⟩
     generalize fU y = l' at *
     have hrb' := hrb
     obtain ⟨v4, rfl, hs4, hat4⟩ := hrb
     obtain ⟨a4, c4, rfl, hc4⟩ := Ff hs4
     simp (disch := omega) only [pT, pS, aA, cY]
     refine jV fun w5 o5 x5 s5 => ?_
     refine cL o5 rfl (by simp [one]) (by simp) fun w6 o6 x6 s6 => ?_
     simp only [bM, aLw, aLv] at o6
     have x46 : aW w4 w6 eS := x5.new x6 (by omega)
     have x36 := x4.seq x46
     have l3 := qA (off := 0) (o3.ext x36 (fun h => h)) (by simp)
     simp only [aLy, aLx, aLB] at l3
     simp (disch := omega) only [n1, l3, aA, aE]
     have op6 := (op.ext x13 (fun _ _ h => h)).ext x36 (fun _ _ h => h)
     refine (aEV hm op6.sl).mono ?_
     rintro r w7 ⟨b, cc, rest, rfl, hb7, ob, x7⟩
     simp (disch := omega) only [pT, pS, aA, cY]
     refine BX fun w8 o8 x8 s8 => ?_
     refine AA o8 rfl (by simp [one]) (by simp) fun w9 o9 x9 s9 => ?_
     simp only [bM, aLw, aLv] at o9
     have x79 : aW w7 w9 eS := x8.new x9 (by omega)
     have x69 := x7.seq x79
     have z46 := x46.size
     have z4 := x4.size
     have z03 := x03.size
     have z7 := x7.size
     have z79 := x79.size
     have qb := ob.lt
     have q9 := o9.lt
     have q6 := o6.lt
     have o69 := o6.ext x69 (fun h => h)
     have ob9 := ob.ext x79 (fun h => h)
     have hrb9 := (hrb'.ext x46 (fun _ _ _ h => h)).ext x69 (fun _ _ _ h => h)
     have x09 := (x03.seq x36).seq x69
     have hN : (xF lg ps).length = 2 ^ lg := xE lg ps
     have h15 := hm.log15
     have hv := aeZ hm
     have hla := sX ((aZ l').take k) lg
     have hlb := sX ((aZ l').take (k - lg)) lg
     rw [<- hN] at hla hlb o9
     generalize xF lg ps = L at *
     have hlen := hv.len
     have l9 := vQ (off := 0) o9 (by simp)
     have l6 := fM (off := 0) o69 (by simp)
     simp only [aLy, aLx, aLB] at l9 l6
     simp (disch := omega) only [n1, l9, aA, l6, aE]
     have e0 : ((k : Int)).toNat = k := aLs k
     have e00 : (-(k : Int)).toNat = 0 := by omega
     have h1 : (k : Int) <= 8 * l'.length := by omega
     have hrs := aFw (n := lg) h1
     rw [e0, e00] at hrs
     have htk : ((aZ l').take k).length = k := by rw [aLG, lZ]; omega
     refine (azJ hrb9 (by omega) (by omega) (by omega) (by omega)).mono ?_
     rintro r w10 ⟨bv10, rfl, hrb10, x10⟩
     rw [hrs.1, hrs.2] at hrb10
     have hrb10' := hrb10
     obtain ⟨v10, rfl, hs10, hat10⟩ := hrb10
     obtain ⟨a10, c10, rfl, hc10⟩ := Ff hs10
     obtain ⟨a, ha⟩ : ∃ a, qL ((aZ l').take k) lg = a := ⟨_, rfl⟩
     obtain ⟨b', hb'⟩ : ∃ a, qL ((aZ l').take (k - lg)) lg = a := ⟨_, rfl⟩
     have ekl : ((k : Int) - lg).toNat = k - lg := by omega
     have htk2 : ((aZ l').take ((k : Int) - lg).toNat).length = k - lg := by rw [ekl, aLG, lZ]; omega
     rw [ha] at key hla ⊢
     rw [hb'] at key hlb
     simp (disch := omega) only [pT, pS, aA]
     refine cL (o69.ext x10 (fun h => h)) rfl (by simp [one]) (by simp) fun w11 o11 x11 s11 => ?_
     simp only [bM, aLw, aLv] at o11
     have x911 : aW w9 w11 (fun y => y = w4.heap.size) := (x10.mono fun _ _ h => h.elim).seq x11
     have l11 := fM (off := 0) o11 (by simp)
     have l911 := vQ (off := 0) (o9.ext x911 (by omega)) (by simp)
     simp only [aLy, aLx, aLB] at l11 l911
     simp (disch := omega) only [l911, aA, l11]
     have z10 := x10.size
     have z11 := x11.size
     have hrs2 := aFw (l := l') (left := (k : Int) - lg) (n := lg) (by omega)
     refine (azJ (hrb10'.ext x11 (fun b h1 h2 => by omega)) (by omega) (by omega) (by omega) (by omega)).mono ?_
     rintro r w12 ⟨bv12, rfl, hrb12, x12⟩
     rw [hrs2.1, hrs2.2] at hrb12
     rw [ekl, hb']
     have hrb12' := hrb12
     obtain ⟨v12, rfl, hs12, hat12⟩ := hrb12
     obtain ⟨a12, c12, rfl, hc12⟩ := Ff hs12
     simp (disch := omega) only [pT, pS, aA]
     refine cL (o11.ext x12 (fun h => h)) rfl (by simp [one]) (by simp) fun w13 o13 x13' s13 => ?_
     simp only [bM, aLw, aLv] at o13
     have x913 : aW w9 w13 (fun y => y = w4.heap.size) := (x911.seq (x12.mono fun _ _ h => h.elim)).seq x13'
     have l13 := fM (off := 0) o13 (by simp)
     simp only [aLy, aLx, aLB] at l13
     simp (disch := omega) only [l13, aA]
     have z12 := x12.size
     have z13 := x13'.size
     have hrb13 := hrb12'.ext x13' (fun b h1 h2 => by omega)
     have htk3 : ((aZ l').take ((k : Int) - lg - lg).toNat).length = ((k : Int) - lg - lg).toNat := by rw [aLG, lZ]; omega
     refine (aoG hrb13 (by omega) (by omega)).mono ?_
     rintro r w14 ⟨rfl, x14⟩
     rw [htk3, show ((((k : Int) - lg - lg).toNat : Nat) : Int) - ((-((k : Int) - lg - lg)).toNat : Nat) = (k : Int) - lg - lg from by omega]
     have x914 : aW w9 w14 (fun y => y = w4.heap.size) := x913.seq (x14.mono fun _ _ h => h.elim)
     have x014 : aW w w14 eS := x09.trans x914 fun y hy h => by omega
     by_cases hlt : k < 2 * lg
     .rw [if_pos hlt] at key
      have d1 : decide ((k : Int) - (lg : Nat) - (lg : Nat) < 0) = true := by simp only [decide_eq_true_eq]; omega
      simp (disch := omega) only [aR, d1, aA, aG]
      exact key _ _ rfl x014
     .rw [if_neg hlt] at key
      have d1 : decide ((k : Int) - (lg : Nat) - (lg : Nat) < 0) = false := by simp only [decide_eq_false_iff_not]; omega
      simp (disch := omega) only [aR, d1, aA, aE]
      have ek2 : ((k : Int) - lg - lg).toNat = k - 2 * lg := by omega
      have ek3 : (-((k : Int) - lg - lg)).toNat = 0 := by omega
      rw [ek2, ek3] at hrb13
      have z14 := x914.size
      refine auN (w0 := w) (left0 := k - 2 * lg) (L := L) (l := l') (bv := .agg #[.slice a12 ((aZ l').take ((k : Int) - lg - lg).toNat).length c12, .int .i64 ((-((k : Int) - lg - lg)).toNat : Nat)]) (G := stN L (aZ l') 256 a b' (k - 2 * lg) []) hv (by omega) (o9.ext x914 (by omega)) (ob9.ext x914 (by omega)) (o13.ext x14 (fun h => h))
       (by rw [ek2, ek3]; exact hrb13.ext x14 (fun _ _ _ h => h)) (by omega) hla hlb (by omega) rfl x014 fun r w' hG hx => ?_
      refine key _ _ ?_ hx
      cases hs : stN L (aZ l') 256 a b' (k - 2 * lg) [] with
      | none => rw [hs] at hG; exact hG
      | some m => rw [hs] at hG; exact hG
end Go.Proofs.YtgpimhlgaokobaaGreat
namespace Go.Pu
def aBf (ns : List Nat) (i last : Nat) : Prop := (last = 0 /\ ∀ j, j < i -> ns.getD j 0 = 0) ∨ (last < i /\ 0 < ns.getD last 0 /\ ∀ j, last < j -> j < i -> ns.getD j 0 = 0)
theorem aBf.step {ns : List Nat} {i last : Nat} (h : aBf ns i last) : aBf ns (i + 1) (if 0 < ns.getD i 0 then i else last) := by
 split
 .rename_i h0
  exact .inr ⟨by omega, h0, fun j h1 h2 => by omega⟩
 .rename_i h0
  rcases h with ⟨rfl, h⟩ | ⟨h1, h2, h3⟩
  .refine .inl ⟨rfl, fun j hj => ?_⟩
   rcases aLO j i with h' | h'
   .exact h j h'
   .have : j = i := by omega
    subst this; omega
  .refine .inr ⟨by omega, h2, fun j hj hj2 => ?_⟩
   rcases aLO j i with h' | h'
   .exact h3 j hj h'
   .have : j = i := by omega
    subst this; omega
theorem aBf.one {ns : List Nat} {i a b : Nat} (ha : aBf ns i a) (hb : aBf ns i b) : a = b := by
 rcases ha with ⟨rfl, h⟩ | ⟨h1, h2, h3⟩
 .rcases hb with ⟨rfl, _⟩ | ⟨k1, k2, _⟩
  .rfl
  .have := h b k1; omega
 .rcases hb with ⟨rfl, k⟩ | ⟨k1, k2, k3⟩
  .have := k a h1; omega
  .rcases aNQ a b with h | h | h
   .have := h3 b h k1; omega
   .exact h
   .have := k3 a h h1; omega
theorem aBS {ns : List Nat} {i : Nat} (h : i < ns.length) : ns.getD i 0 = ns[i] := by rw [aLE, aLA h] <;> rfl
theorem aGz {α : Type} {ns : List α} {i : Nat} (h : i < ns.length) : ns.take (i + 1) = ns.take i ++ [ns[i]] := by
 rw [aMq, aLA h] <;> rfl
theorem ayP {ns : List Nat} {i : Nat} (h : i < ns.length) : ns.take (i + 1) = ns.take i ++ [ns.getD i 0] := by rw [aGz h, aBS h]
end Go.Pu
namespace Go.Proofs.YtgpimhlgaokobaaGreat
open Go Go.En Go.Pu
set_option maxRecDepth 4000
def wrB (l : List Nat) : List Nat := (126 + l.length) :: CA (l.take (l.length - 1))
theorem axG (l : List Nat) : (wrB l).length = 1 + (l.length - 1 + 1) / 2 := by
 unfold wrB
 rw [aLP, Cm, aLG, aMm (by omega)]; omega
theorem aJY {l : List Nat} (h : ∀ x ∈ l, x <= 11) (hl : l.length <= 129) : ∀ x ∈ wrB l, x < 256 := by
 intro x hx
 rcases aMl.1 hx with rfl | hx
 .omega
 .obtain ⟨i, hi, rfl⟩ := aMX hx
  have h16 : ∀ y ∈ l.take (l.length - 1), y < 16 := fun y hy => by have := h y (aMS hy); omega
  rw [Cm] at hi
  rw [<- aBS (by rw [Cm]; exact hi), anN hi]
  have := akJ h16 (2 * i)
  have := akJ h16 (2 * i + 1)
  omega
theorem aH8 {l : List Nat} {d : Nat} (h : jF l = d) (hd : d ≠ 0) (hl : l.length <= 129) : ∃ (m : List Nat) (k : Nat), l = m ++ [k] /\ m.length = l.length - 1 /\ tP (mW (CA m) m.length) = some k /\ mW (CA m) m.length = m /\ l.take (l.length - 1) = m := by
 obtain ⟨h1, h2, h3, h4, h5, h6⟩ := yM h hd
 obtain ⟨m, k, rfl⟩ : ∃ m k, l = m ++ [k] := ⟨l.dropLast, l.getLast (by intro e; rw [e] at h3; simp at h3), (List.dropLast_concat_getLast _).symm⟩
 have hm16 : ∀ x ∈ m, x < 16 := fun x hx => by have := h1 x (aMG _ hx); omega
 have hp := aCY hm16
 refine ⟨m, k, rfl, by simp, by rw [hp]; exact azT h hd, hp, by simp⟩
theorem azI {base i x : Nat} {l0 n4 v' i6 : aNY} {cells : List aNY} {w : aNX} (o : tE w base 1 v' i cells) (hb : base <= w.heap.size) (hi : i <= 100000) (hx : x < 256) {kn : aNY -> aNY -> aNY -> aNY -> aNX -> Prop}
 (hK : ∀ v2 w2, tE w2 base 1 v2 (i + 1) (cells ++ [.int .u8 x]) -> aW w w2 (fun y => base <= y) -> kn l0 n4 v2 i6 w2) : yR kn l0 n4 v' i6 (.int .u8 x) w := by
 unfold yR
 obtain ⟨av, cv, rfl⟩ := o.len
 refine pD (cells := #[.int .u8 x]) (by decide) (by decide) (by kernel_rfl) fun w5 o5 x5 s5 => ?_
 have z5 := x5.size
 refine mJ (m := 1) (news := [.int .u8 x]) (o.ext x5 (fun _ _ h => h)) (o5.cl (off := 0) (l := [.int .u8 x]) (n := 1) rfl (fun i hi => by rw [aLt])) (by simp [one]) (by omega) (by omega) fun v6 w6 o6 x6 => ?_
 exact hK v6 w6 o6 ((x5.mono fun _ _ h => h.elim).seq x6)
theorem aD3 {v : aNY} {l : List UInt8} {w : aNX} (h : Bs w v l) (hl : l.length <= 100000) (hd : jF (cF l) = 0 ∨ 129 < l.length) :
 aS pg An #[v] w (fun r w' => r = .tuple #[.slice none 0 0, .int .i64 (if jF (cF l) = 0 then 1 else 12)] /\ w' = w) := by
 refine Ow ?_
 obtain ⟨a, n, c, rfl, hn, hc, hh⟩ := id h
 rw [aLD] at hn
 subst hn
 unfold RE A0 Bd
 refine (awF h hl).mono ?_
 rintro r w1 ⟨rfl, rfl⟩
 by_cases h0 : jF (cF l) = 0
 .have n1 : (((jF (cF l) : Nat) : Int) == 0) = true := by rw [h0] <;> rfl
  simp (disch := omega) only [aD, dV, n1, aP, aA, fF, aQ, bJ, eQ, cX, and_true, aG]
  rw [if_pos h0]
 .have n1 : (((jF (cF l) : Nat) : Int) == 0) = false := beq_eq_false_iff_ne.2 (by omega)
  have d1 : decide ((129 : Int) < (l.length : Int)) = true := by simp; omega
  simp (disch := omega) only [aD, dV, n1, aP, aA, fF, aQ, bJ, eQ, cX, d1, aG, and_true, aE]
  rw [if_neg h0]
theorem aHp {v : aNY} {l : List UInt8} {d : Nat} {w : aNX} (h : Bs w v l) (hd : jF (cF l) = d) (hd0 : d ≠ 0) (hl : l.length <= 129) :
 aS pg An #[v] w (fun r w' => ∃ v', r = .tuple #[v', .int .i64 0] /\ tE w' w.heap.size 1 v' (wrB (cF l)).length ((nX (wrB (cF l))).map tJ) /\ aW w w' eS) := by
 refine Ow ?_
 obtain ⟨hall, hd11, hl2, hl256, hlast, hsum⟩ := yM hd hd0
 have hnl := kC l
 obtain ⟨b, off, c, rfl, hc, hcell⟩ := O9 h (by omega)
 unfold RE A0 Bd
 refine (awF h (by omega)).mono ?_
 rintro r w1 ⟨rfl, rfl⟩
 rw [hd]
 have n1 : ((d : Int) == 0) = false := beq_eq_false_iff_ne.2 (by omega)
 have d1 : decide ((129 : Int) < (l.length : Int)) = false := by simp; omega
 have e1 : (l.length : Int) - 1 = ((l.length - 1 : Nat) : Int) := by omega
 have e2 : (127 : Int) + ((l.length - 1 : Nat) : Int) = ((126 + l.length : Nat) : Int) := by omega
 have e8 : IntKind.u8.wrap ((126 + l.length : Nat) : Int) = ((126 + l.length : Nat) : Int) := xL (by omega) (by omega)
 simp (disch := omega) only [aD, dV, n1, aP, aA, fF, e1, aQ, bJ, e2, eQ, e8, cX, d1, aE]
 refine pD (cells := #[.int .u8 (126 + l.length : Nat)]) (by decide) (by decide) (by kernel_rfl) fun w2 o2 x2 s2 => ?_
 obtain ⟨m, hm⟩ : ∃ m, m = (cF l).take (l.length - 1) := ⟨_, rfl⟩
 have hml : m.length = l.length - 1 := by rw [hm, aLG, hnl]; omega
 have hmg : ∀ i, i < l.length - 1 -> m.getD i 0 = (cF l).getD i 0 := fun i hi => by
  rw [hm, aLE, aLE, aMg hi]
 have hm11 : ∀ x ∈ m, x <= 11 := fun x hx => by rw [hm] at hx; have := hall x (aMS hx); omega
 have hm16 : ∀ x ∈ m, x < 16 := fun x hx => by have := hm11 x hx; omega
 have hwr : wrB (cF l) = (126 + l.length) :: CA m := by unfold wrB; rw [hnl, hm]
 have hpl := Cm m
 have ho2 : tE w2 w1.heap.size 1 (.slice (some ⟨w1.heap.size, 0, none⟩) 1 1) (0 + 1) ((nX ((126 + l.length) :: (CA m).take 0)).map tJ) := by
  refine ⟨by simp, .inr ⟨_, 1, [], rfl, aLF _, ?_, rfl, aLF _⟩⟩
  simp only [nX, aLB, aME, aNM, awS (show 126 + l.length < 256 by omega), aMd]
  exact o2
 unfold F3 Gr FI GJ FO
 refine cR.rule (fun q (t : aNY × aNY) w' => ∃ (j : Nat) (v' : aNY), q = l.length - 1 + 1 - j /\ t = (v', .int .i64 (2 * j : Nat)) /\ j <= (m.length + 1) / 2 /\ tE w' w1.heap.size 1 v' (j + 1) ((nX ((126 + l.length) :: (CA m).take j)).map tJ) /\ aW w1 w' eS) (l.length - 1 + 1)
  ⟨0, _, rfl, rfl, by omega, ho2, x2⟩ ?_
 rintro q t w3 ⟨j, v', rfl, rfl, hj, o3, x3⟩
 have z3 := x3.size
 unfold Cg H6
 by_cases hlt : 2 * j < l.length - 1
 .have d2 : decide (((2 * j : Nat) : Int) < ((l.length - 1 : Nat) : Int)) = true := by simp only [decide_eq_true_eq]; omega
  obtain ⟨_, _, _, he, _, hcell3⟩ := O9 (h.ext x3 (bY _)) (by omega)
  cases he
  have g1 := hcell3 (2 * j) (by omega)
  have hg1 := aDA (l := l) (i := 2 * j) (by omega)
  rw [<- hg1, <- hmg (2 * j) hlt] at g1
  have hs1 := ayP (ns := CA m) (i := j) (by omega)
  rw [anN (by omega)] at hs1
  have hx11 : m.getD (2 * j) 0 <= 11 := hm11 _ (tX (by omega))
  have hy11 := akJ hm16 (2 * j + 1)
  have e3 : ((2 * j : Nat) : Int) + 1 = ((2 * j + 1 : Nat) : Int) := by omega
  have hcells : ∀ z : Nat, z = m.getD (2 * j) 0 * 16 + m.getD (2 * j + 1) 0 -> z < 256 -> ((nX ((126 + l.length) :: (CA m).take j)).map tJ ++ [.int .u8 z]) = (nX ((126 + l.length) :: (CA m).take (j + 1))).map tJ := fun z hz hz2 => by
   rw [hs1, <- hz]
   simp only [nX, aLS, aME, aNM, awS hz2, aMp]
  have hodd : ¬ 2 * j + 1 < l.length - 1 -> m.getD (2 * j + 1) 0 = 0 := fun h => by
   rw [aLE, aLH (by omega)] <;> rfl
  have g2 : 2 * j + 1 < l.length - 1 -> w3.cell? ⟨b, off + (2 * j + 1), none⟩ = some (.int .u8 (m.getD (2 * j + 1) 0 : Nat)) := fun h => by
   have := hcell3 (2 * j + 1) (by omega)
   rw [<- aDA (l := l) (i := 2 * j + 1) (by omega), <- hmg (2 * j + 1) h] at this
   exact this
  generalize m.getD (2 * j) 0 = x at *
  generalize m.getD (2 * j + 1) 0 = y at *
  have t4 : (4 : Int).toNat = 4 := rfl
  have e4 : IntKind.u8.wrap ((x : Int) * 2 ^ (min 4 IntKind.u8.bits)) = ((x * 16 : Nat) : Int) := by
   rw [show min 4 IntKind.u8.bits = 4 from rfl]
   have : (x : Int) * 2 ^ 4 = ((x * 16 : Nat) : Int) := by omega
   rw [this]
   exact xL (by omega) (by omega)
  unfold HQ Hw Tt Iu
  by_cases h2 : 2 * j + 1 < l.length - 1
  .have d3 : decide (((2 * j + 1 : Nat) : Int) < ((l.length - 1 : Nat) : Int)) = true := by simp only [decide_eq_true_eq]; omega
   have g2 := g2 h2
   have e5 := ayI (a := x * 16) (b := y) (by omega) (by omega)
   have e6 : x * 16 ||| y = x * 16 + y := by
    rw [Nat.or_comm]
    have := azQ (x := y) (i := 4) (by omega) x
    rw [show x * 2 ^ 4 = x * 16 from rfl] at this
    rw [this]; omega
   rw [e6] at e5
   simp (disch := omega) only [aD, aR, d2, dO, aLs, bJ, e3, aQ, aA, iJ, d3, aG, g1, aH, pG, t4, e4, g2, LC, e5]
   refine azI (x := x * 16 + y) o3 (by omega) (by omega) (by omega) fun v4 w4 o4 x4 => ?_
   rw [hcells _ rfl (by omega)] at o4
   unfold yD
   have e7 : ((2 * j : Nat) : Int) + 2 = ((2 * (j + 1) : Nat) : Int) := by omega
   simp (disch := omega) only [aD, bJ, e7, aQ, aA]
   exact ⟨l.length - 1 + 1 - (j + 1), by omega, j + 1, _, rfl, rfl, by omega, o4, x3.trans x4 fun b hb h => by omega⟩
  .have d3 : decide (((2 * j + 1 : Nat) : Int) < ((l.length - 1 : Nat) : Int)) = false := by simp only [decide_eq_false_iff_not]; omega
   have hy0 := hodd h2
   simp (disch := omega) only [aD, aR, d2, dO, aLs, bJ, e3, aQ, aA, iJ, d3, aE, g1, aH, pG, t4, e4, aG]
   refine azI (x := x * 16) o3 (by omega) (by omega) (by omega) fun v4 w4 o4 x4 => ?_
   rw [hcells _ (by omega) (by omega)] at o4
   unfold yD
   have e7 : ((2 * j : Nat) : Int) + 2 = ((2 * (j + 1) : Nat) : Int) := by omega
   simp (disch := omega) only [aD, bJ, e7, aQ, aA]
   exact ⟨l.length - 1 + 1 - (j + 1), by omega, j + 1, _, rfl, rfl, by omega, o4, x3.trans x4 fun b hb h => by omega⟩
 .have d2 : decide (((2 * j : Nat) : Int) < ((l.length - 1 : Nat) : Int)) = false := by simp only [decide_eq_false_iff_not]; omega
  have hjE : j = (CA m).length := by omega
  rw [aL0 (by omega), <- hwr] at o3
  have hwl : (wrB (cF l)).length = j + 1 := by rw [hwr, aLP]; omega
  unfold Co
  simp (disch := omega) only [aD, aR, d2, aA, aE]
  exact ⟨v', rfl, by rw [hwl]; exact o3, x3⟩
theorem Jk (x : ByteArray) : (cF (fU x)).length = x.size := by rw [kC, eU]
theorem agT {x : ByteArray} {i : Nat} (h : i < x.size) : (x[i]'h).toNat = (cF (fU x)).getD i 0 := by
 rw [aDA (by rw [eU]; exact h), <- MD]
theorem ayV {x : ByteArray} {w : aNX} (hl : x.size <= 100000) :
 aS pg CU #[.string x] w (fun r w' => r = .int .i64 (if rH 11 (cF (fU x)) = true then (dU (cF (fU x)) : Nat) else -1) /\ w' = w) := by
 refine aqJ ?_
 have hsz := Jk x
 obtain ⟨l, hlx⟩ : ∃ l, cF (fU x) = l := ⟨_, rfl⟩
 rw [hlx] at hsz ⊢
 unfold asM LN JJ O5 OO Nw Ou Pj
 refine cR.rule (fun m (t : aNY × aNY) w' => ∃ i : Nat, m = x.size - i /\ t = (.int .i64 (dU (l.take i) : Nat), .int .i64 i) /\ i <= x.size /\ rH 11 (l.take i) = true /\ w' = w) x.size
  ⟨0, rfl, by simp [dU], by omega, by simp [rH], rfl⟩ ?_
 rintro m t w1 ⟨i, rfl, rfl, hi, hle, rfl⟩
 unfold GY Om
 by_cases hlt : i < x.size
 .have d1 : decide ((i : Int) < (x.size : Int)) = true := by simp; omega
  have hg := agT hlt
  rw [hlx] at hg
  have ht := ayP (ns := l) (i := i) (by omega)
  have hwl := IA (rS.1 hle)
  rw [aLG] at hwl
  have hsn : rH 11 (l.take (i + 1)) = (rH 11 (l.take i) && decide (l.getD i 0 <= 11)) := by rw [ht, azW]
  have hwn : dU (l.take (i + 1)) = dU (l.take i) + G2 (l.getD i 0) := by rw [ht, CP, pC] <;> rfl
  have hbad : rH 11 (l.take (i + 1)) = false -> rH 11 l = false := axS
  have hy : l.getD i 0 < 256 := by rw [<- hlx]; exact Qn _ _ (tX (by rw [Jk]; exact hlt))
  generalize l.getD i 0 = y at *
  unfold Gp
  by_cases h11 : 11 < y
  .have d2 : decide ((11 : Int) < (y : Int)) = true := by simp; omega
   have hf := hbad (by rw [hsn, hle, decide_eq_false (by omega)] <;> rfl)
   simp (disch := omega) only [aD, dL, iS, aLs, hg, bJ, aQ, aA, dT, fF, cX, d2, aG, aR, d1, and_true]
   rw [hf]; simp
  .have d2 : decide ((11 : Int) < (y : Int)) = false := by simp; omega
   have hle1 : rH 11 (l.take (i + 1)) = true := by rw [hsn, hle, decide_eq_true (by omega)] <;> rfl
   have hwp := aBR (w := y) (by omega)
   by_cases h0 : 0 < y
   .have d3 : decide ((0 : Int) < (y : Int)) = true := by simp; omega
    have e1 : (y : Int) - 1 = ((y - 1 : Nat) : Int) := by omega
    have hpw : G2 y = 2 ^ (y - 1) := by unfold G2; rw [if_neg (by omega)]
    have hpow : ((2 ^ (y - 1) : Nat) : Int) = (2 : Int) ^ (y - 1) := by simp
    have e2 : ((dU (l.take i) : Nat) : Int) + ((2 ^ (y - 1) : Nat) : Int) = ((dU (l.take i) + 2 ^ (y - 1) : Nat) : Int) := by omega
    rw [hpw] at hwp hwn
    simp (disch := omega) only [aD, dL, iS, aLs, hg, bJ, aQ, aA, dT, fF, e1, cX, d3, aG, d2, aE, aR, d1]
    refine (IG (y - 1) (by omega) w1).mono ?_
    rintro r w2 ⟨rfl, rfl⟩
    rw [<- hpow]
    simp (disch := omega) only [bJ, e2, aQ, aA, and_true]
    exact ⟨x.size - (i + 1), by omega, i + 1, rfl, by rw [hwn] <;> rfl, by omega, hle1⟩
   .have d3 : decide ((0 : Int) < (y : Int)) = false := by simp; omega
    have hpw : G2 y = 0 := by unfold G2; rw [if_pos (by omega)]
    simp (disch := omega) only [aD, dL, iS, aLs, hg, bJ, aQ, aA, dT, fF, cX, d3, aE, d2, aR, d1, and_true, aG]
    exact ⟨x.size - (i + 1), by omega, i + 1, rfl, by rw [hwn, hpw] <;> rfl, by omega, hle1⟩
 .have d1 : decide ((i : Int) < (x.size : Int)) = false := by simp; omega
  obtain rfl : i = x.size := by omega
  rw [aL0 (by omega)] at *
  unfold GU
  simp (disch := omega) only [aD, dL, aA, aR, d1, and_true, aE]
  rw [hle]; simp
theorem awW (x : Int) (w : aNX) : aS pg Jf #[.int .i64 x] w (fun r w' => ((∃ d : Nat, d < 20 /\ x = (2 : Int) ^ d /\ r = .int .i64 d) ∨ ((∀ d : Nat, d < 20 -> x ≠ (2 : Int) ^ d) /\ r = .int .i64 (-1))) /\ w' = w) := by
 refine axO ?_
 unfold aAP T4 T5 Uc Us T9 T2 Uf
 refine cR.rule (fun m (t : aNY) w' => ∃ d : Nat, m = 20 - d /\ t = .int .i64 d /\ d <= 20 /\ (∀ e : Nat, e < d -> x ≠ (2 : Int) ^ e) /\ w' = w) 20 ⟨0, rfl, rfl, by omega, fun e h => by omega, rfl⟩ ?_
 rintro m t w1 ⟨d, rfl, rfl, hd, hno, rfl⟩
 unfold MJ
 by_cases hlt : d < 20
 .have d1 : decide ((d : Int) < 20) = true := by simp; omega
  simp (disch := omega) only [aD, aR, d1, bJ, aQ, aA, aG]
  refine (IG d (by omega) w1).mono ?_
  rintro r w2 ⟨rfl, rfl⟩
  by_cases he : (2 : Int) ^ d = x
  .have d2 : ((2 : Int) ^ d == x) = true := by simpa using he
   simp (disch := omega) only [dV, d2, aA, and_true, aG]
   exact .inl ⟨d, hlt, he.symm, rfl⟩
  .have d2 : ((2 : Int) ^ d == x) = false := by simpa using he
   simp (disch := omega) only [dV, d2, aA, and_true, aE]
   refine ⟨20 - (d + 1), by omega, d + 1, rfl, rfl, by omega, fun e h => ?_⟩
   rcases aLO e d with h' | h'
   .exact hno e h'
   .have : e = d := by omega
    subst this; exact fun h => he h.symm
 .have d1 : decide ((d : Int) < 20) = false := by simp; omega
  unfold Mm
  simp (disch := omega) only [aD, aR, d1, bJ, aQ, aA, and_true, aE]
  exact .inr (fun e h => hno e (by omega))
theorem aFn {s : Nat} (h0 : 0 < s) (hs : s < 2 ^ 20) {r : aNY} (h : (∃ d : Nat, d < 20 /\ (s : Int) = (2 : Int) ^ d /\ r = .int .i64 d) ∨ ((∀ d : Nat, d < 20 -> (s : Int) ≠ (2 : Int) ^ d) /\ r = .int .i64 (-1))) :
 (2 ^ s.log2 = s /\ r = .int .i64 (s.log2 : Nat)) ∨ (2 ^ s.log2 ≠ s /\ r = .int .i64 (-1)) := by
 rcases h with ⟨d, h1, h2, h3⟩ | ⟨h1, h2⟩
 .have : s = 2 ^ d := by
   have e : ((2 ^ d : Nat) : Int) = (2 : Int) ^ d := by simp
   omega
  subst this
  rw [aNA]
  exact .inl ⟨rfl, h3⟩
 .refine .inr ⟨fun he => ?_, h2⟩
  have hl : s.log2 < 20 := (Nat.log2_lt (by omega)).2 hs
  apply h1 _ hl
  have e : ((2 ^ s.log2 : Nat) : Int) = (2 : Int) ^ s.log2 := by simp
  rw [<- e, he]
theorem axT {x : ByteArray} {w : aNX} (hl : x.size <= 100000) :
 aS pg IZ #[.string x] w (fun r w' => r = .int .i64 (jF (cF (fU x)) : Nat) /\ w' = w) := by
 refine amU ?_
 have hsz := Jk x
 obtain ⟨l, hlx⟩ : ∃ l, cF (fU x) = l := ⟨_, rfl⟩
 have hnl := hlx
 rw [hlx] at hsz ⊢
 have no : ¬ (rH 11 l = true /\ 2 <= l.length /\ l.length <= 256 /\ l.getLast? ≠ some 0 /\ 2 ^ (dU l).log2 = dU l /\ (dU l).log2 <= 11 /\ rH (dU l).log2 l = true) -> jF l = 0 := fun h => by
  unfold jF; rw [if_neg h]
 unfold atJ OD Og
 by_cases h2 : x.size < 2
 .have d2 : decide ((x.size : Int) < 2) = true := by simp; omega
  have := no (by omega)
  simp (disch := omega) only [aD, dL, aA, aR, d2, iT, bF, if_true, aG, cV, and_true]
  rw [this] <;> rfl
 have d2 : decide ((x.size : Int) < 2) = false := by simp; omega
 by_cases h3 : 256 < x.size
 .have d3 : decide ((256 : Int) < (x.size : Int)) = true := by simp; omega
  have := no (by omega)
  simp (disch := omega) only [aD, dL, aA, aR, d2, cW, bF, aLu, if_false, bL, cX, d3, iT, if_true, aG, cV, and_true]
  rw [this] <;> rfl
 have d3 : decide ((256 : Int) < (x.size : Int)) = false := by simp; omega
 have e1 : (x.size : Int) - 1 = ((x.size - 1 : Nat) : Int) := by omega
 have hg := agT (x := x) (i := x.size - 1) (by omega)
 rw [hlx] at hg
 have hlast : l.getLast? = some (l.getD (x.size - 1) 0) := by
  rw [aNl, hsz, aLE, aLA (by omega)] <;> rfl
 have hmem : l.getD (x.size - 1) 0 ∈ l := tX (by omega)
 generalize l.getD (x.size - 1) 0 = y at *
 by_cases h4 : y = 0
 .have d4 : ((y : Int) == 0) = true := by rw [h4] <;> rfl
  have := no (fun h => h.2.2.2.1 (by rw [hlast, h4]))
  simp (disch := omega) only [aD, dL, aA, aR, d2, cW, bF, aLu, if_false, bL, cX, d3, fF, e1, aQ, iS, aLs, hg, dV, d4, and_true, aG]
  rw [this] <;> rfl
 have d4 : ((y : Int) == 0) = false := beq_eq_false_iff_ne.2 (by omega)
 have hwp := alE hmem
 have hwx : 1 <= G2 y := by unfold G2; rw [if_neg h4]; exact Nat.one_le_two_pow
 have hlast' : l.getLast? ≠ some 0 := fun h => by rw [hlast] at h; exact h4 (aLT h)
 simp (disch := omega) only [aD, dL, aA, aR, d2, cW, bF, aLu, if_false, bL, cX, d3, fF, e1, aQ, iS, aLs, hg, dV, d4, and_true, aE]
 refine (ayV hl).mono ?_
 rintro r w1 ⟨rfl, rfl⟩
 rw [hnl]
 cases hok : rH 11 l with
 | false =>
   have := no (by rw [hok]; simp)
   simp only [aLu, if_false]
   refine (awW (-1) w1).mono ?_
   rintro r w2 ⟨hlog, rfl⟩
   have hr : r = .int .i64 (-1) := by
    rcases hlog with ⟨d, _, h, _⟩ | ⟨_, h⟩
    .have : (0 : Int) < (2 : Int) ^ d := Int.pow_pos (by omega)
     omega
    .exact h
   subst hr
   have d5 : decide ((-1 : Int) < 1) = true := rfl
   simp (disch := omega) only [aR, d5, aA, iT, bF, if_true, aG, cV, and_true]
   rw [this] <;> rfl
 | true =>
   have hw := IA (rS.1 hok)
   simp only [if_true]
   refine (awW _ w1).mono ?_
   rintro r w2 ⟨hlog, rfl⟩
   obtain ⟨s, hs⟩ : ∃ s, dU l = s := ⟨_, rfl⟩
   rw [hs] at no hw hwp hlog
   rcases aFn (by omega) (by omega) hlog with ⟨hp, rfl⟩ | ⟨hp, rfl⟩
   .have hlg : s.log2 < 20 := (Nat.log2_lt (by omega)).2 (by omega)
    by_cases h5 : s.log2 < 1
    .have d5 : decide (((s.log2 : Nat) : Int) < 1) = true := by simp; omega
     have hz : jF l = 0 := by
      unfold jF; rw [hs]
      split
      .omega
      .rfl
     simp (disch := omega) only [aR, d5, aA, iT, bF, if_true, aG, cV, and_true]
     rw [hz] <;> rfl
    have d5 : decide (((s.log2 : Nat) : Int) < 1) = false := by simp; omega
    by_cases h6 : 11 < s.log2
    .have d6 : decide ((11 : Int) < ((s.log2 : Nat) : Int)) = true := by simp; omega
     have := no (by omega)
     simp (disch := omega) only [aR, d5, aA, cW, bF, aLu, if_false, bL, cX, d6, and_true, aG]
     rw [this] <;> rfl
    have d6 : decide ((11 : Int) < ((s.log2 : Nat) : Int)) = false := by simp; omega
    simp (disch := omega) only [aR, d5, aA, cW, bF, aLu, if_false, bL, cX, d6, and_true, aE]
    unfold ON PT Pz PG Nj
    refine cR.rule (fun m (t : aNY) w' => ∃ i : Nat, m = x.size - i /\ t = .int .i64 i /\ i <= x.size /\ (∀ j, j < i -> l.getD j 0 <= s.log2) /\ w' = w2) x.size ⟨0, rfl, rfl, by omega, fun j h => by omega, rfl⟩ ?_
    rintro m t w3 ⟨i, rfl, rfl, hi, hle, rfl⟩
    unfold G6
    by_cases hlt : i < x.size
    .have d7 : decide ((i : Int) < (x.size : Int)) = true := by simp; omega
     have hgi := agT hlt
     rw [hnl] at hgi
     have hz256 : l.getD i 0 < 256 := by rw [<- hnl]; exact Qn _ _ (tX (by rw [Jk]; exact hlt))
     have hzm : l.getD i 0 ∈ l := tX (by omega)
     generalize hzz : l.getD i 0 = z at *
     by_cases h8 : s.log2 < z
     .have d8 : decide (((s.log2 : Nat) : Int) < (z : Int)) = true := by simp; omega
      have := no (fun h => by have := rS.1 h.2.2.2.2.2.2 z hzm; omega)
      simp (disch := omega) only [aD, dL, iS, aLs, hgi, bJ, aQ, aA, dT, cX, d8, aG, aR, d7, and_true]
      rw [this] <;> rfl
     .have d8 : decide (((s.log2 : Nat) : Int) < (z : Int)) = false := by simp; omega
      simp (disch := omega) only [aD, dL, iS, aLs, hgi, bJ, aQ, aA, dT, cX, d8, aE, aR, d7, and_true, aG]
      refine ⟨x.size - (i + 1), by omega, i + 1, rfl, rfl, by omega, fun j hj => ?_⟩
      rcases aLO j i with h' | h'
      .exact hle j h'
      .have : j = i := by omega
       subst this; omega
    .have d7 : decide ((i : Int) < (x.size : Int)) = false := by simp; omega
     have hyes : jF l = s.log2 := by
      unfold jF
      rw [hs, if_pos ⟨hok, by omega, by omega, hlast', hp, by omega, rS.2 fun y hy => by
        obtain ⟨j, hj, rfl⟩ := aMX hy
        rw [<- aBS hj]; exact hle j (by omega)⟩]
     unfold Fx
     simp (disch := omega) only [aD, dL, bJ, aQ, aA, aR, d7, and_true, aE]
     rw [hyes]
   .have := no (fun h => hp h.2.2.2.2.1)
    have d5 : decide ((-1 : Int) < 1) = true := rfl
    simp (disch := omega) only [aR, d5, aA, iT, bF, if_true, aG, cV, and_true]
    rw [this] <;> rfl
theorem aJv {base i x : Nat} {v : aNY} {cells : List aNY} {w : aNX} (o : tE w base 1 v i cells) (hb : base <= w.heap.size) (hi : i <= 100000) {K : aNY -> aNX -> Prop}
 (hK : ∀ v2 w2, tE w2 base 1 v2 (i + 1) (cells ++ [.int .u8 x]) -> aW w w2 (fun y => base <= y) -> K v2 w2) :
 aD pg (cU 22 1 [(0, .int .u8 x)]) w fun t w => aD pg (lI .append #[22, 22] 22 [v, t]) w fun t' w => K t' w := by
 refine pD (cells := #[.int .u8 x]) (by decide) (by decide) (by kernel_rfl) fun w5 o5 x5 s5 => ?_
 have z5 := x5.size
 refine mJ (m := 1) (news := [.int .u8 x]) (o.ext x5 (fun _ _ h => h)) (o5.cl (off := 0) (l := [.int .u8 x]) (n := 1) rfl (fun i hi => by rw [aLt])) (by simp [one]) (by omega) (by omega) fun v6 w6 o6 x6 => ?_
 exact hK v6 w6 o6 ((x5.mono fun _ _ h => h.elim).seq x6)
theorem aCZ {x : ByteArray} {n : Nat} {w : aNX} (hl : x.size <= 10000) (hn : n <= 1000) :
 aS pg EV #[.string x, .int .i64 n] w (fun r w' => ((x.size < (n + 1) / 2 /\ r = .tuple #[.string ⟨#[]⟩, .int .i64 10]) ∨
  ((n + 1) / 2 <= x.size /\ r = .tuple #[.string ⟨(nX (mW (cF (fU x)) n)).toArray⟩, .int .i64 0])) /\ aW w w' eS) := by
 refine akX ?_
 have hsz := Jk x
 unfold afM Hx HP
 have e1 : (2 : Int) * (x.size : Int) = ((2 * x.size : Nat) : Int) := by omega
 by_cases hsh : x.size < (n + 1) / 2
 .have d1 : decide (((2 * x.size : Nat) : Int) < (n : Int)) = true := by simp only [decide_eq_true_eq]; omega
  simp (disch := omega) only [aD, dL, and_true, aA, oS, e1, aQ, aR, d1, aG]
  exact ⟨.inl hsh, aW.refl _ _⟩
 have d1 : decide (((2 * x.size : Nat) : Int) < (n : Int)) = false := by simp only [decide_eq_false_iff_not]; omega
 simp (disch := omega) only [aD, dL, and_true, aA, oS, e1, aQ, aR, d1, aE]
 unfold LA LJ KO JH JW
 have hlt := Qn (fU x)
 refine cR.rule (fun m (t : aNY × aNY) w' => ∃ (i : Nat) (v' : aNY), m = n - i /\ t = (v', .int .i64 i) /\ i <= n /\ tE w' w.heap.size 1 v' i (u8s (mW (cF (fU x)) i)) /\ aW w w' eS) n
  ⟨0, _, rfl, rfl, by omega, tE.nil _ _ _, aW.refl _ _⟩ ?_
 rintro m t w1 ⟨i, v', rfl, rfl, hi, o1, x1⟩
 have z1 := x1.size
 unfold DE JG
 by_cases hlt2 : i < n
 .have d2 : decide ((i : Int) < (n : Int)) = true := by simp; omega
  have e3 : (i : Int).tdiv 2 = ((i / 2 : Nat) : Int) := by rw [aLK (by omega)]; omega
  have e4 : (i : Int).tmod 2 = ((i % 2 : Nat) : Int) := by rw [aLU (by omega)]; omega
  have hi2 : i / 2 < x.size := by omega
  have g1 := agT (x := x) (i := i / 2) hi2
  have t2 : ((i / 2 : Nat) : Int).toNat = i / 2 := aLs _
  have hs := aiT (cF (fU x)) i
  have hf : Wb (cF (fU x)) i = if i % 2 = 0 then (cF (fU x)).getD (i / 2) 0 / 16 else (cF (fU x)).getD (i / 2) 0 % 16 := rfl
  have hc : (cF (fU x)).getD (i / 2) 0 < 256 := hlt _ (tX (by omega))
  have hcells : u8s (mW (cF (fU x)) i) ++ [.int .u8 (Wb (cF (fU x)) i : Nat)] = u8s (mW (cF (fU x)) (i + 1)) := by
   rw [hs]; show _ = List.map _ (_ ++ _); rw [aLS] <;> rfl
  generalize (cF (fU x)).getD (i / 2) 0 = c at *
  generalize Wb (cF (fU x)) i = y at *
  by_cases hev : i % 2 = 0
  .have n2 : (((i % 2 : Nat) : Int) == 0) = true := by rw [hev] <;> rfl
   rw [if_pos hev] at hf
   have e5 : (c : Int).tdiv 16 = (y : Int) := by rw [aLK (by omega)]; omega
   have e6 : IntKind.u8.wrap (y : Int) = (y : Int) := xL (by omega) (by omega)
   simp (disch := omega) only [aD, aR, d2, rL, e4, oY, e3, aQ, aA, iS, t2, g1, e5, e6, dV, n2, aG]
   refine aJv o1 (by omega) (by omega) fun v2 w2 o2 x2 => ?_
   rw [hcells] at o2
   unfold Ag
   simp (disch := omega) only [aD, bJ, aQ, aA]
   exact ⟨n - (i + 1), by omega, i + 1, _, rfl, rfl, by omega, o2, x1.trans x2 fun b hb h => by omega⟩
  .have n2 : (((i % 2 : Nat) : Int) == 0) = false := beq_eq_false_iff_ne.2 (by omega)
   rw [if_neg hev] at hf
   have e5 : (c : Int).tmod 16 = (y : Int) := by rw [aLU (by omega)]; omega
   have e6 : IntKind.u8.wrap (y : Int) = (y : Int) := xL (by omega) (by omega)
   simp (disch := omega) only [aD, aR, d2, rL, e4, oY, e3, aQ, aA, iS, t2, g1, e5, dV, n2, aE, aG]
   refine aJv o1 (by omega) (by omega) fun v2 w2 o2 x2 => ?_
   rw [hcells] at o2
   unfold Ag
   simp (disch := omega) only [aD, bJ, aQ, aA]
   exact ⟨n - (i + 1), by omega, i + 1, _, rfl, rfl, by omega, o2, x1.trans x2 fun b hb h => by omega⟩
 .have d2 : decide ((i : Int) < (n : Int)) = false := by simp; omega
  obtain rfl : i = n := by omega
  unfold Db
  rw [<- V4 fun y hy => by have := acT hlt i y hy; omega] at o1
  have hb1 : Bs w1 v' (nX (mW (cF (fU x)) i)) := o1.sl
  have hcv := iD hb1
  simp (disch := omega) only [aD, aR, d2, rL, oY, aA, dV, hcv, and_true, aE]
  exact ⟨.inr (by omega), x1⟩
def axQ (x : ByteArray) (o : Option Nat) (r : aNY) : Prop := match o with
 | none => r = .tuple #[.string ⟨#[]⟩, .int .i64 11]
 | some k => ∃ y : ByteArray, fU y = fU x ++ [UInt8.ofNat k] /\ r = .tuple #[.string y, .int .i64 0]
theorem aDQ {x : ByteArray} {w : aNX} (hl : x.size <= 100000) :
 aS pg IK #[.string x] w (fun r w' => axQ x (tP (cF (fU x))) r /\ aW w w' eS) := by
 refine aqW ?_
 have hsz := Jk x
 obtain ⟨l, hnl⟩ : ∃ l, cF (fU x) = l := ⟨_, rfl⟩
 rw [hnl] at hsz ⊢
 have no : ¬ (rH 11 l = true /\ 1 <= l.length /\ l.length <= 255 /\ 0 < dU l /\ bl (dU l) <= 11 /\ 2 ^ (2 ^ bl (dU l) - dU l).log2 = 2 ^ bl (dU l) - dU l) -> tP l = none := fun h => by
  unfold tP; rw [if_neg h]
 unfold atF OA Ob
 refine (ayV hl).mono ?_
 rintro r w1 ⟨rfl, rfl⟩
 rw [hnl]
 rcases aMO x.size with h0 | h0
 .have hx : x = ⟨#[]⟩ := X4 (aL4.1 (by rw [eU, h0]))
  have := no (by omega)
  subst hx
  simp (disch := omega) only [aD, AJ, akM, aA, iT, bF, if_true, aG, cV]
  rw [this]; exact ⟨rfl, aW.refl _ _⟩
 have hne := apJ h0
 by_cases h3 : 255 < x.size
 .have d3 : decide ((255 : Int) < (x.size : Int)) = true := by simp; omega
  have := no (by omega)
  simp (disch := omega) only [aD, AJ, hne, aA, cW, bF, aLu, if_false, bL, dL, cX, d3, iT, if_true, aG, cV]
  rw [this]; exact ⟨rfl, aW.refl _ _⟩
 have d3 : decide ((255 : Int) < (x.size : Int)) = false := by simp; omega
 cases hok : rH 11 l with
 | false =>
   have := no (by rw [hok]; simp)
   have d4 : decide ((-1 : Int) < 1) = true := rfl
   simp only [aLu, if_false]
   simp (disch := omega) only [aD, AJ, hne, aA, cW, bF, aLu, if_false, bL, dL, cX, d3, aR, d4, aG]
   rw [this]; exact ⟨rfl, aW.refl _ _⟩
 | true =>
   have hw := IA (rS.1 hok)
   simp only [if_true]
   obtain ⟨s, hs⟩ : ∃ s, dU l = s := ⟨_, rfl⟩
   rw [hs] at no hw ⊢
   by_cases h4 : s < 1
   .have d4 : decide ((s : Int) < 1) = true := by simp; omega
    have := no (by omega)
    simp (disch := omega) only [aD, AJ, hne, aA, cW, bF, aLu, if_false, bL, dL, cX, d3, aR, d4, aG]
    rw [this]; exact ⟨rfl, aW.refl _ _⟩
   have d4 : decide ((s : Int) < 1) = false := by simp; omega
   have hbl19 : bl s <= 19 := xA (by omega)
   have hlt := XD s
   have hle := ZP (k := s) (by omega)
   have hbl0 := Ni (k := s) (by omega)
   simp (disch := omega) only [aD, AJ, hne, aA, cW, bF, aLu, if_false, bL, dL, cX, d3, aR, d4, aE]
   unfold OP NU M0
   refine cR.rule (fun m (t : aNY) w' => ∃ d : Nat, m = bl s - d /\ t = .int .i64 d /\ 1 <= d /\ d <= bl s /\ w' = w1) (bl s - 1) ⟨1, rfl, rfl, by omega, by omega, rfl⟩ ?_
   rintro m t w2 ⟨d, rfl, rfl, hd1, hd2, rfl⟩
   unfold Gc
   refine (IG d (by omega) w2).mono ?_
   rintro r w3 ⟨rfl, rfl⟩
   have hpow : ((2 ^ d : Nat) : Int) = (2 : Int) ^ d := by simp
   rw [<- hpow]
   by_cases hq : d < bl s
   .have hp : 2 ^ d <= 2 ^ (bl s - 1) := aLC (by omega) (by omega)
    have d5 : decide (((2 ^ d : Nat) : Int) <= (s : Int)) = true := by simp only [decide_eq_true_eq]; omega
    simp (disch := omega) only [aD, Ah, d5, bJ, aQ, aA, and_true, aG]
    exact ⟨bl s - (d + 1), by omega, d + 1, rfl, rfl, by omega, by omega⟩
   .have hde : d = bl s := by omega
    rw [<- hde] at no hlt hle
    have d5 : decide (((2 ^ d : Nat) : Int) <= (s : Int)) = false := by simp only [decide_eq_false_iff_not]; omega
    unfold GR
    simp (disch := omega) only [aD, Ah, d5, bJ, aQ, aA, cX, bF, and_true, aE]
    refine (IG d (by omega) w3).mono ?_
    rintro r w4 ⟨rfl, rfl⟩
    rw [<- hpow]
    have hp20 : 2 ^ d <= 2 ^ 19 := aLC (by omega) (by omega)
    have e1 : ((2 ^ d : Nat) : Int) - (s : Int) = ((2 ^ d - s : Nat) : Int) := by omega
    obtain ⟨q, hqq⟩ : ∃ q, 2 ^ d - s = q := ⟨_, rfl⟩
    rw [hqq] at no e1
    simp (disch := omega) only [fF, e1, aQ, aA]
    refine (awW _ w4).mono ?_
    rintro r w5 ⟨hlog, rfl⟩
    by_cases h6 : 11 < d
    .have d6 : decide ((11 : Int) < (d : Int)) = true := by simp; omega
     have := no (by omega)
     obtain ⟨kr, hkr⟩ : ∃ kr : Int, r = .int .i64 kr := by
      rcases hlog with ⟨e, _, _, h⟩ | ⟨_, h⟩
      .exact ⟨_, h⟩
      .exact ⟨_, h⟩
     subst hkr
     simp (disch := omega) only [d6, iT, if_true, bJ, aA, eQ, aG, cV]
     rw [this]; exact ⟨rfl, aW.refl _ _⟩
    have d6 : decide ((11 : Int) < (d : Int)) = false := by simp; omega
    rcases aFn (by omega) (by omega) hlog with ⟨hp, rfl⟩ | ⟨hp, rfl⟩
    .have hlg : q.log2 < 20 := (Nat.log2_lt (by omega)).2 (by omega)
     have d7 : decide (((q.log2 : Nat) : Int) < 0) = false := by simp
     have hyes : tP l = some (q.log2 + 1) := by
      unfold tP
      rw [hs, <- hde, hqq, if_pos ⟨hok, by omega, by omega, by omega, by omega, hp⟩]
     have e2 : ((q.log2 : Nat) : Int) + 1 = ((q.log2 + 1 : Nat) : Int) := by omega
     have e8 : IntKind.u8.wrap ((q.log2 + 1 : Nat) : Int) = ((q.log2 + 1 : Nat) : Int) := xL (by omega) (by omega)
     rw [hyes]
     simp (disch := omega) only [d6, cW, aLu, if_false, bJ, e2, aQ, aA, eQ, e8, bL, aR, d7, aE]
     refine pD (cells := #[.int .u8 (q.log2 + 1 : Nat)]) (by decide) (by decide) (by kernel_rfl) fun w6 o6 x6 s6 => ?_
     have hb6 : Bs w6 (.slice (some ⟨w5.heap.size, 0, none⟩) 1 1) [UInt8.ofNat (q.log2 + 1)] := by
      refine ⟨_, _, _, rfl, rfl, aLF _, fun _ => ⟨_, _, rfl, fun i hi => ?_⟩⟩
      rw [o6.cell, aLt, aME, aNM, awS (by omega)]
     have hcv := iD hb6
     have hcat := aEs (P := pg) (t := 9) (ox := .tmp 0) (oy := .tmp 0) (w := w6) x ⟨([UInt8.ofNat (q.log2 + 1)] : List UInt8).toArray⟩ (by
      have : (⟨([UInt8.ofNat (q.log2 + 1)] : List UInt8).toArray⟩ : ByteArray).size = 1 := rfl
      omega)
     have hsz1 : (⟨([UInt8.ofNat (q.log2 + 1)] : List UInt8).toArray⟩ : ByteArray).size = 1 := rfl
     simp (disch := omega) only [hcv, aA, aEs]
     refine ⟨⟨_, ?_, rfl⟩, x6⟩
     rw [ayX] <;> rfl
    .have := no (fun h => hp h.2.2.2.2.2)
     have d7 : decide ((-1 : Int) < 0) = true := rfl
     simp (disch := omega) only [d6, cW, aLu, if_false, bJ, aQ, aA, eQ, xL, bL, aR, d7, aG]
     rw [this]; exact ⟨rfl, aW.refl _ _⟩
def amV (o : Except Int (List Nat)) (n : Nat) : Except Int (List UInt8 × Nat) := match o with
 | .error e => .error e
 | .ok m => match tP m with
   | none => .error 11
   | some k => .ok (nX m ++ [UInt8.ofNat k], 1 + n)
def wtR (l : List UInt8) : Except Int (List UInt8 × Nat) := match l with
 | [] => .error 10
 | h :: rest =>
   if 128 <= h.toNat then (if rest.length < (h.toNat - 127 + 1) / 2 then .error 10 else amV (.ok (mW (cF rest) (h.toNat - 127))) ((h.toNat - 127 + 1) / 2))
   else if rest.length < h.toNat then .error 10 else amV (vY (rest.take h.toNat)) h.toNat
theorem awA (m : List Nat) (n : Nat) : amV (.ok m) n = match tP m with
 | none => .error 11
 | some k => .ok (nX m ++ [UInt8.ofNat k], 1 + n) := rfl
theorem XC (h : UInt8) (rest : List UInt8) : wtR (h :: rest) = if 128 <= h.toNat then (if rest.length < (h.toNat - 127 + 1) / 2 then .error 10 else amV (.ok (mW (cF rest) (h.toNat - 127))) ((h.toNat - 127 + 1) / 2))
 else if rest.length < h.toNat then .error 10 else amV (vY (rest.take h.toNat)) h.toNat := rfl
def aI9 (w : aNX) (base : Nat) (o : Except Int (List UInt8 × Nat)) (r : aNY) : Prop := match o with
 | .error e => r = .tuple #[.slice none 0 0, .int .i64 0, .int .i64 e]
 | .ok (m, n) => ∃ v, r = .tuple #[v, .int .i64 (n : Nat), .int .i64 0] /\ tE w base 1 v m.length (m.map tJ)
def awD (o : Except Int (List UInt8 × Nat)) (r : aNY) : Prop := match o with
 | .error e => r = .tuple #[.string ⟨#[]⟩, .int .i64 0, .int .i64 e]
 | .ok (m, n) => r = .tuple #[.string ⟨m.toArray⟩, .int .i64 (n : Nat), .int .i64 0]
theorem WM {l : List UInt8} {e : Int} (h : vY l = .error e) : e ≠ 0 := by
 unfold vY at h
 split at h
 .rename_i hr
  cases h
  exact aoX hr
 .split at h
  .cases h; decide
  .split at h
   .cases h; decide
   .split at h
    .cases h; decide
    .cases h
theorem aGI {m : List Nat} {n : Nat} {v : aNY} {w0 w : aNX} (hb : Bs w v (nX m)) (hm : ∀ x ∈ m, x < 256) (hml : m.length <= 1000) (hn : n <= 1000) (x0 : aW w0 w eS) {RR : aNY -> aNX -> Prop}
 (key : ∀ r w', aI9 w' w0.heap.size (amV (.ok m) n) r -> aW w0 w' eS -> RR r w') : qI RR v (.int .i64 n) (.int .i64 0) w := by
 have n1 : ((0 : Int) != 0) = false := rfl
 have hbl : (nX m).length = m.length := by simp
 obtain ⟨av, cv, hv, _⟩ := hb.len
 rw [aLD, hbl] at hv
 subst hv
 unfold qI
 simp (disch := omega) only [aD, cY, n1, bJ, aQ, aA, aE]
 refine (aE5 hb (by rw [hbl]; omega)).mono ?_
 rintro r w2 ⟨hwo, x2⟩
 rw [X5 hm] at hwo
 rw [awA] at key
 have z0 := x0.size
 cases hw : tP m with
 | none =>
   rw [hw] at hwo key
   obtain rfl := hwo
   have n2 : ((11 : Int) != 0) = true := rfl
   simp (disch := omega) only [pT, pS, aA, cY, n2, aG]
   exact key _ _ rfl (x0.seq x2)
 | some k =>
   rw [hw] at hwo key
   obtain ⟨v2, rfl, o2⟩ := hwo
   have e5 : (1 : Int) + ((n : Nat) : Int) = ((1 + n : Nat) : Int) := by omega
   simp (disch := omega) only [pT, pS, e5, aA, cY, n1, aE]
   refine key _ _ ⟨v2, rfl, ?_⟩ (x0.seq x2)
   have := o2.lower (a := w0.heap.size) z0
   rw [show (nX m ++ [UInt8.ofNat k]).length = (nX m).length + 1 from by simp]
   exact this
theorem aiV {m : List Nat} {n : Nat} {w0 w : aNX} (hm : ∀ x ∈ m, x < 256) (hml : m.length <= 1000) (hn : n <= 1000) (x0 : aW w0 w eS) {RR : aNY -> aNX -> Prop}
 (key : ∀ r w', awD (amV (.ok m) n) r -> aW w0 w' eS -> RR r w') : uR RR (.string ⟨(nX m).toArray⟩) (.int .i64 0) (.int .i64 n) w := by
 have n1 : ((0 : Int) != 0) = false := rfl
 have hlm : fU (⟨(nX m).toArray⟩ : ByteArray) = nX m := Nm _
 have hzm : (⟨(nX m).toArray⟩ : ByteArray).size = m.length := by rw [<- eU, hlm, aLD]
 unfold uR
 simp (disch := omega) only [aD, cY, n1, bJ, aQ, aA, aE]
 refine (aDQ (x := ⟨(nX m).toArray⟩) (by omega)).mono ?_
 rintro r w2 ⟨hwo, x2⟩
 rw [hlm, X5 hm] at hwo
 rw [awA] at key
 unfold axQ at hwo
 cases hw : tP m with
 | none =>
   rw [hw] at hwo key
   obtain rfl := hwo
   have n2 : ((11 : Int) != 0) = true := rfl
   simp (disch := omega) only [pT, pS, aA, cY, n2, aG]
   exact key _ _ rfl (x0.seq x2)
 | some k =>
   rw [hw] at hwo key
   obtain ⟨y, hy, rfl⟩ := hwo
   rw [hlm] at hy
   obtain rfl : y = ⟨(nX m ++ [UInt8.ofNat k]).toArray⟩ := X4 (by rw [hy] <;> rfl)
   have e5 : (1 : Int) + ((n : Nat) : Int) = ((1 + n : Nat) : Int) := by omega
   simp (disch := omega) only [pT, pS, e5, aA, cY, n1, aE]
   exact key _ _ rfl (x0.seq x2)
theorem aGS {v : aNY} {l : List UInt8} {w : aNX} (h : Bs w v l) (hl : l.length <= 10000) :
 aS pg BJ #[v] w (fun r w' => aI9 w' w.heap.size (wtR l) r /\ aW w w' eS) := by
 cases l with
 | nil =>
   refine FQ ?_
   obtain ⟨a, c, rfl, _⟩ := h.len
   unfold Mw Aj Ap
   have n0 : ((([] : List aNY).length : Int) == 0) = true := rfl
   simp (disch := omega) only [aD, aP, aA, dV]
   exact ⟨rfl, aW.refl _ _⟩
 | cons hd rest =>
   have hhd : hd.toNat < 256 := aL9 _
   have hof : UInt8.ofNat hd.toNat = hd := by simp
   rw [aLP] at hl
   rw [XC]
   by_cases h128 : 128 <= hd.toNat
   .rw [if_pos h128]
    refine (aBL (h := hd.toNat) (rest := rest) h (by rw [hof]) h128 hhd (by omega)).mono ?_
    rintro r w' ⟨hdo, x⟩
    refine ⟨?_, x⟩
    unfold MZ at hdo
    by_cases hsh : rest.length < (hd.toNat - 127 + 1) / 2
    .rw [if_pos hsh] at hdo ⊢; exact hdo
    .rw [if_neg hsh] at hdo ⊢
     rw [awA]
     cases hw : tP (mW (cF rest) (hd.toNat - 127)) with
     | none => rw [hw] at hdo; exact hdo
     | some k =>
       rw [hw] at hdo
       obtain ⟨v', rfl, o⟩ := hdo
       refine ⟨v', rfl, ?_⟩
       rw [show (nX (mW (cF rest) (hd.toNat - 127)) ++ [UInt8.ofNat k]).length = hd.toNat - 127 + 1 from by simp [BV]]
       exact o
   rw [if_neg h128]
   refine FQ ?_
   obtain ⟨RR, hRR⟩ : ∃ RR : aNY -> aNX -> Prop, RR = fun r w' => aI9 w' w.heap.size (if rest.length < hd.toNat then .error 10 else amV (vY (rest.take hd.toNat)) hd.toNat) r /\ aW w w' eS := ⟨_, rfl⟩
   rw [<- hRR]
   have key : ∀ r w', aI9 w' w.heap.size (if rest.length < hd.toNat then .error 10 else amV (vY (rest.take hd.toNat)) hd.toNat) r -> aW w w' eS -> RR r w' := fun r w' h1 h2 => by rw [hRR]; exact ⟨h1, h2⟩
   obtain ⟨b, off, c, rfl, hc, hcell⟩ := O9 h (by simp)
   have g0 := hcell 0 (by simp)
   rw [aMZ] at g0
   have hsub := h.drop' (k := 1) (by simp)
   rw [aME, aMK, aLy, aLP, aMt] at hsub
   have hsub : Bs w _ rest := hsub
   rw [aLP] at hc ⊢
   generalize hd.toNat = q at *
   have n0 : (((rest.length + 1 : Nat) : Int) == 0) = false := beq_eq_false_iff_ne.2 (by omega)
   have d1 : decide ((128 : Int) <= (q : Int)) = false := by simp; omega
   have t0 : (0 : Int).toNat = 0 := rfl
   have t1 : (1 : Int).toNat = 1 := rfl
   have e11 : rest.length + 1 - 1 = rest.length := by omega
   unfold Mw Aj Ap
   by_cases hsh : rest.length < q
   .rw [if_pos hsh] at key
    have d2 : decide ((rest.length : Int) < (q : Int)) = true := by simp; omega
    simp (disch := omega) only [aD, aP, dO, t0, eF, t1, e11, aA, iJ, dV, n0, g0, aH, dT, aQ, nJ, d1, fF, bJ, oY, aR, d2, aG, aE]
    have n1 : ((10 : Int) != 0) = true := rfl
    unfold qI
    simp (disch := omega) only [aD, cY, n1, bJ, aQ, aA, aG]
    exact key _ _ rfl (aW.refl _ _)
   .rw [if_neg hsh] at key
    have d2 : decide ((rest.length : Int) < (q : Int)) = false := by simp; omega
    have tq : (q : Int).toNat = q := aLs _
    have hcl : rest.length <= c - 1 := by omega
    have htk := hsub.take' (k := q) (by omega)
    rw [<- aNi] at htk
    have htk : Bs w _ (rest.take q) := htk
    have htl : (rest.take q).length = q := by rw [aLG]; omega
    simp (disch := omega) only [aD, aP, dO, t0, eF, t1, e11, aA, iJ, dV, n0, g0, aH, dT, aQ, nJ, d1, fF, bJ, oY, aR, d2, jD, tq, aE]
    refine (aHO htk (by omega)).mono ?_
    rintro r w2 ⟨hst, x2⟩
    cases hs : vY (rest.take q) with
    | error e =>
      rw [hs] at hst key
      have he := WM hs
      obtain rfl := hst
      have n1 : (e != 0) = true := by simp [he]
      unfold qI
      simp (disch := omega) only [pT, pS, aD, bJ, aQ, aA, cY, n1, aG]
      exact key _ _ rfl x2
    | ok m =>
      rw [hs] at hst key
      obtain ⟨hm1, hm2⟩ := azL hs
      obtain ⟨v2, rfl, o2⟩ := hst
      have hb2 : Bs w2 v2 (nX m) := o2.sl
      simp (disch := omega) only [pT, pS, aA]
      exact aGI hb2 hm1 (by omega) (by omega) x2 key
theorem aEo {x : ByteArray} {w : aNX} (hl : x.size <= 10000) :
 aS pg Me #[.string x] w (fun r w' => awD (wtR (fU x)) r /\ aW w w' eS) := by
 refine avB ?_
 obtain ⟨RR, hRR⟩ : ∃ RR : aNY -> aNX -> Prop, RR = fun r w' => awD (wtR (fU x)) r /\ aW w w' eS := ⟨_, rfl⟩
 rw [<- hRR]
 have key : ∀ r w', awD (wtR (fU x)) r -> aW w w' eS -> RR r w' := fun r w' h1 h2 => by rw [hRR]; exact ⟨h1, h2⟩
 have hll := eU x
 unfold axB Sa Rq
 cases hx : fU x with
 | nil =>
   rw [hx] at hll key
   have hxe : x = ⟨#[]⟩ := X4 hx
   subst hxe
   simp (disch := omega) only [aD, AJ, akM, dL, aA, fF, aQ, aG]
   exact key _ _ rfl (aW.refl _ _)
 | cons hd rest =>
   have hhd : hd.toNat < 256 := aL9 _
   rw [hx, aLP] at hll
   have hen := apJ (x := x) (by omega)
   have g0 : (x[0]'(by omega)).toNat = hd.toNat := by
    have := MD x 0 (by omega)
    rw [this]; simp only [hx, aMZ]
   have t0 : (0 : Int).toNat = 0 := rfl
   have t1 : (1 : Int).toNat = 1 := rfl
   rw [hx] at key
   rw [XC] at key
   have le1 : fU (x.extract 1 x.size) = rest := by
    rw [BO, hx, aMK, aLy, aL0 (by omega)]
   have lz1 : (x.extract 1 x.size).size = rest.length := by rw [<- eU, le1]
   generalize hd.toNat = q at *
   by_cases h128 : 128 <= q
   .rw [if_pos h128] at key
    have d1 : decide ((128 : Int) <= (q : Int)) = true := by simp; omega
    have e1 : (q : Int) - 127 = ((q - 127 : Nat) : Int) := by omega
    have e2 : ((q - 127 : Nat) : Int) + 1 = ((q - 127 + 1 : Nat) : Int) := by omega
    have e3 : ((q - 127 + 1 : Nat) : Int).tdiv 2 = (((q - 127 + 1) / 2 : Nat) : Int) := by rw [aLK (by omega)]; omega
    simp (disch := omega) only [aD, AJ, hen, iS, t0, g0, jZ, t1, aA, dL, fF, aQ, dT, nJ, d1, e1, bJ, e2, oY, e3, aR, aG, aE]
    refine (aCZ (x := x.extract 1 x.size) (n := q - 127) (by omega) (by omega)).mono ?_
    rintro r w2 ⟨hr, x2⟩
    rw [le1, lz1] at hr
    rcases hr with ⟨hsh, rfl⟩ | ⟨hsh, rfl⟩
    .rw [if_pos hsh] at key
     have n1 : ((10 : Int) != 0) = true := rfl
     unfold uR
     simp (disch := omega) only [pT, pS, aD, bJ, aQ, aA, cY, n1, aG]
     exact key _ _ rfl x2
    .rw [if_neg (by omega)] at key
     simp (disch := omega) only [pT, pS, aA]
     exact aiV (m := mW (cF rest) (q - 127)) (fun y hy => by have := acT (Qn rest) _ y hy; omega) (by rw [BV]; omega) (by omega) x2 key
   .rw [if_neg h128] at key
    have d1 : decide ((128 : Int) <= (q : Int)) = false := by simp; omega
    have e1 : (x.size : Int) - 1 = ((rest.length : Nat) : Int) := by omega
    by_cases hsh : rest.length < q
    .rw [if_pos hsh] at key
     have d2 : decide ((rest.length : Int) < (q : Int)) = true := by simp; omega
     simp (disch := omega) only [aD, AJ, hen, iS, t0, g0, jZ, t1, aA, dL, fF, e1, aQ, dT, nJ, d1, bJ, oY, aR, d2, aG, aE]
     have n1 : ((10 : Int) != 0) = true := rfl
     unfold uR
     simp (disch := omega) only [aD, cY, n1, bJ, aQ, aA, aG]
     exact key _ _ rfl (aW.refl _ _)
    .rw [if_neg hsh] at key
     have d2 : decide ((rest.length : Int) < (q : Int)) = false := by simp; omega
     have e2 : (1 : Int) + (q : Int) = ((1 + q : Nat) : Int) := by omega
     have tq : ((1 + q : Nat) : Int).toNat = 1 + q := aLs _
     have le2 : fU (x.extract 1 (1 + q)) = rest.take q := by
      rw [BO, hx, aMK, aLy, Nat.add_sub_cancel_left]
     have lz2 : (x.extract 1 (1 + q)).size = q := by rw [<- eU, le2, aLG]; omega
     simp (disch := omega) only [aD, AJ, hen, iS, t0, g0, jZ, t1, aA, dL, fF, e1, aQ, dT, nJ, d1, bJ, oY, aR, d2, e2, jB, tq, aE]
     refine (aDq (x := x.extract 1 (1 + q)) (by omega)).mono ?_
     rintro r w2 ⟨hst, x2⟩
     rw [le2] at hst
     cases hs : vY (rest.take q) with
     | error e =>
       rw [hs] at hst key
       have he := WM hs
       obtain rfl := hst
       have n1 : (e != 0) = true := by simp [he]
       unfold uR
       simp (disch := omega) only [pT, pS, aD, bJ, aQ, aA, cY, n1, aG]
       exact key _ _ rfl x2
     | ok m =>
       rw [hs] at hst key
       obtain ⟨hm1, hm2⟩ := azL hs
       obtain rfl := hst
       simp (disch := omega) only [pT, pS, aA]
       exact aiV hm1 (by omega) (by omega) x2 key
def Cx (H : LH) : Nat := if H.kind = 0 then H.count else if H.kind = 1 then 1 else H.bytes
def auI (H : LH) (b old : List UInt8) : Except Int (List UInt8 × List UInt8) :=
 if H.kind = 2 then (match wtR b with | .error e => .error e | .ok p => .ok (p.1, b.drop p.2)) else .ok (old, b)
def TB (H : LH) (wl b : List UInt8) : Except Int (List Nat) := if H.form = 0 then Vk wl b H.count else Jw wl b H.count
def aiQ (H : LH) (wl b : List UInt8) : Except Int (List UInt8 × List UInt8 × Nat) :=
 if wl.length = 0 then .error 11 else match TB H wl b with | .error e => .error e | .ok m => .ok (nX m, wl, H.size + Cx H)
def VQ (H : LH) (b old : List UInt8) : Except Int (List UInt8 × List UInt8 × Nat) :=
 if H.kind = 0 then .ok (b, old, H.size + Cx H)
 else if H.kind = 1 then .ok (List.replicate H.count (b.headD 0), old, H.size + Cx H)
 else match auI H b old with | .error e => .error e | .ok p => aiQ H p.1 p.2
def auE (H : LH) (l old : List UInt8) : Except Int (List UInt8 × List UInt8 × Nat) :=
 if (l.drop H.size).length < Cx H then .error 10 else VQ H ((l.drop H.size).take (Cx H)) old
def Ty (l old : List UInt8) : Except Int (List UInt8 × List UInt8 × Nat) := if (pW l).2 = 0 then auE (pW l).1 l old else .error (pW l).2
theorem aG9 {l : List UInt8} {p : List UInt8 × Nat} (h : wtR l = .ok p) : p.1.length <= 256 /\ 2 <= p.1.length /\ p.2 <= l.length := by
 have fin : ∀ {o : Except Int (List Nat)} {n : Nat}, amV o n = .ok p -> p.1.length <= 256 /\ 2 <= p.1.length /\ p.2 = 1 + n := by
  intro o n h
  unfold amV at h
  cases o with
  | error e => cases h
  | ok m =>
    simp only at h
    cases hw : tP m with
    | none => rw [hw] at h; cases h
    | some k =>
      rw [hw] at h; cases h
      have := aBH hw
      have hb : (nX m).length = m.length := by simp [nX]
      simp only [aLz, hb, aLP, List.length_nil]
      exact ⟨by omega, by omega, trivial⟩
 cases l with
 | nil => cases h
 | cons q rest =>
   rw [XC] at h
   rw [aLP]
   by_cases h1 : 128 <= q.toNat
   .rw [if_pos h1] at h
    by_cases h2 : rest.length < (q.toNat - 127 + 1) / 2
    .rw [if_pos h2] at h; cases h
    .rw [if_neg h2] at h
     have := fin h
     omega
   .rw [if_neg h1] at h
    by_cases h2 : rest.length < q.toNat
    .rw [if_pos h2] at h; cases h
    .rw [if_neg h2] at h
     have := fin h
     omega
theorem aFA {l : List UInt8} {e : Int} (h : wtR l = .error e) : e ≠ 0 := by
 have fin : ∀ {o : Except Int (List Nat)} {n : Nat}, (∀ e, o = .error e -> e ≠ 0) -> amV o n = .error e -> e ≠ 0 := by
  intro o n ho h
  unfold amV at h
  cases o with
  | error e => cases h; exact ho _ rfl
  | ok m =>
    simp only at h
    cases hw : tP m with
    | none => rw [hw] at h; cases h; decide
    | some k => rw [hw] at h; cases h
 cases l with
 | nil => cases h; decide
 | cons q rest =>
   rw [XC] at h
   by_cases h1 : 128 <= q.toNat
   .rw [if_pos h1] at h
    by_cases h2 : rest.length < (q.toNat - 127 + 1) / 2
    .rw [if_pos h2] at h; cases h; decide
    .rw [if_neg h2] at h
     exact fin (fun e h => by cases h) h
   .rw [if_neg h1] at h
    by_cases h2 : rest.length < q.toNat
    .rw [if_pos h2] at h; cases h; decide
    .rw [if_neg h2] at h
     exact fin (fun e h => WM h) h
theorem aCm {C : List (Nat × Nat)} {e : Int} : ∀ {r : List (Nat × Nat)} {l : List UInt8}, EM C l r = .error e -> e ≠ 0
 | [], l, h => by cases h
 | (k, n) :: r, l, h => by
   rw [EM] at h
   cases h1 : rU C (l.take k) n with
   | error e' =>
     rw [h1] at h; cases h
     have := XZ h1
     omega
   | ok m =>
     rw [h1] at h
     simp only at h
     cases h2 : EM C (l.drop k) r with
     | error e' => rw [h2] at h; cases h; exact aCm h2
     | ok m' => rw [h2] at h; cases h
theorem aDB {H : LH} {wl b : List UInt8} {e : Int} (h : TB H wl b = .error e) : e ≠ 0 := by
 unfold TB at h
 by_cases h1 : H.form = 0
 .rw [if_pos h1] at h
  unfold Vk at h
  split at h
  .cases h; decide
  .have := XZ h; omega
 .rw [if_neg h1] at h
  unfold Jw at h
  split at h
  .cases h; decide
  .split at h
   .cases h; decide
   .split at h
    .cases h; decide
    .split at h
     .cases h; decide
     .exact aCm h
theorem aGe {lv v : aNY} {wl l : List UInt8} {H : LH} {w : aNX} (hw : Bs w lv wl) (hwl : wl.length <= 100000) (h : Bs w v l) (hl : l.length <= 1000000) (hn : H.count <= 131072) (hf : H.form < 4) :
 aS pg zA #[lhV H, lv, v] w (fun r w' => TT w' w.heap.size (TB H wl l) r /\ aW w w' eS) := by
 refine Vg ?_
 unfold Sy CE
 refine nR fun w1 o1 x1 s1 => ?_
 have o1 : eM w1 w.heap.size [.int .i64 (H.kind : Nat), .int .i64 (H.form : Nat), .int .i64 (H.size : Nat), .int .i64 (H.count : Nat), .int .i64 (H.bytes : Nat)] := o1
 have z1 := x1.size
 have k1 := o1.cell (off := 1)
 have k3 := o1.cell (off := 3)
 simp only [aLq, aLr] at k1 k3
 have hw1 := hw.ext x1 (bY _)
 have h1 := h.ext x1 (bY _)
 unfold TB
 have fin : ∀ {o : Except Int (List Nat)} {r : aNY} {w2 : aNX}, TT w2 w1.heap.size o r -> aW w1 w2 eS →
     aD pg (bP r 0) w2 fun t16 w_1 => aD pg (bP r 1) w_1 fun t17 w_2 => (TT w_2 w.heap.size o (.tuple #[t16, t17]) /\ aW w w_2 eS) := by
  intro o r w2 hs x2
  cases o with
  | error e =>
    obtain rfl : r = .tuple #[.slice none 0 0, .int .i64 e] := hs
    simp (disch := omega) only [aD, pT, pS, aA]
    exact ⟨rfl, x1.seq x2⟩
  | ok m =>
    obtain ⟨v', rfl, o⟩ := hs
    simp (disch := omega) only [aD, pT, pS, aA]
    exact ⟨⟨v', rfl, Ax o z1⟩, x1.seq x2⟩
 by_cases h0 : H.form = 0
 .have n0 : ((H.form : Int) == 0) = true := by rw [h0] <;> rfl
  rw [if_pos h0]
  simp (disch := omega) only [aD, cA, aLt, bQ, aA, bO, k1, aH, dV, n0, k3, aG]
  exact (aC4 hw1 hwl h1 hl hn).mono fun r w2 hr => fin hr.1 hr.2
 .have n0 : ((H.form : Int) == 0) = false := beq_eq_false_iff_ne.2 (by omega)
  rw [if_neg h0]
  simp (disch := omega) only [aD, cA, aLt, bQ, aA, bO, k1, aH, dV, n0, k3, aE]
  exact (aBv hw1 hwl h1 hl hn).mono fun r w2 hr => fin hr.1 hr.2
def asW (w : aNX) (base : Nat) (o : Except Int (List UInt8 × List UInt8 × Nat)) (r : aNY) : Prop := match o with
 | .error e => r = .tuple #[.slice none 0 0, .slice none 0 0, .int .i64 0, .int .i64 e]
 | .ok (m, u, n) => ∃ v x, r = .tuple #[v, x, .int .i64 (n : Nat), .int .i64 0] /\ tE w base 1 v m.length (m.map tJ) /\ tE w base 1 x u.length (u.map tJ)
theorem asW.low {w : aNX} {b b' : Nat} {o : Except Int (List UInt8 × List UInt8 × Nat)} {r : aNY} (h : asW w b o r) (hb : b' <= b) : asW w b' o r := by
 cases o with
 | error e => exact h
 | ok p =>
   obtain ⟨m, u, n⟩ := p
   obtain ⟨v, x, rfl, h1, h2⟩ := h
   exact ⟨v, x, rfl, Ax h1 hb, Ax h2 hb⟩
abbrev lhC (H : LH) (y : Nat) : List aNY := [.int .i64 (H.kind : Nat), .int .i64 (H.form : Nat), .int .i64 (H.size : Nat), .int .i64 (H.count : Nat), .int .i64 (y : Nat)]
theorem aCN {C : List (Nat × Nat)} {s : List UInt8} {n : Nat} {m : List Nat} (hC : C.length <= 256) (hF : Yv C (pM C)) (h : rU C s n = .ok m) : ∀ x ∈ m, x < 256 := by
 unfold rU at h
 split at h
 .cases h
 .split at h
  .cases h
  .split at h
   .cases h
   .cases h
    intro x hx
    have := ayY hF x hx
    omega
theorem aFi {C : List (Nat × Nat)} (hC : C.length <= 256) (hF : Yv C (pM C)) : ∀ {r : List (Nat × Nat)} {s : List UInt8} {m : List Nat}, EM C s r = .ok m -> ∀ x ∈ m, x < 256
 | [], s, m, h, x, hx => by cases h; cases hx
 | (k, n) :: r, s, m, h, x, hx => by
   rw [EM] at h
   cases h1 : rU C (s.take k) n with
   | error e => rw [h1] at h; cases h
   | ok m1 =>
     rw [h1] at h
     simp only at h
     cases h2 : EM C (s.drop k) r with
     | error e => rw [h2] at h; cases h
     | ok m2 =>
       rw [h2] at h; cases h
       rcases aMb.1 hx with hx | hx
       .exact aCN hC hF h1 x hx
       .exact aFi hC hF h2 x hx
theorem aIE {H : LH} {wl b : List UInt8} {m : List Nat} (h : TB H wl b = .ok m) : ∀ x ∈ m, x < 256 := by
 unfold TB at h
 split at h
 .unfold Vk at h
  split at h
  .cases h
  .rename_i hd
   obtain ⟨hF, hm, hC⟩ := WOk.full hd
   exact aCN hC hF h
 .unfold Jw at h
  split at h
  .cases h
  .rename_i hd
   obtain ⟨hF, hm, hC⟩ := WOk.full hd
   split at h
   .cases h
   .split at h
    .cases h
    .split at h
     .cases h
     .exact aFi hC hF h
theorem aI7 {H : LH} {wl b : List UInt8} {m : List Nat} (h : TB H wl b = .ok m) : u8n m = (nX m).map tJ := (V4 (aIE h)).symm
theorem aBj {RR : aNY -> aNX -> Prop} {bv lv : aNY} {H : LH} {b wl : List UInt8} {p : Nat} {w : aNX} (o : eM w p (lhC H (Cx H))) (hb : Bs w bv b) (hbl : b.length <= 1000000) (hw : Bs w lv wl) (hwl : wl.length <= 100000) (hc : H.count <= 131072) (hf : H.form < 4)
 (hk : ∀ r w', asW w' w.heap.size (aiQ H wl b) r -> aW w w' eS -> RR r w') :
 xW (fun eX uA mH BM w => yG RR eX uA mH BM w) RR bv (.pointer (some ⟨p, 0, none⟩)) (.int .i64 (H.size + Cx H : Nat)) lv w := by
 unfold xW
 have hwo := hw
 obtain ⟨a, c, rfl, hcc⟩ := hw.len
 rw [aLD] at *
 by_cases h0 : wl.length = 0
 .have n0 : ((wl.length : Int) == 0) = true := by rw [h0] <;> rfl
  simp (disch := omega) only [aD, aP, aA, dV, n0, aG]
  exact hk _ _ (by unfold aiQ; rw [if_pos h0] <;> rfl) (aW.refl _ _)
 have n0 : ((wl.length : Int) == 0) = false := beq_eq_false_iff_ne.2 (by omega)
 simp (disch := omega) only [aD, aP, aA, dV, n0, aE]
 unfold yG
 have q := Qs (off := 0) o (by simp)
 simp only [aLy, aLx, aLB] at q
 simp (disch := omega) only [aD, q, aA]
 refine (aGe (H := ⟨H.kind, H.form, H.size, H.count, Cx H⟩) hwo hwl hb hbl hc hf).mono ?_
 rintro r w1 ⟨hs, x1⟩
 have hs : TT w1 w.heap.size (TB H wl b) r := hs
 have z1 := x1.size
 cases hd : TB H wl b with
 | error e =>
   rw [hd] at hs
   obtain rfl : r = .tuple #[.slice none 0 0, .int .i64 e] := hs
   have n1 : (e != 0) = true := by simp [aDB hd]
   simp (disch := omega) only [pT, pS, aA, cY, n1, aG]
   exact hk _ _ (by unfold aiQ; rw [if_neg h0, hd] <;> rfl) x1
 | ok m =>
   rw [hd] at hs
   obtain ⟨v', rfl, o1⟩ := hs
   have n1 : ((0 : Int) != 0) = false := rfl
   simp (disch := omega) only [pT, pS, aA, cY, n1, aE]
   refine (I3 (hwo.ext x1 (bY _)) (by omega)).mono ?_
   rintro r w2 ⟨o2, x2⟩
   refine hk _ _ ?_ (x1.seq x2)
   unfold aiQ
   rw [if_neg h0, hd]
   refine ⟨v', r, rfl, ?_, Ax o2 z1⟩
   rw [aI7 hd] at o1
   have o1 := o1.ext x2 (fun _ _ h => h)
   rw [show (nX m).length = m.length from by simp [nX]]
   exact o1
theorem aC8 {l : List UInt8} (h : (pW l).2 = 0) : (pW l).1.count <= 131072 /\ (pW l).1.size <= l.length /\ (pW l).1.kind < 4 /\ (pW l).1.form < 4 /\ (pW l).1.size <= 5 /\ (pW l).1.bytes < 2 ^ 40 := by
 cases l with
 | nil => exact absurd h (by decide)
 | cons c r =>
   simp only [pW] at h ⊢
   have hs := Tc (c.toNat % 4) (c.toNat / 4 % 4)
   by_cases h1 : (c :: r).length < lU (c.toNat % 4) (c.toNat / 4 % 4)
   .rw [if_pos h1] at h; exact absurd h (by simp)
   .rw [if_neg h1] at h ⊢
    simp only at h ⊢
    have h5 := aeD (l := c :: r) hs.2
    refine ⟨?_, by omega, by omega, by omega, hs.2, ?_⟩
    .split at h
     .exact absurd h (by decide)
     .omega
    .exact Nat.lt_of_le_of_lt (aMy (aMu _ _) (aMu _ _)) h5
theorem aGr {RR : aNY -> aNX -> Prop} {v ov : aNY} {H : LH} {b old : List UInt8} {p : Nat} {w : aNX} (o : eM w p (lhC H (Cx H))) (hb : Bs w v b) (hbl : b.length <= 10000) (hby : b.length = Cx H) (ho : Bs w ov old) (hol : old.length <= 100000) (hc : H.count <= 131072) (hf : H.form < 4) (hkd : H.kind < 4)
 (hk : ∀ r w', asW w' w.heap.size (VQ H b old) r -> aW w w' eS -> RR r w') :
 Cc RR v ov (.pointer (some ⟨p, 0, none⟩)) (.int .i64 (H.size + Cx H : Nat)) ov w := by
 unfold Cc Iz HK
 have k0 := o.cell (off := 0)
 have k3 := o.cell (off := 3)
 simp only [aLq, aLr] at k0 k3
 simp (disch := omega) only [aD, cO, aA, bO, k0, aH]
 unfold HL S8 It
 rcases (show H.kind = 0 ∨ H.kind = 1 ∨ H.kind = 2 ∨ H.kind = 3 by omega) with h0 | h0 | h0 | h0
 .have n0 : ((H.kind : Int) == 0) = true := by rw [h0] <;> rfl
  simp (disch := omega) only [aD, dV, n0, bQ, aLt, aA, bO, true_and, aG]
  refine (I3 hb (by omega)).mono ?_
  rintro r w1 ⟨o1, x1⟩
  refine (I3 (ho.ext x1 (bY _)) (by omega)).mono ?_
  rintro r2 w2 ⟨o2, x2⟩
  refine hk _ _ ?_ (x1.seq x2)
  unfold VQ
  rw [if_pos h0]
  exact ⟨r, r2, rfl, o1.ext x2 (fun _ _ h => h), Ax o2 x1.size⟩
 .have n0 : ((H.kind : Int) == 0) = false := by rw [h0] <;> rfl
  have n1 : ((H.kind : Int) == 1) = true := by rw [h0] <;> rfl
  simp (disch := omega) only [aD, dV, n0, n1, bQ, aLt, aA, bO, true_and, aG, k3, aH, aE]
  have hy : Cx H = 1 := by unfold Cx; rw [if_neg (by omega), if_pos h0]
  obtain ⟨c, rfl⟩ : ∃ c, b = [c] := by
   match b, hby with
   | [c], _ => exact ⟨c, rfl⟩
   | [], h => rw [hy] at h; simp at h
   | _ :: _ :: _, h => rw [hy] at h; simp at h
  refine (aHS hb hc).mono ?_
  rintro r w1 ⟨o1, x1⟩
  refine (I3 (ho.ext x1 (bY _)) (by omega)).mono ?_
  rintro r2 w2 ⟨o2, x2⟩
  refine hk _ _ ?_ (x1.seq x2)
  unfold VQ
  rw [if_neg (by omega), if_pos h0]
  refine ⟨r, r2, rfl, ?_, Ax o2 x1.size⟩
  have o1 := o1.ext x2 (fun _ _ h => h)
  rw [aMk, aNO]
  exact o1
 .have n0 : ((H.kind : Int) == 0) = false := by rw [h0] <;> rfl
  have n1 : ((H.kind : Int) == 1) = false := by rw [h0] <;> rfl
  have n2 : ((H.kind : Int) == 2) = true := by rw [h0] <;> rfl
  simp (disch := omega) only [aD, dV, n0, n1, bQ, aLt, aA, bO, n2, true_and, aG, aE]
  have hB : VQ H b old = match auI H b old with | .error e => .error e | .ok p => aiQ H p.1 p.2 := by
   unfold VQ; rw [if_neg (by omega), if_neg (by omega)] <;> (cases auI H b old <;> rfl)
  have hW : auI H b old = match wtR b with | .error e => .error e | .ok p => .ok (p.1, b.drop p.2) := by unfold auI; rw [if_pos h0] <;> (cases wtR b <;> rfl)
  refine (aGS hb hbl).mono ?_
  rintro r w1 ⟨hr, x1⟩
  cases hq : wtR b with
  | error e =>
    rw [hq] at hr
    obtain rfl : r = .tuple #[.slice none 0 0, .int .i64 0, .int .i64 e] := hr
    have n3 : (e != 0) = true := by simp [aFA hq]
    simp (disch := omega) only [Yc, Yy, Yk, aA, cY, n3, aG]
    exact hk _ _ (by rw [hB, hW, hq] <;> rfl) x1
  | ok q =>
    have hq2 := aG9 hq
    obtain ⟨m, n⟩ := q
    rw [hq] at hr
    obtain ⟨v', rfl, o1⟩ := hr
    simp only at hq2
    have n3 : ((0 : Int) != 0) = false := rfl
    have hb1 := hb.ext (x1.seq (aW.dr w1 eS)) (bY _)
    obtain ⟨a, nn, cc, rfl, hnn, hcc, _⟩ := hb
    rw [aLD] at hnn
    subst hnn
    have hdp := hb1.drop' (k := n) hq2.2.2
    rw [<- aNc] at hdp
    have tn : (n : Int).toNat = n := aLs _
    simp (disch := omega) only [Yc, Yy, Yk, aA, cY, n3, aE, eF, tn, true_and]
    have z1 := x1.size
    refine aBj (kB (o.ext x1 (fun h => h))) hdp (by rw [aLM]; omega) ((o1.ext (aW.dr w1 eS) (fun _ _ h => h)).sl) (by omega) hc hf fun r w2 hr2 x2 => ?_
    refine hk _ _ ?_ ((x1.seq (aW.dr w1 eS)).seq x2)
    rw [hB, hW, hq]
    exact hr2.low z1
 .have n0 : ((H.kind : Int) == 0) = false := by rw [h0] <;> rfl
  have n1 : ((H.kind : Int) == 1) = false := by rw [h0] <;> rfl
  have n2 : ((H.kind : Int) == 2) = false := by rw [h0] <;> rfl
  simp (disch := omega) only [aD, dV, n0, n1, bQ, aLt, aA, bO, n2, true_and, aE]
  refine aBj o hb (by omega) ho hol hc hf fun r w2 hr2 x2 => ?_
  refine hk _ _ ?_ x2
  unfold VQ auI
  rw [if_neg (by omega), if_neg (by omega), if_neg (by omega)]
  exact hr2
theorem aGB {v ov : aNY} {l old : List UInt8} {w : aNX} (h : Bs w v l) (hl : l.length <= 10000) (ho : Bs w ov old) (hol : old.length <= 100000) :
 aS pg Ds #[v, ov] w (fun r w' => asW w' w.heap.size (Ty l old) r /\ aW w w' eS) := by
 refine aaI ?_
 obtain ⟨RR, hRR⟩ : ∃ RR : aNY -> aNX -> Prop, RR = fun r w' => asW w' w.heap.size (Ty l old) r /\ aW w w' eS := ⟨_, rfl⟩
 rw [<- hRR]
 have key : ∀ r w', asW w' w.heap.size (Ty l old) r -> aW w w' eS -> RR r w' := fun r w' h1 h2 => by rw [hRR]; exact ⟨h1, h2⟩
 unfold Zx Gm Gl
 refine (aIp h (by omega)).mono ?_
 rintro r w1 ⟨hr, x1⟩
 have z1 := x1.size
 by_cases he : (pW l).2 = 0
 .have hr : r = .tuple #[lhV (pW l).1, .int .i64 0] := by have := hr; unfold OpR at this; rw [if_pos he] at this; exact this
  subst hr
  obtain ⟨h1, h2, h3, h4, h5, h6⟩ := aC8 he
  have hR : Ty l old = auE (pW l).1 l old := by unfold Ty; rw [if_pos he]
  rw [hR] at key
  generalize (pW l).1 = H at *
  have n0 : ((0 : Int) != 0) = false := rfl
  unfold lhV
  simp (disch := omega) only [aD, pT, pS, aA, cY]
  refine B7 fun w2 o2 x2 s2 => ?_
  refine rE o2 rfl (by simp [one]) (by simp) fun w3 o3 x3 s3 => ?_
  simp only [bM, aLw, aLv] at o3
  have x03 : aW w w3 eS := x1.seq (x2.new x3 (aLF _))
  obtain ⟨p, hp⟩ : ∃ p, p = w1.heap.size := ⟨_, rfl⟩
  rw [<- hp] at o3 ⊢
  have k0 := o3.cell (off := 0)
  have k2 := o3.cell (off := 2)
  have k3 := o3.cell (off := 3)
  simp only [aLq, aLr] at k0 k2 k3
  have hh := h
  obtain ⟨a, nn, cc, rfl, hnn, hcc, _⟩ := h
  rw [aLD] at hnn
  subst hnn
  have hdp := (hh.ext x03 (bY _)).drop' (k := H.size) h2
  rw [<- aNc] at hdp
  have hbody : ∀ w4, eM w4 p (lhC H (Cx H)) -> aW w3 w4 (fun y => y = p) -> AS RR (.slice (mZ a cc H.size 1) (l.length - H.size) (cc - H.size)) ov (.pointer (some ⟨p, 0, none⟩)) w4 := by
   intro w4 o4 x4
   have x04 : aW w w4 eS := x03.trans x4 fun y hy h => by omega
   have z4 := x04.size
   have hdp4 := (hh.ext x04 (bY _)).drop' (k := H.size) h2
   rw [<- aNc] at hdp4
   have c0 := o4.cell (off := 0)
   have c2 := o4.cell (off := 2)
   have c4 := o4.cell (off := 4)
   simp only [aLq, aLr] at c0 c2 c4
   have ty : (Cx H : Int).toNat = Cx H := aLs _
   have hyb : Cx H < 2 ^ 41 := by unfold Cx; split <;> (try split) <;> omega
   have hlen : (l.drop H.size).length = l.length - H.size := aLM
   unfold AS H2
   by_cases hs : l.length - H.size < Cx H
   .have d1 : decide (((l.length - H.size : Nat) : Int) < (Cx H : Int)) = true := by simp; omega
    simp (disch := omega) only [aD, aP, cD, aLt, bH, aA, bO, c4, aH, aR, d1, aG]
    exact key _ _ (by unfold auE; rw [hlen, if_pos hs] <;> rfl) x04
   .have d1 : decide (((l.length - H.size : Nat) : Int) < (Cx H : Int)) = false := by simp; omega
    have e1 : (H.size : Int) + (Cx H : Int) = ((H.size + Cx H : Nat) : Int) := by omega
    have htk := hdp4.take' (k := Cx H) (by omega)
    rw [<- aNi] at htk
    have htl : ((l.drop H.size).take (Cx H)).length = Cx H := by rw [aLG, hlen]; omega
    simp (disch := omega) only [aD, aP, cD, aLt, bH, aA, bO, c4, aH, aR, d1, jD, ty, c2, bJ, e1, aQ, aE]
    refine aGr o4 htk (by omega) htl (ho.ext x04 (bY _)) hol h1 h4 h3 fun r w5 hr5 x5 => ?_
    refine key _ _ ?_ (x04.seq x5)
    unfold auE
    rw [hlen, if_neg hs]
    exact hr5.low z4
  have ts : (H.size : Int).toNat = H.size := aLs _
  rcases (show H.kind = 0 ∨ H.kind = 1 ∨ H.kind = 2 ∨ H.kind = 3 by omega) with h0 | h0 | h0 | h0
  .have n1 : ((H.kind : Int) == 0) = true := by rw [h0] <;> rfl
   have hy : Cx H = H.count := by unfold Cx; rw [if_pos h0]
   simp (disch := omega) only [n0, bH, aLt, cO, bQ, cD, aA, bO, k2, aH, eF, ts, k0, dV, n1, k3, aG, aE]
   refine pH o3 rfl (by simp) fun w4 o4 x4 s4 => ?_
   exact hbody w4 (by rw [hy]; exact o4) x4
  .have n1 : ((H.kind : Int) == 0) = false := by rw [h0] <;> rfl
   have n2 : ((H.kind : Int) == 1) = true := by rw [h0] <;> rfl
   have hy : Cx H = 1 := by unfold Cx; rw [if_neg (by omega), if_pos h0]
   simp (disch := omega) only [n0, bH, aLt, cO, bQ, cD, aA, bO, k2, aH, eF, ts, k0, dV, n1, n2, aG, k3, aE]
   refine pH o3 rfl (by simp) fun w4 o4 x4 s4 => ?_
   have e1 : (1 : Int) = ((Cx H : Nat) : Int) := by rw [hy] <;> rfl
   rw [e1] at o4
   exact hbody w4 o4 x4
  .have n1 : ((H.kind : Int) == 0) = false := by rw [h0] <;> rfl
   have n2 : ((H.kind : Int) == 1) = false := by rw [h0] <;> rfl
   have hy : Cx H = H.bytes := by unfold Cx; rw [if_neg (by omega), if_neg (by omega)]
   simp (disch := omega) only [n0, bH, aLt, cO, bQ, cD, aA, bO, k2, aH, eF, ts, k0, dV, n1, n2, aE, k3]
   rw [<- hy] at o3
   exact hbody _ o3 (aW.refl _ _)
  .have n1 : ((H.kind : Int) == 0) = false := by rw [h0] <;> rfl
   have n2 : ((H.kind : Int) == 1) = false := by rw [h0] <;> rfl
   have hy : Cx H = H.bytes := by unfold Cx; rw [if_neg (by omega), if_neg (by omega)]
   simp (disch := omega) only [n0, bH, aLt, cO, bQ, cD, aA, bO, k2, aH, eF, ts, k0, dV, n1, n2, aE, k3]
   rw [<- hy] at o3
   exact hbody _ o3 (aW.refl _ _)
 .have hr : r = .tuple #[lh0, .int .i64 (pW l).2] := by have := hr; unfold OpR at this; rw [if_neg he] at this; exact this
  subst hr
  have n0 : ((pW l).2 != 0) = true := by simp [he]
  unfold lh0
  simp (disch := omega) only [aD, pT, pS, aA, cY]
  refine B7 fun w2 o2 x2 s2 => ?_
  refine rE o2 rfl (by simp [one]) (by simp) fun w3 o3 x3 s3 => ?_
  simp (disch := omega) only [n0, bH, aLt, cO, bQ, cD, aA, bO, aG]
  exact key _ _ (by unfold Ty; rw [if_neg he] <;> rfl) (x1.seq (x2.new x3 (aLF _)))
theorem abU {a b : Nat} (k : Nat) (h : b < 2 ^ k) : a * 2 ^ k ||| b = a * 2 ^ k + b := by
 rw [<- Nat.shiftLeft_eq, Nat.shiftLeft_add_eq_or_of_lt h]
def jU (k n : Nat) : List UInt8 := if n < 32 then oR (n * 8 + k) 1 else if n < 4096 then oR (n * 16 + 4 + k) 2 else oR (n * 16 + 12 + k) 3
theorem aEZ {k n : Nat} {w : aNX} (hk : k < 2) (hn : n <= 131072) :
 aS pg xV #[.int .i64 k, .int .i64 n] w (fun r w' => tE w' w.heap.size 1 r (jU k n).length ((jU k n).map tJ) /\ aW w w' eS) := by
 refine Zg ?_
 obtain ⟨RR, hRR⟩ : ∃ RR : aNY -> aNX -> Prop, RR = fun r w' => tE w' w.heap.size 1 r (jU k n).length ((jU k n).map tJ) /\ aW w w' eS := ⟨_, rfl⟩
 rw [<- hRR]
 unfold XQ Gt ER
 refine (abW w).mono ?_
 rintro r w1 ⟨rfl, hlt, hc1, x1⟩
 have z1 := x1.size
 have fin : ∀ (X m : Nat) (w2 : aNX), X < 2 ^ 40 -> 1 <= m -> m <= 8 -> oR X m = jU k n -> w2 = w1 →
     aS pg lJ #[.pointer (some ⟨w.heap.size, 0, none⟩), .int .u64 X, .int .i64 m] w2 fun _ w' => wQ RR (.pointer (some ⟨w.heap.size, 0, none⟩)) w' := by
  intro X m w2 hX h1 h8 hp hw
  subst hw
  refine (Xm (n := m) hc1 (fun b hb => by omega) (Nat.lt_trans hX (by decide)) ⟨h1, h8⟩ (aNn _)).mono ?_
  rintro r w3 ⟨rfl, hc3, x3⟩
  rw [aMM, hp] at hc3
  have hpl : (jU k n).length <= 8 := by rw [<- hp, jK]; exact h8
  unfold wQ
  have hpl2 : (jU k n).length <= 1000000000 := aMy hpl (by decide)
  have hout := axW hc3 hpl2
  refine hout.mono ?_
  rintro r w4 ⟨o4, x4⟩
  have x03 : aW w w3 eS := x1.trans x3 fun y hy h => by omega
  have z3 := x03.size
  have hfin : tE w4 w.heap.size 1 r (jU k n).length ((jU k n).map tJ) /\ aW w w4 eS := ⟨Ax o4 z3, x03.seq x4⟩
  rw [hRR]
  exact hfin
 have t3 : (3 : Int).toNat = 3 := rfl
 have t4 : (4 : Int).toNat = 4 := rfl
 have p3 : (2 : Nat) ^ 3 = 8 := rfl
 have p4 : (2 : Nat) ^ 4 = 16 := rfl
 by_cases h1 : n < 32
 .have d1 : decide ((n : Int) < 32) = true := decide_eq_true (by omega)
  have e1 := afO (a := n) (n := 3) (by omega) (by omega)
  have e2 : orI .i64 ((n * 2 ^ 3 : Nat) : Int) (k : Int) = ((n * 8 + k : Nat) : Int) := by
   rw [asV (by omega) (by omega), abU 3 (by omega)]
  have e3 : IntKind.u64.wrap ((n * 8 + k : Nat) : Int) = ((n * 8 + k : Nat) : Int) := kV (by omega) (by omega)
  simp (disch := omega) only [aD, aR, d1, pG, t3, e1, aA, LC, e2, fT, e3, aG]
  exact fin (n * 8 + k) 1 _ (by omega) (by omega) (by omega) (by unfold jU; rw [if_pos h1]) rfl
 have d1 : decide ((n : Int) < 32) = false := decide_eq_false (by omega)
 have e1 := afO (a := n) (n := 4) (by omega) (by omega)
 by_cases h2 : n < 4096
 .have d2 : decide ((n : Int) < 4096) = true := decide_eq_true (by omega)
  have e2 : orI .i64 ((n * 2 ^ 4 : Nat) : Int) 4 = ((n * 16 + 4 : Nat) : Int) := by
   have := asV (a := n * 2 ^ 4) (b := 4) (by omega) (by omega)
   rw [abU 4 (by omega)] at this
   exact this
  have e3 : orI .i64 ((n * 16 + 4 : Nat) : Int) (k : Int) = ((n * 16 + 4 + k : Nat) : Int) := by
   rw [asV (by omega) (by omega), show n * 16 + 4 = (n * 4 + 1) * 2 ^ 2 from by omega, abU 2 (by omega)]
  have e4 : IntKind.u64.wrap ((n * 16 + 4 + k : Nat) : Int) = ((n * 16 + 4 + k : Nat) : Int) := kV (by omega) (by omega)
  simp (disch := omega) only [aD, aR, d1, pG, aA, LC, fT, d2, t4, e1, e2, e3, e4, aG, aE]
  exact fin (n * 16 + 4 + k) 2 _ (by omega) (by omega) (by omega) (by unfold jU; rw [if_neg h1, if_pos h2]) rfl
 .have d2 : decide ((n : Int) < 4096) = false := decide_eq_false (by omega)
  have e2 : orI .i64 ((n * 2 ^ 4 : Nat) : Int) 12 = ((n * 16 + 12 : Nat) : Int) := by
   have := asV (a := n * 2 ^ 4) (b := 12) (by omega) (by omega)
   rw [abU 4 (by omega)] at this
   exact this
  have e3 : orI .i64 ((n * 16 + 12 : Nat) : Int) (k : Int) = ((n * 16 + 12 + k : Nat) : Int) := by
   rw [asV (by omega) (by omega), show n * 16 + 12 = (n * 4 + 3) * 2 ^ 2 from by omega, abU 2 (by omega)]
  have e4 : IntKind.u64.wrap ((n * 16 + 12 + k : Nat) : Int) = ((n * 16 + 12 + k : Nat) : Int) := kV (by omega) (by omega)
  simp (disch := omega) only [aD, aR, d1, pG, aA, LC, fT, d2, t4, e1, e2, e3, e4, aE]
  exact fin (n * 16 + 12 + k) 3 _ (by omega) (by omega) (by omega) (by unfold jU; rw [if_neg h1, if_neg h2]) rfl
theorem Oi (k n : Nat) : (jU k n).length <= 3 := by
 unfold jU; split
 .simp [jK]
 .split <;> simp [jK]
theorem aGW {v : aNY} {l : List UInt8} {w : aNX} (h : Bs w v l) (hl : l.length <= 131072) :
 aS pg Bv #[v] w (fun r w' => ∃ x, r = .tuple #[x, .int .i64 0] /\ tE w' w.heap.size 1 x (jU 0 l.length ++ l).length ((jU 0 l.length ++ l).map tJ) /\ aW w w' eS) := by
 refine agS ?_
 unfold afN Le
 have hv := h
 obtain ⟨a, c, rfl, hc⟩ := h.len
 rw [aLD] at *
 have d1 : decide ((l.length : Int) > 131072) = false := decide_eq_false (by omega)
 have d2 : decide ((131072 : Int) < (l.length : Int)) = false := decide_eq_false (by omega)
 simp (disch := omega) only [aD, aP, aA, cX, d1, aE]
 refine (aEZ (k := 0) (n := l.length) (by omega) hl).mono ?_
 rintro r w1 ⟨o1, x1⟩
 have z1 := x1.size
 have hcl := (hv.ext x1 (bY _)).cl
 rw [aLD] at hcl
 have hp := Oi 0 l.length
 refine mJ o1 hcl (azG _) z1 (by omega) fun v2 w2 o2 x2 => ?_
 refine ⟨v2, rfl, ?_, x1.trans x2 fun y hy h => by omega⟩
 rw [aLz, aLS]
 exact o2
theorem aHz {c : UInt8} {n : Nat} {w : aNX} (hn : n <= 131072) :
 aS pg tQ #[tJ c, .int .i64 n] w (fun r w' => ∃ x, r = .tuple #[x, .int .i64 0] /\ tE w' w.heap.size 1 x (jU 1 n ++ [c]).length ((jU 1 n ++ [c]).map tJ) /\ aW w w' eS) := by
 refine Ot ?_
 unfold Rt Cr
 have d0 : decide ((n : Int) < 0) = false := decide_eq_false (by omega)
 have d1 : decide ((n : Int) > 131072) = false := decide_eq_false (by omega)
 have d2 : decide ((131072 : Int) < (n : Int)) = false := decide_eq_false (by omega)
 simp (disch := omega) only [aD, aR, d0, aA, cW, bF, aLu, if_false, bL, cX, d1, aE]
 refine (aEZ (k := 1) (n := n) (by omega) hn).mono ?_
 rintro r w1 ⟨o1, x1⟩
 have z1 := x1.size
 have hp := Oi 1 n
 refine pD (cells := #[tJ c]) (by decide) (by decide) (by kernel_rfl) fun w2 o2 x2 s2 => ?_
 have z2 := x2.size
 refine mJ (m := 1) (news := [tJ c]) (o1.ext x2 (fun _ _ h => h)) (o2.cl (off := 0) (l := [tJ c]) (n := 1) rfl (fun i hi => by rw [aLt])) (by simp [one, tJ]) (by omega) (by omega) fun v2 w3 o3 x3 => ?_
 refine ⟨v2, rfl, ?_, (x1.seq x2).trans x3 fun y hy h => by omega⟩
 rw [aLz, aLS]
 exact o3
theorem aGY {cv : aNY} {n : Int} {w : aNX} (h : n < 0 ∨ 131072 < n) :
 aS pg tQ #[cv, .int .i64 n] w (fun r w' => r = .tuple #[.slice none 0 0, .int .i64 1] /\ aW w w' eS) := by
 refine Ot ?_
 unfold Rt Cr
 by_cases h0 : n < 0
 .have d0 : decide (n < 0) = true := decide_eq_true h0
  simp (disch := omega) only [aD, aR, d0, true_and, aA, iT, bF, if_true, aG, cV]
  exact aW.refl _ _
 .have d0 : decide (n < 0) = false := decide_eq_false h0
  have d1 : decide (n > 131072) = true := decide_eq_true (by omega)
  have d2 : decide (131072 < n) = true := decide_eq_true (by omega)
  simp (disch := omega) only [aD, aR, d0, true_and, aA, cW, bF, aLu, if_false, bL, cX, d1, aG]
  exact aW.refl _ _
theorem S2 {k n : Nat} {rest : List UInt8} (hk : k < 2) (hn : n <= 131072) : ∃ f, pW (jU k n ++ rest) = (⟨k, f, (jU k n).length, n, 0⟩, 0) := by
 have key : ∀ (X m d : Nat), 1 <= m -> X < 256 ^ m -> X % 4 = k -> lU k (X / 4 % 4) = m -> (if k < 2 /\ m = 1 then 3 else 4) = d -> X / 2 ^ d = n -> ∃ f, pW (oR X m ++ rest) = (⟨k, f, (oR X m).length, n, 0⟩, 0) := by
  intro X m d hm hX h4 hs hd0 hn2
  have hd : qF k (X / 4 % 4) = d := by unfold qF; rw [hs]; exact hd0
  obtain ⟨m', rfl⟩ : ∃ m', m = m' + 1 := ⟨m - 1, by omega⟩
  have hp : oR X (m' + 1) = UInt8.ofNat (X % 256) :: oR (X / 256) m' := rfl
  have hc : (UInt8.ofNat (X % 256)).toNat = X % 256 := by simp
  have e1 : X % 256 % 4 = k := by omega
  have e2 : X % 256 / 4 % 4 = X / 4 % 4 := by omega
  have hW : sS k (X / 4 % 4) = 20 := by unfold sS; rw [if_pos hk]
  have hlen : (UInt8.ofNat (X % 256) :: (oR (X / 256) m' ++ rest)).length = m' + 1 + rest.length := by simp [jK]; omega
  have htk : (UInt8.ofNat (X % 256) :: (oR (X / 256) m' ++ rest)).take (m' + 1) = oR X (m' + 1) := by
   rw [hp, <- aMp, aMN (by simp [jK]), aL0 (by simp [jK])]
  have q1 : n % 2 ^ 20 = n := aL5 (by omega)
  have q2 : n / 2 ^ 20 = 0 := aNC (by omega)
  have q3 : X % 256 ^ (m' + 1) = X := aL5 hX
  refine ⟨X / 4 % 4, ?_⟩
  rw [hp, aMp, pW]
  simp only [hc, e1, e2, hs, hd, hW]
  rw [if_neg (by rw [hlen]; omega), htk, X1, q3, hn2, q1, q2, if_neg (by omega), <- hp, jK]
 unfold jU
 by_cases h1 : n < 32
 .rw [if_pos h1]
  refine key _ 1 3 (by omega) (by omega) (by omega) ?_ ?_ (by omega)
  .unfold lU; rw [if_pos hk, if_neg (by omega), if_neg (by omega)]
  .rw [if_pos ⟨hk, rfl⟩]
 rw [if_neg h1]
 by_cases h2 : n < 4096
 .rw [if_pos h2]
  refine key _ 2 4 (by omega) (by omega) (by omega) ?_ ?_ (by omega)
  .unfold lU; rw [if_pos hk, if_pos (by omega)]
  .rw [if_neg (by omega)]
 .rw [if_neg h2]
  refine key _ 3 4 (by omega) (by omega) (by omega) ?_ ?_ (by omega)
  .unfold lU; rw [if_pos hk, if_neg (by omega), if_pos (by omega)]
  .rw [if_neg (by omega)]
theorem aFf {l more old : List UInt8} (hl : l.length <= 131072) : Ty (jU 0 l.length ++ l ++ more) old = .ok (l, old, (jU 0 l.length).length + l.length) := by
 rw [aLV]
 obtain ⟨f, h⟩ := S2 (k := 0) (n := l.length) (rest := l ++ more) (by omega) hl
 unfold Ty
 rw [h]
 simp only [if_true]
 unfold auE VQ Cx
 simp
theorem aH9 {c : UInt8} {n : Nat} {more old : List UInt8} (hn : n <= 131072) : Ty (jU 1 n ++ [c] ++ more) old = .ok (List.replicate n c, old, (jU 1 n).length + 1) := by
 rw [aLV]
 obtain ⟨f, h⟩ := S2 (k := 1) (n := n) (rest := [c] ++ more) (by omega) hn
 unfold Ty
 rw [h]
 simp only [if_true]
 unfold auE VQ Cx
 simp
def Hn (kind form n m bits : Nat) : Nat := kind + form * 4 + n * 2 ^ 4 + m * 2 ^ (4 + bits)
theorem aCC {kind form n m bits size : Nat} {rest : List UInt8} (hk : kind = 2 ∨ kind = 3) (hf : form < 4) (hb : Qi form = bits) (hs : lU kind form = size) (h8 : 4 + 2 * bits = 8 * size) (hn : n < 2 ^ bits) (hm : m < 2 ^ bits) (hn2 : n <= 131072) :
 pW (oR (Hn kind form n m bits) size ++ rest) = (⟨kind, form, size, n, m⟩, 0) := by
 obtain ⟨X, hX⟩ : ∃ X, X = Hn kind form n m bits := ⟨_, rfl⟩
 rw [<- hX]
 have hk4 : kind < 4 := by omega
 have hlow : kind + form * 4 < 16 := by omega
 have e0 : X = (kind + form * 4) + 2 ^ 4 * (n + m * 2 ^ bits) := by
  rw [hX, Hn, aMr, aNG, aL1 (2 ^ 4) n, aM1]
  congr 2
  rw [Nat.mul_left_comm]
 have e1 : X % 16 = kind + form * 4 := by rw [e0]; omega
 have e2 : X / 2 ^ 4 = n + m * 2 ^ bits := by rw [e0]; omega
 have hbp := aLW bits
 have q1 : (n + m * 2 ^ bits) % 2 ^ bits = n := by rw [Nat.add_mul_mod_self_right]; exact aL5 hn
 have q2 : (n + m * 2 ^ bits) / 2 ^ bits = m := by rw [Nat.add_mul_div_right _ _ hbp, aNC hn, aLt]
 have hXlt : X < 256 ^ size := by
  have h1 : n + m * 2 ^ bits < 2 ^ bits * 2 ^ bits := by
   have : (m + 1) * 2 ^ bits <= 2 ^ bits * 2 ^ bits := aLY _ hm
   rw [aMi] at this
   omega
  rw [<- aMr] at h1
  have h2 : (256 : Nat) ^ size = 2 ^ 4 * 2 ^ (bits + bits) := by
   rw [show (256 : Nat) = 2 ^ 8 from rfl, <- Nat.pow_mul, <- h8, <- aMr]; congr 1; omega
  rw [h2, e0]
  generalize 2 ^ (bits + bits) = Y at *
  generalize m * 2 ^ bits = Z at *
  omega
 have hsz := Tc kind form
 obtain ⟨m', rfl⟩ : ∃ m', size = m' + 1 := ⟨size - 1, by omega⟩
 have hp : oR X (m' + 1) = UInt8.ofNat (X % 256) :: oR (X / 256) m' := rfl
 have hc : (UInt8.ofNat (X % 256)).toNat = X % 256 := by simp
 have f1 : X % 256 % 4 = kind := by omega
 have f2 : X % 256 / 4 % 4 = form := by omega
 have hW : sS kind form = bits := by unfold sS; rw [if_neg (by omega)]; exact hb
 have hD : qF kind form = 4 := by unfold qF; rw [if_neg (by omega)]
 have hlen : (UInt8.ofNat (X % 256) :: (oR (X / 256) m' ++ rest)).length = m' + 1 + rest.length := by simp [jK]; omega
 have htk : (UInt8.ofNat (X % 256) :: (oR (X / 256) m' ++ rest)).take (m' + 1) = oR X (m' + 1) := by
  rw [hp, <- aMp, aMN (by simp [jK]), aL0 (by simp [jK])]
 have q3 : X % 256 ^ (m' + 1) = X := aL5 hXlt
 rw [hp, aMp, pW]
 simp only [hc, f1, f2, hs, hD, hW]
 rw [if_neg (by rw [hlen]; omega), htk, X1, q3, e2, q1, q2, if_neg (by omega)]
theorem aBF {a b : List Nat} {n : Nat} (h : (n + 1) / 2 <= a.length) : mW (a ++ b) n = mW a n := by
 unfold mW
 refine aL7 fun i hi => ?_
 have hi := aL8.1 hi
 unfold Wb
 have : (a ++ b).getD (i / 2) 0 = a.getD (i / 2) 0 := by
  rw [aLE, aLE, aLR (by omega)]
 rw [this]
theorem aI2 {wl s : List UInt8} (h : jF (cF wl) ≠ 0) (hl : wl.length <= 129) : wtR (nX (wrB (cF wl)) ++ s) = .ok (wl, (wrB (cF wl)).length) := by
 have hnl := kC wl
 have hok := yM rfl h
 obtain ⟨m, k, hlm, hml, hwh, hhp, htk⟩ := aH8 rfl h (by omega)
 have hwl := axG (cF wl)
 have hre : nX (wrB (cF wl)) = UInt8.ofNat (126 + wl.length) :: nX (CA m) := by
  unfold wrB
  show List.map _ (_ :: _) = _
  rw [aME, htk, hnl]
 have hrl : (nX (CA m)).length = (m.length + 1) / 2 := by rw [aLD, Cm]
 have hh : (UInt8.ofNat (126 + wl.length)).toNat = 126 + wl.length := by simp; omega
 have hm2 : 126 + wl.length - 127 = m.length := by omega
 have hpm : ∀ x ∈ CA m, x < 256 := fun x hx => aJY (fun w hw => aMy (hok.1 w hw) hok.2.1) (by omega) x (by
  unfold wrB; rw [htk]; exact aLQ _ hx)
 have hnb : cF (nX (CA m)) = CA m := X5 hpm
 rw [hre, aMp, XC, hh, hm2, if_pos (by omega), if_neg (by rw [aLz, hrl]; omega)]
 have hna : cF (nX (CA m) ++ s) = CA m ++ cF s := by rw [<- hnb]; simp [cF]
 rw [hna, aBF (by rw [Cm]; omega), hhp, awA]
 have hwm : tP m = some k := by rw [hhp] at hwh; exact hwh
 rw [hwm]
 simp only
 have hle : nX m ++ [UInt8.ofNat k] = wl := by
  have e : nX (cF wl) = wl := aAW wl
  rw [hlm] at e
  rw [<- e]
  show _ = List.map _ (m ++ [k])
  rw [aLS] <;> rfl
 rw [hle, hwl, hnl]
 congr 2
 omega
theorem aGV {l wl d s more old : List UInt8} {kind form bits size : Nat} (hk : (kind = 2 /\ jF (cF wl) ≠ 0 /\ wl.length <= 129 /\ d = nX (wrB (cF wl))) ∨ (kind = 3 /\ d = [] /\ old = wl)) (hd : jF (cF wl) ≠ 0)
 (hf : form < 4) (hb : Qi form = bits) (hs : lU kind form = size) (h8 : 4 + 2 * bits = 8 * size) (hn : l.length < 2 ^ bits) (hm : (d ++ s).length < 2 ^ bits) (hn2 : l.length <= 131072)
 (hr : (if form = 0 then Vk wl s l.length else Jw wl s l.length) = .ok (cF l)) :
 Ty (oR (Hn kind form l.length (d ++ s).length bits) size ++ (d ++ s) ++ more) old = .ok (l, wl, (oR (Hn kind form l.length (d ++ s).length bits) size ++ (d ++ s)).length) := by
 rw [aLV]
 have hk' : kind = 2 ∨ kind = 3 := by rcases hk with h | h; exact .inl h.1; exact .inr h.1
 have hh := aCC (rest := (d ++ s) ++ more) hk' hf hb hs h8 hn hm hn2
 have hw2 : wl.length ≠ 0 := by
  have := yM rfl hd
  rw [kC] at this
  omega
 have hkn0 : kind ≠ 0 := by omega
 have hkn1 : kind ≠ 1 := by omega
 unfold Ty
 rw [hh]
 simp only [if_true]
 unfold auE Cx
 simp only [if_neg hkn0, if_neg hkn1, XV]
 rw [if_neg (by rw [aLz]; omega), aNu rfl]
 unfold VQ auI Cx
 simp only [if_neg hkn0, if_neg hkn1]
 have hfin : aiQ ⟨kind, form, size, l.length, (d ++ s).length⟩ wl s = .ok (l, wl, size + (d ++ s).length) := by
  unfold aiQ TB Cx
  simp only [if_neg hkn0, if_neg hkn1, if_neg hw2]
  rw [hr]
  simp only [aAW]
 have hlen : (oR (Hn kind form l.length (d ++ s).length bits) size ++ (d ++ s)).length = size + (d ++ s).length := by rw [aLz, jK]
 rw [hlen]
 rcases hk with ⟨h2, h3, h4, h5⟩ | ⟨h2, h3, h4⟩
 .rw [if_pos h2]
  have := aI2 (s := s) h3 h4
  rw [<- h5] at this
  rw [this]
  simp only
  have hdl : (wrB (cF wl)).length = d.length := by rw [h5]; simp [nX]
  rw [hdl, aNK rfl]
  exact hfin
 .rw [if_neg (by omega)]
  simp only
  subst h3
  subst h4
  exact hfin
def aJl (w : aNX) (base : Nat) (l wl : List UInt8) (fresh : Bool) (r : aNY) : Prop :=
 (∃ e : Int, r = .tuple #[.slice none 0 0, .int .i64 e] /\ ((l = [] /\ e = 1) ∨ (l ≠ [] /\ fresh = true /\ jF (cF wl) ≠ 0 /\ 129 < wl.length /\ e = 12) ∨ (l ≠ [] /\ (jF (cF wl) = 0 ∨ ∃ s ∈ cF l, bitsOf (wC wl) s = 0) /\ e = 1))) ∨
 (l ≠ [] /\ jF (cF wl) ≠ 0 /\ (∀ s ∈ cF l, 0 < bitsOf (wC wl) s) /\ (fresh = true -> wl.length <= 129) /\ ∃ v bytes, r = .tuple #[v, .int .i64 0] /\ tE w base 1 v bytes.length (bytes.map tJ) /\ bytes.length <= 11 * l.length / 8 + 100 /\
   (∃ c t, bytes = c :: t /\ c.toNat % 4 = if fresh then 2 else 3) /\ (∀ more, (pW (bytes ++ more)).1.count = l.length) /\ ∀ more old, (fresh = true ∨ old = wl) -> Ty (bytes ++ more) old = .ok (l, wl, bytes.length))
theorem aIR {a b : Nat} (ha : a < 2 ^ 64) (hb : b < 2 ^ 64) : orI .u64 (a : Int) (b : Int) = ((a ||| b : Nat) : Int) := aBX ha hb
theorem aEL {RR : aNY -> aNX -> Prop} {sv bv : aNY} {l wl B : List UInt8} {kind form bits size : Nat} {fresh : Bool} {w0 w : aNX} (h : Bs w sv l) (hb : Bs w bv B) (hl : l.length <= 131072) (hk : kind < 4) (hf : form < 4) (hbits : bits <= 18) (hsz : 1 <= size /\ size <= 8) (hB : B.length < 2 ^ 18) (hn : l.length < 2 ^ bits)
 (hk' : ∀ r w', tE w' w.heap.size 1 r (oR (Hn kind form l.length B.length bits) size ++ B).length ((oR (Hn kind form l.length B.length bits) size ++ B).map tJ) -> aW w w' eS -> RR (.tuple #[r, .int .i64 0]) w') :
 sJ RR sv (.int .i64 (kind : Nat)) bv (.int .i64 (form : Nat)) (.int .i64 (bits : Nat)) (.int .i64 (size : Nat)) w := by
 unfold sJ
 refine (abW w).mono ?_
 rintro r w1 ⟨rfl, hlt1, hw1, x1⟩
 have z1 := x1.size
 have h1 := h.ext x1 (bY _)
 have hb1 := hb.ext x1 (bY _)
 have hbv := hb1
 obtain ⟨a, c, rfl, hc⟩ := h1.len
 obtain ⟨a2, c2, rfl, hc2⟩ := hb1.len
 rw [aLD] at hbv
 have t2 : (2 : Int).toNat = 2 := rfl
 have t4 : (4 : Int).toNat = 4 := rfl
 have e1 := afO (a := form) (n := 2) (by omega) (by omega)
 have e2 := afO (a := l.length) (n := 4) (by omega) (by omega)
 have e3 : orI .i64 (kind : Int) ((form * 2 ^ 2 : Nat) : Int) = ((kind + form * 4 : Nat) : Int) := by
  rw [asV (by omega) (by omega), Nat.or_comm, abU 2 (by omega)]; congr 1; omega
 have e4 : orI .i64 ((kind + form * 4 : Nat) : Int) ((l.length * 2 ^ 4 : Nat) : Int) = ((kind + form * 4 + l.length * 2 ^ 4 : Nat) : Int) := by
  rw [asV (by omega) (by omega), Nat.or_comm, abU 4 (by omega)]; congr 1; omega
 have e5 : IntKind.u64.wrap ((kind + form * 4 + l.length * 2 ^ 4 : Nat) : Int) = ((kind + form * 4 + l.length * 2 ^ 4 : Nat) : Int) := kV (by omega) (by omega)
 have e6 : IntKind.u64.wrap (B.length : Int) = (B.length : Int) := kV (by omega) (by omega)
 have e7 : (4 : Int) + (bits : Int) = ((4 + bits : Nat) : Int) := by omega
 have hp22 : 2 ^ (4 + bits) <= 2 ^ 22 := aLC (by omega) (by omega)
 have hm40 : B.length * 2 ^ (4 + bits) < 2 ^ 40 := by
  have h1 : B.length * 2 ^ (4 + bits) <= (2 ^ 18 - 1) * 2 ^ 22 := Nat.mul_le_mul (by omega) hp22
  have : (2 ^ 18 - 1) * 2 ^ 22 < 2 ^ 40 := by decide
  omega
 have e8 : IntKind.u64.wrap ((B.length : Int) * 2 ^ (min (4 + bits) IntKind.u64.bits)) = ((B.length * 2 ^ (4 + bits) : Nat) : Int) := by
  have hmin : min (4 + bits) IntKind.u64.bits = 4 + bits := by
   have : IntKind.u64.bits = 64 := rfl
   omega
  rw [hmin]
  have : (B.length : Int) * 2 ^ (4 + bits) = ((B.length * 2 ^ (4 + bits) : Nat) : Int) := by push_cast; rfl
  rw [this]
  exact kV (by omega) (by omega)
 have hlow : kind + form * 4 + l.length * 2 ^ 4 < 2 ^ (4 + bits) := by
  rw [aMr]
  generalize 2 ^ bits = Y at *
  omega
 have e9 : orI .u64 ((kind + form * 4 + l.length * 2 ^ 4 : Nat) : Int) ((B.length * 2 ^ (4 + bits) : Nat) : Int) = ((Hn kind form l.length B.length bits : Nat) : Int) := by
  rw [aIR (by omega) (by omega), azQ hlow, Hn, aL1 (2 ^ (4 + bits))]
 have hX : Hn kind form l.length B.length bits < 2 ^ 64 := by unfold Hn; omega
 have t8 : ((4 + bits : Nat) : Int).toNat = 4 + bits := aLs _
 simp (disch := omega) only [aD, pG, t2, e1, aLD, aP, bJ, e7, aQ, aA, fT, e6, t8, e8, t4, e2, LC, e3, e4, e5, e9]
 refine (Xm (x := Hn kind form l.length B.length bits) (n := size) hw1 (fun y hy => by omega) hX hsz (aNn _)).mono ?_
 rintro r w2 ⟨rfl, hw2, x2⟩
 have z2 := x2.size
 rw [aMM] at hw2
 have x02 : aW w w2 eS := x1.trans x2 fun y hy h => by omega
 have hb2 := hb.ext x02 (bY _)
 rw [aLD] at hb2
 have hp5 : (oR (Hn kind form l.length B.length bits) size).length <= 8 := by rw [jK]; exact hsz.2
 refine (ayD hw2 (fun y hy => by omega) hb2 (by omega)).mono ?_
 rintro r w3 ⟨rfl, hw3, x3⟩
 have z3 := x3.size
 refine (axW hw3 (by rw [aLz]; omega)).mono ?_
 rintro r w4 ⟨o4, x4⟩
 refine hk' r w4 (Ax o4 (by omega)) ((x02.trans x3 fun y hy h => by omega).seq x4)
def aFr (wl : List UInt8) (n : Nat) (b : List UInt8) : Except Int (List Nat) := if n < 256 then Vk wl b n else Jw wl b n
def aJJ (n : Nat) : Nat := 11 * n / 8 + 12
theorem aEP {lv sv : aNY} {wl l : List UInt8} {w : aNX} (hw : Bs w lv wl) (hwl : wl.length <= 100000) (h : Bs w sv l) (hl : l.length <= 131072) :
 aS pg xO #[lv, sv] w (fun r w' => aJ0 w' w.heap.size wl l (aFr wl l.length) (aJJ l.length) False r /\ aW w w' eS) := by
 refine Ur ?_
 unfold Qg BD
 have hv := h
 obtain ⟨a, c, rfl, hc⟩ := h.len
 rw [aLD] at hv ⊢
 by_cases hlt : l.length < 256
 .have d1 : decide ((l.length : Int) < 256) = true := decide_eq_true (by omega)
  simp (disch := omega) only [aD, aP, aA, aR, d1, aG]
  refine (aDn hw hwl hv hl).mono ?_
  rintro r w1 ⟨ho, x1⟩
  rcases ho with ⟨hb, rfl⟩ | ⟨hd, hall, v, bytes, rfl, hbs, hat, hlen, hback⟩
  .simp (disch := omega) only [pT, pS, aA]
   exact ⟨.inl ⟨hb, rfl⟩, x1⟩
  .simp (disch := omega) only [pT, pS, aA]
   refine ⟨.inr ⟨hd, hall, v, bytes, rfl, hbs, hat, ?_, ?_⟩, x1⟩
   .unfold aJJ; omega
   .unfold aFr; rw [if_pos hlt]; exact hback
 .have d1 : decide ((l.length : Int) < 256) = false := decide_eq_false (by omega)
  simp (disch := omega) only [aD, aP, aA, aR, d1, aE]
  refine (aB8 hw hwl hv hl).mono ?_
  rintro r w1 ⟨ho, x1⟩
  rcases ho with ⟨hb, rfl⟩ | ⟨hd, hall, v, bytes, rfl, hbs, hat, hlen, hback⟩
  .simp (disch := omega) only [pT, pS, aA]
   refine ⟨.inl ⟨?_, rfl⟩, x1⟩
   rcases hb with hb | hb | hb
   .exact .inl hb
   .omega
   .exact .inr (.inr hb)
  .simp (disch := omega) only [pT, pS, aA]
   refine ⟨.inr ⟨hd, hall, v, bytes, rfl, hbs, hat, ?_, ?_⟩, x1⟩
   .unfold aJJ; omega
   .unfold aFr; rw [if_neg hlt]; exact hback
theorem aGQ {sv lv : aNY} {l wl : List UInt8} {fresh : Bool} {w : aNX} (h : Bs w sv l) (hl : l.length <= 131072) (hw : Bs w lv wl) (hwl : wl.length <= 100000) :
 aS pg A6 #[sv, lv, .bool fresh] w (fun r w' => aJl w' w.heap.size l wl fresh r /\ aW w w' eS) := by
 refine V2 ?_
 obtain ⟨RR, hRR⟩ : ∃ RR : aNY -> aNX -> Prop, RR = fun r w' => aJl w' w.heap.size l wl fresh r /\ aW w w' eS := ⟨_, rfl⟩
 rw [<- hRR]
 unfold UH Ee DU
 have hv := h
 obtain ⟨a, c, rfl, hc⟩ := h.len
 rw [aLD] at hv ⊢
 by_cases h0 : l.length = 0
 .have n0 : ((l.length : Int) == 0) = true := by rw [h0] <;> rfl
  simp (disch := omega) only [aD, aP, aA, dV, n0, iT, bF, if_true, aG, cV]
  rw [hRR]
  exact ⟨.inl ⟨1, rfl, .inl ⟨aL4.1 h0, rfl⟩⟩, aW.refl _ _⟩
 have hne : l ≠ [] := fun e => h0 (by rw [e] <;> rfl)
 have n0 : ((l.length : Int) == 0) = false := beq_eq_false_iff_ne.2 (by omega)
 have d1 : decide ((l.length : Int) > 131072) = false := decide_eq_false (by omega)
 have d2 : decide ((131072 : Int) < (l.length : Int)) = false := decide_eq_false (by omega)
 have tail : ∀ (kind : Nat) (d : List UInt8) (dv : aNY) (w1 : aNX), aW w w1 eS -> Bs w1 dv d -> tE w1 w.heap.size 1 dv d.length (d.map tJ) -> d.length <= 66 →
     ((kind = 2 /\ fresh = true /\ jF (cF wl) ≠ 0 /\ wl.length <= 129 /\ d = nX (wrB (cF wl))) ∨ (kind = 3 /\ fresh = false /\ d = [])) →
     zX RR (.slice a l.length c) lv (.int .i64 (kind : Nat)) dv w1 := by
  intro kind d dv w1 x1 hdv od hdl hkd
  have z1 := x1.size
  unfold zX Ep
  have hv1 := hv.ext x1 (bY _)
  have hw1 := hw.ext x1 (bY _)
  refine (aEP hw1 hwl hv1 hl).mono ?_
  rintro r w2 ⟨ho, x2⟩
  have z2 := x2.size
  rcases ho with ⟨hb, rfl⟩ | ⟨hd, hall, v, bytes, rfl, hbs, hat, hlen, hback⟩
  .have n1 : ((1 : Int) != 0) = true := rfl
   simp (disch := omega) only [aD, pT, pS, aP, aA, aR, bF, cY, n1, aG]
   rw [hRR]
   refine ⟨.inl ⟨1, rfl, .inr (.inr ⟨hne, ?_, rfl⟩)⟩, x1.seq x2⟩
   rcases hb with hb | hb | hb
   .exact .inl hb
   .exact hb.elim
   .exact .inr hb
  .have n1 : ((0 : Int) != 0) = false := rfl
   have hbl : bytes.length <= 11 * l.length / 8 + 12 := hlen
   have od2 := od.ext x2 (fun _ _ h => h)
   have hbv := hbs
   obtain ⟨a2, c2, rfl, hc2⟩ := hbs.len
   rw [aLD] at hbv
   have hcl := hbv.cl
   rw [aLD] at hcl
   simp (disch := omega) only [aD, aLD, pT, pS, aP, aA, aR, bF, cY, n1, aE]
   refine mJ od2 hcl (azG _) (by omega) (by omega) fun v3 w3 o3 x3 => ?_
   have z3 := x3.size
   have hs3 : Bs w3 v3 (d ++ bytes) := by
    have := o3.sl
    rw [<- aLS] at this
    exact this
   obtain ⟨a3, c3, rfl⟩ := o3.len
   have hml : (d ++ bytes).length = d.length + bytes.length := aLz
   rw [<- hml]
   have x03 : aW w w3 eS := (x1.seq x2).trans x3 fun y hy h => by omega
   have hv3 := hv.ext x03 (bY _)
   have d3 : decide ((262144 : Int) <= ((d ++ bytes).length : Int)) = false := decide_eq_false (by omega)
   have d4 : decide (((d ++ bytes).length : Int) ≥ 262144) = false := decide_eq_false (by omega)
   have hkd' : (kind = 2 ∨ kind = 3) /\ (kind % 4 = if fresh then 2 else 3) := by
    rcases hkd with ⟨rfl, hfr, _⟩ | ⟨rfl, hfr, _⟩
    .exact ⟨.inl rfl, by rw [hfr] <;> rfl⟩
    .exact ⟨.inr rfl, by rw [hfr] <;> rfl⟩
   have fin : ∀ (form bits size : Nat), form < 4 -> Qi form = bits -> lU kind form = size -> 4 + 2 * bits = 8 * size -> l.length < 2 ^ bits -> (d ++ bytes).length < 2 ^ bits -> (form = 0 ↔ l.length < 256) →
       sJ RR (.slice a l.length c) (.int .i64 (kind : Nat)) (.slice a3 (d ++ bytes).length c3) (.int .i64 (form : Nat)) (.int .i64 (bits : Nat)) (.int .i64 (size : Nat)) w3 := by
    intro form bits size hf hb hs h8 hn hm hfi
    have hbd := ayU form
    have hsd := Tc kind form
    have hs3' := hs3
    rw [<- hml] at hs3'
    refine aEL (l := l) (B := d ++ bytes) (fresh := fresh) (wl := wl) (w0 := w) hv3 hs3' hl (by omega) hf (by omega) (by omega) (by omega) hn fun r w4 o4 x4 => ?_
    rw [hRR]
    have hpl : (oR (Hn kind form l.length (d ++ bytes).length bits) size ++ (d ++ bytes)).length = size + (d ++ bytes).length := by rw [aLz, jK]
    refine ⟨.inr ⟨hne, hd, hall, ?_, r, _, rfl, Ax o4 (by omega), ?_, ?_, ?_, ?_⟩, x03.seq x4⟩
    .intro hfr
     rcases hkd with ⟨_, _, _, h4, _⟩ | ⟨_, hfr', _⟩
     .exact h4
     .rw [hfr] at hfr'; cases hfr'
    .rw [hpl]; omega
    .obtain ⟨s', rfl⟩ : ∃ s', size = s' + 1 := ⟨size - 1, by omega⟩
     refine ⟨_, _, rfl, ?_⟩
     have : (UInt8.ofNat (Hn kind form l.length (d ++ bytes).length bits % 256)).toNat = Hn kind form l.length (d ++ bytes).length bits % 256 := by simp
     rw [this, <- hkd'.2]
     unfold Hn
     have e : (d ++ bytes).length * 2 ^ (4 + bits) = 16 * ((d ++ bytes).length * 2 ^ bits) := by rw [aMr]; exact Nat.mul_left_comm _ _ _
     rw [e]; omega
    .intro more
     rw [aLV, aCC hkd'.1 hf hb hs h8 hn hm hl]
    .intro more old hold
     refine aGV ?_ hd hf hb hs h8 hn hm hl ?_
     .rcases hkd with ⟨h2, h3, h4, h5, h6⟩ | ⟨h2, h3, h4⟩
      .exact .inl ⟨h2, h4, h5, h6⟩
      .refine .inr ⟨h2, h4, ?_⟩
       rcases hold with h | h
       .rw [h3] at h; cases h
       .exact h
     .unfold aFr at hback
      by_cases hlt : l.length < 256
      .rw [if_pos (hfi.2 hlt)]; rw [if_pos hlt] at hback; exact hback
      .rw [if_neg (fun h => hlt (hfi.1 h))]; rw [if_neg hlt] at hback; exact hback
   have hmx : (if (((d ++ bytes).length : Nat) : Int) > ((l.length : Nat) : Int) then (((d ++ bytes).length : Nat) : Int) else ((l.length : Nat) : Int)) = ((max l.length (d ++ bytes).length : Nat) : Int) := by split <;> omega
   have hls : ∀ f, lU kind f = if f = 2 then 4 else if f = 3 then 5 else 3 := fun f => by unfold lU; rw [if_neg (by omega)]
   obtain ⟨M, hM⟩ : ∃ M, M = max l.length (d ++ bytes).length := ⟨_, rfl⟩
   rw [<- hM] at hmx
   by_cases hlt : l.length < 256
   .have d5 : decide ((l.length : Int) < 256) = true := decide_eq_true (by omega)
    have d6 : decide ((M : Int) < 1024) = true := decide_eq_true (by omega)
    simp (disch := omega) only [aP, d5, rC, if_true, aG, bL, aA, A2, hmx, aR, d6, nJ, d3, aE]
    exact fin 0 10 3 (by omega) rfl (hls 0) (by omega) (by omega) (by omega) ⟨fun _ => hlt, fun _ => rfl⟩
   have d5 : decide ((l.length : Int) < 256) = false := decide_eq_false (by omega)
   by_cases h1 : M < 1024
   .have d6 : decide ((M : Int) < 1024) = true := decide_eq_true (by omega)
    simp (disch := omega) only [aP, d5, uX, aLu, if_false, aE, cV, aA, A2, hmx, aR, d6, aG, nJ, d3]
    exact fin 1 10 3 (by omega) rfl (hls 1) (by omega) (by omega) (by omega) ⟨fun h => (by omega), fun h => (by omega)⟩
   have d6 : decide ((M : Int) < 1024) = false := decide_eq_false (by omega)
   by_cases h2 : M < 16384
   .have d7 : decide ((M : Int) < 16384) = true := decide_eq_true (by omega)
    simp (disch := omega) only [aP, d5, uX, aLu, if_false, aE, cV, aA, A2, hmx, aR, d6, d7, aG, nJ, d3]
    exact fin 2 14 4 (by omega) rfl (hls 2) (by omega) (by omega) (by omega) ⟨fun h => (by omega), fun h => (by omega)⟩
   .have d7 : decide ((M : Int) < 16384) = false := decide_eq_false (by omega)
    simp (disch := omega) only [aP, d5, uX, aLu, if_false, aE, cV, aA, A2, hmx, aR, d6, d7, nJ, d3]
    exact fin 3 18 5 (by omega) rfl (hls 3) (by omega) (by omega) (by omega) ⟨fun h => (by omega), fun h => (by omega)⟩
 cases fresh with
 | false =>
   simp (disch := omega) only [aD, aP, aE, aA, dV, n0, cW, bF, aLu, if_false, bL, cX, d1]
   exact tail 3 [] _ w (aW.refl _ _) (Sl.nil w) ⟨rfl, .inl ⟨rfl, rfl⟩⟩ (by simp) (.inr ⟨rfl, rfl, rfl⟩)
 | true =>
   simp (disch := omega) only [aD, aP, aG, aA, dV, n0, cW, bF, aLu, if_false, bL, cX, d1, aE]
   by_cases hbad : jF (cF wl) = 0 ∨ 129 < wl.length
   .refine (aD3 hw hwl hbad).mono ?_
    rintro r w1 ⟨rfl, rfl⟩
    by_cases hd : jF (cF wl) = 0
    .rw [if_pos hd]
     have n1 : ((1 : Int) != 0) = true := rfl
     simp (disch := omega) only [pT, pS, aA, cY, n1, aG]
     rw [hRR]
     exact ⟨.inl ⟨1, rfl, .inr (.inr ⟨hne, .inl hd, rfl⟩)⟩, aW.refl _ _⟩
    .rw [if_neg hd]
     have n1 : ((12 : Int) != 0) = true := rfl
     simp (disch := omega) only [pT, pS, aA, cY, n1, aG]
     rw [hRR]
     exact ⟨.inl ⟨12, rfl, .inr (.inl ⟨hne, rfl, hd, by omega, rfl⟩)⟩, aW.refl _ _⟩
   .have hd : jF (cF wl) ≠ 0 := fun h => hbad (.inl h)
    refine (aHp hw rfl hd (by omega)).mono ?_
    rintro r w1 ⟨v', rfl, o1, x1⟩
    have n1 : ((0 : Int) != 0) = false := rfl
    have hbl : (nX (wrB (cF wl))).length = (wrB (cF wl)).length := by simp [nX]
    have hwl2 := axG (cF wl)
    rw [kC] at hwl2
    have hs := o1.sl
    obtain ⟨a1, c1, rfl⟩ := o1.len
    simp (disch := omega) only [pT, pS, aA, cY, n1, aE]
    exact tail 2 (nX (wrB (cF wl))) _ w1 x1 hs (by rw [hbl]; exact o1) (by omega) (.inl ⟨rfl, rfl, hd, by omega, rfl⟩)
theorem aBt {w : aNX} {b : Nat} {l : List UInt8} (o : eM w b (l.map tJ)) : Bs w (.slice (some ⟨b, 0, none⟩) l.length l.length) l :=
 o.bs (aLF _) fun i hi => by simp [hi]
theorem aGu (w : aNX) : aS pg CM #[] w (fun r w' => r = .bool true /\ aW w w' eS) := by
 refine apR ?_
 unfold asL Pq
 refine pD (cells := #[.int .u8 1, .int .u8 2]) (by decide) (by decide) (by kernel_rfl) fun w1 o1 x1 s1 => ?_
 refine (aGW (l := [1, 2]) (aBt o1) (by decide)).mono ?_
 rintro r w2 ⟨xa, rfl, oa, x2⟩
 have ea : jU 0 ([1, 2] : List UInt8).length ++ [1, 2] = [16, 1, 2] := by decide
 rw [ea] at oa
 simp (disch := omega) only [aD, pT, pS, aA]
 refine (aHz (c := 7) (n := 3) (by decide)).mono ?_
 rintro r w3 ⟨xb, rfl, ob, x3⟩
 have eb : jU 1 3 ++ [(7 : UInt8)] = [25, 7] := by decide
 rw [eb] at ob
 simp (disch := omega) only [pT, pS, aA]
 refine pD (cells := #[.int .u8 0, .int .u8 1, .int .u8 2, .int .u8 0]) (by decide) (by decide) (by kernel_rfl) fun w4 o4 x4 s4 => ?_
 refine pD (cells := #[.int .u8 2, .int .u8 1, .int .u8 1]) (by decide) (by decide) (by kernel_rfl) fun w5 o5 x5 s5 => ?_
 refine (aGQ (l := [0, 1, 2, 0]) (wl := [2, 1, 1]) (fresh := true) (aBt (o4.ext x5 (fun h => h))) (by decide) (aBt o5) (by decide)).mono ?_
 rintro r w6 ⟨hp, x6⟩
 have hd : jF (cF [2, 1, 1]) = 2 := by decide +kernel
 have hall : ∀ s ∈ cF [0, 1, 2, 0], 0 < bitsOf (wC [2, 1, 1]) s := by decide +kernel
 rcases hp with ⟨e, -, he⟩ | ⟨-, -, -, -, v, bytes, rfl, o6, hbl, -, -, hread⟩
 .rcases he with he | he | he
  .exact absurd he.1 (by decide)
  .exact absurd he.2.2.2.1 (by decide)
  .rcases he.2.1 with h | ⟨s, h1, h2⟩
   .omega
   .have := hall s h1; omega
 have hread := hread [] [] (.inl rfl)
 rw [aMd] at hread
 have hl4 : ([0, 1, 2, 0] : List UInt8).length = 4 := rfl
 rw [hl4] at hbl
 simp (disch := omega) only [pT, pS, aA]
 refine (aGB (v := v) (l := bytes) o6.sl (by omega) (Sl.nil w6) (old := []) (by decide)).mono ?_
 rintro r w7 ⟨hr, x7⟩
 rw [hread] at hr
 obtain ⟨vl, vw, rfl, ol, ow⟩ := hr
 have hca := iD (l := [16, 1, 2]) (((((oa.sl.ext x3 (bY _)).ext x4 (bY _)).ext x5 (bY _)).ext x6 (bY _)).ext x7 (bY _))
 have hcb := iD (l := [25, 7]) ((((ob.sl.ext x4 (bY _)).ext x5 (bY _)).ext x6 (bY _)).ext x7 (bY _))
 have hcl := iD (l := [0, 1, 2, 0]) ol.sl
 have hcw := iD (l := [2, 1, 1]) ow.sl
 obtain ⟨a6, c6, rfl⟩ := o6.len
 have n0 : ((0 : Int) == 0) = true := rfl
 have n1 : ((bytes.length : Int) == (bytes.length : Int)) = true := by simp
 have sa : ((⟨([16, 1, 2] : List UInt8).toArray⟩ : ByteArray).toList == (⟨#[16, 1, 2]⟩ : ByteArray).toList) = true := ajV _
 have sb : ((⟨([25, 7] : List UInt8).toArray⟩ : ByteArray).toList == (⟨#[25, 7]⟩ : ByteArray).toList) = true := ajV _
 have sl : ((⟨([0, 1, 2, 0] : List UInt8).toArray⟩ : ByteArray).toList == (⟨#[0, 1, 2, 0]⟩ : ByteArray).toList) = true := ajV _
 have sw : ((⟨([2, 1, 1] : List UInt8).toArray⟩ : ByteArray).toList == (⟨#[2, 1, 1]⟩ : ByteArray).toList) = true := ajV _
 simp (maxSteps := 4000000) (disch := omega) only [x40, x41, x42, x43, aA, hca, AJ, sa, rC, bF, if_true, bL, dV, n0, hcb, sb, hcl, sl, hcw, sw, aP, n1, true_and]
 exact (((((x1.seq x2).seq x3).seq x4).seq x5).seq x6).seq x7
abbrev rv (x : ByteArray) (e : Int) : aNY := .agg #[.string x, .int .i64 e]
theorem aI6 {p : Nat} {w : aNX} {x : ByteArray} {e : Int} {c : List aNY} {z : aNY} (o : eM w p c) (hc : c.length = 2) {RR : aNY -> aNX -> Prop}
 (hR : ∀ w', aW w w' (fun y => y = p) -> RR (.tuple #[rv x e, z]) w') :
 aD pg (aT 45 (.pointer (some ⟨p, 0, none⟩)) (rv x e)) w fun _u w => Ac pg 45 (.pointer (some ⟨p, 0, none⟩)) w fun r0 => RR (.tuple #[r0, z]) w := by
 match c, hc with
 | [c0, c1], _ =>
   refine lY o rfl (by simp [one]) (by simp) fun w6 o6 x6 s6 => ?_
   refine VM o6 (by simp [bM]) ?_
   simp only [bM, aLw, aLv, aLy, aLx, aLB]
   exact hR _ x6
theorem aBd {x : ByteArray} {e : Int} {n : Nat} {w : aNX} :
 aS pg F5 #[rv x e, .int .i64 n] w (fun r w' => ∃ x' s, r = .tuple #[rv x' (Aw (fU x) e n).2.2, .string s] /\ fU x' = (Aw (fU x) e n).2.1 /\ fU s = (Aw (fU x) e n).1 /\ aW w w' eS) := by
 refine auR ?_
 obtain ⟨RR, hRR⟩ : ∃ RR : aNY -> aNX -> Prop, RR = fun r w' => ∃ x' s, r = .tuple #[rv x' (Aw (fU x) e n).2.2, .string s] /\ fU x' = (Aw (fU x) e n).2.1 /\ fU s = (Aw (fU x) e n).1 /\ aW w w' eS := ⟨_, rfl⟩
 rw [<- hRR]
 have hll := eU x
 unfold awR QY
 refine nR fun w1 o1 x1 s1 => ?_
 have o1 : eM w1 w.heap.size [.string x, .int .i64 e] := o1
 refine tC fun w2 o2 x2 s2 => ?_
 have o1 := o1.ext x2 (fun h => h)
 have x02 := x1.seq x2
 have z1 := x1.size
 have c0 := o1.cell (off := 0)
 have c1 := o1.cell (off := 1)
 have l1 := mT (off := 0) o1 (by simp)
 simp only [aLq, aLr, aLy, aLx, aLB] at c0 c1 l1
 by_cases he : e = 0
 rotate_left
 .have n1 : (e != 0) = true := by simpa using he
  have ht : Aw (fU x) e n = ([], fU x, e) := by unfold Aw; rw [if_pos he]
  simp (disch := omega) only [aD, bW, aLt, aR, aA, cE, mR, gO, c1, aH, cY, n1, l1, aG]
  refine aI6 o2 rfl fun w' x' => ?_
  rw [hRR, ht]
  exact ⟨x, ⟨#[]⟩, rfl, rfl, rfl, x02.new x' (by omega)⟩
 subst he
 have n1 : ((0 : Int) != 0) = false := rfl
 have d0 : decide ((n : Int) < 0) = false := by simp
 by_cases hsh : x.size < n
 .have d1 : decide ((x.size : Int) < (n : Int)) = true := by simp; omega
  have ht : Aw (fU x) 0 n = ([], fU x, 10) := by unfold Aw; rw [if_neg (by decide), if_pos (by omega)]
  simp (disch := omega) only [aD, bW, aLt, aR, d0, aA, cE, mR, aE, gO, c1, aH, cY, n1, c0, dL, cX, d1, aG]
  refine Fv o1 rfl (by simp) fun w3 o3 x3 s3 => ?_
  simp only [aLw, aLv] at o3
  have l3 := mT (off := 0) o3 (by simp)
  simp only [aLy, aLx, aLB] at l3
  simp (disch := omega) only [l3, aA]
  refine aI6 (o2.ext x3 (by omega)) rfl fun w' x' => ?_
  rw [hRR, ht]
  exact ⟨x, ⟨#[]⟩, rfl, rfl, rfl, (x02.new x3 (by omega)).new x' (by omega)⟩
 .have d1 : decide ((x.size : Int) < (n : Int)) = false := by simp; omega
  have ht : Aw (fU x) 0 n = ((fU x).take n, (fU x).drop n, 0) := by unfold Aw; rw [if_neg (by decide), if_neg (by omega)]
  simp (disch := omega) only [aD, bW, aLt, aR, d0, aA, cE, mR, aE, gO, c1, aH, cY, n1, c0, dL, cX, d1, mU, aLs, jZ]
  refine aGE o1 rfl (by simp) fun w3 o3 x3 s3 => ?_
  simp only [aLw, aLv] at o3
  have l3 := mT (off := 0) o3 (by simp)
  simp only [aLy, aLx, aLB] at l3
  simp (disch := omega) only [l3, aA]
  refine aI6 (o2.ext x3 (by omega)) rfl fun w' x' => ?_
  rw [hRR, ht]
  refine ⟨_, _, rfl, ?_, ?_, (x02.new x3 (by omega)).new x' (by omega)⟩
  .rw [BO, aL0 (by rw [aLM]; omega)]
  .rw [BO]; simp
theorem IC {x : ByteArray} {e : Int} {n : Nat} {w : aNX} (hn : 1 <= n /\ n <= 8) :
 aS pg vM #[rv x e, .int .i64 n] w (fun r w' => ∃ x', r = .tuple #[rv x' (Aw (fU x) e n).2.2, .int .u64 (sD (Aw (fU x) e n).1 : Nat)] /\ fU x' = (Aw (fU x) e n).2.1 /\ aW w w' eS) := by
 refine akG ?_
 obtain ⟨RR, hRR⟩ : ∃ RR : aNY -> aNX -> Prop, RR = fun r w' => ∃ x', r = .tuple #[rv x' (Aw (fU x) e n).2.2, .int .u64 (sD (Aw (fU x) e n).1 : Nat)] /\ fU x' = (Aw (fU x) e n).2.1 /\ aW w w' eS := ⟨_, rfl⟩
 rw [<- hRR]
 unfold amF HO HV
 refine nR fun w1 o1 x1 s1 => ?_
 have o1 : eM w1 w.heap.size [.string x, .int .i64 e] := o1
 refine tC fun w2 o2 x2 s2 => ?_
 have o1 := o1.ext x2 (fun h => h)
 have x02 := x1.seq x2
 have z1 := x1.size
 have c1 := o1.cell (off := 1)
 have l1 := mT (off := 0) o1 (by simp)
 simp only [aLq, aLr, aLy, aLx, aLB] at c1 l1
 have d1 : decide ((n : Int) < 1) = false := by simp; omega
 have d2 : decide (8 < (n : Int)) = false := by simp; omega
 have main : Dj RR (.int .i64 n) (.pointer (some ⟨w.heap.size, 0, none⟩)) (.pointer (some ⟨w1.heap.size, 0, none⟩)) w2 := by
  unfold Dj LO
  simp (disch := omega) only [aD, l1, aA]
  refine (aBd).mono ?_
  rintro r w3 ⟨x', s, rfl, hx', hs, x3⟩
  simp (disch := omega) only [pT, pS, aA]
  refine lY (o1.ext x3 (fun h => h)) rfl (by simp [one]) (by simp) fun w4 o4 x4 s4 => ?_
  simp only [bM, aLw, aLv] at o4
  have z2 := x02.size
  have z3 := x3.size
  have x04 : aW w w4 eS := (x02.seq x3).new x4 (aLF _)
  have o2 := (o2.ext x3 (fun h => h)).ext x4 (by omega)
  have hlen : (fU s).length <= 8 := by
   rw [hs]; unfold Aw
   split
   .simp
   .split
    .simp
    .simp; omega
  have hss := eU s
  unfold Kx Km LR Li KW
  refine cR.rule (fun m (v : aNY × aNY × aNY) w' => ∃ (i : Nat) (mm : Int), m = s.size - i /\ i <= s.size /\ v = (.int .u64 (sD ((fU s).take i) : Nat), .int .u64 mm, .int .i64 i) /\ (i < 8 -> mm = ((256 ^ i : Nat) : Int)) /\ w' = w4) s.size ⟨0, 1, rfl, by omega, rfl, fun _ => rfl, rfl⟩ ?_
  rintro m v w5 ⟨i, mm, rfl, hi, rfl, hmm, hw⟩
  rw [hw]; clear hw w5
  unfold DM
  by_cases hlt : i < s.size
  .have d3 : decide ((i : Int) < (s.size : Int)) = true := by simp; omega
   have hmm := hmm (by omega)
   subst hmm
   obtain ⟨c, hc⟩ : ∃ c, c = (fU s)[i]'(by omega) := ⟨_, rfl⟩
   have hg : s[i]'hlt = c := by rw [MD, hc]
   have htk : (fU s).take (i + 1) = (fU s).take i ++ [c] := by rw [aMq, aLA (by omega), <- hc] <;> rfl
   have hnl : sD ((fU s).take (i + 1)) = sD ((fU s).take i) + 256 ^ i * c.toNat := by
    rw [htk, arP, aLG, aMm (by omega)]
   have hb0 := Qm ((fU s).take i)
   have hb1 := Qm ((fU s).take (i + 1))
   rw [aLG, aMm (by omega)] at hb0 hb1
   have hp : 256 ^ i <= 256 ^ 7 := aLC (by omega) (by omega)
   have hp1 : 256 ^ (i + 1) <= 256 ^ 8 := aLC (by omega) (by omega)
   have hcl : c.toNat < 256 := aL9 c
   have hps : 256 ^ (i + 1) = 256 ^ i * 256 := aL6 ..
   have hcm : 256 ^ i * c.toNat <= 256 ^ i * 256 := Nat.mul_le_mul_left _ (by omega)
   rw [hnl] at hb1
   obtain ⟨m2, hm2⟩ : ∃ z, IntKind.u64.wrap (((256 ^ i : Nat) : Int) * 256) = z := ⟨_, rfl⟩
   have hm3 : i + 1 < 8 -> m2 = ((256 ^ (i + 1) : Nat) : Int) := fun h => by
    have hp2 : 256 ^ (i + 1) <= 256 ^ 7 := aLC (by omega) (by omega)
    rw [<- hm2, hps, Int.natCast_mul]
    exact kV (by omega) (by omega)
   generalize hcx : c.toNat = cx at *
   have hgx : (s[i]'hlt).toNat = cx := by rw [hg, hcx]
   have ew : IntKind.u64.wrap (cx : Int) = (cx : Int) := kV (by omega) (by omega)
   have em : (cx : Int) * ((256 ^ i : Nat) : Int) = ((256 ^ i * cx : Nat) : Int) := by rw [Int.natCast_mul, Int.mul_comm]
   generalize sD ((fU s).take i) = N at *
   generalize 256 ^ i = P at *
   generalize P * cx = Z at *
   have ez : IntKind.u64.wrap (Z : Int) = (Z : Int) := kV (by omega) (by omega)
   have ea : (N : Int) + (Z : Int) = ((N + Z : Nat) : Int) := by omega
   have en : IntKind.u64.wrap ((N + Z : Nat) : Int) = ((N + Z : Nat) : Int) := kV (by omega) (by omega)
   simp (disch := omega) only [aD, dL, iS, aLs, hgx, oS, hm2, bJ, aQ, aA, iR, ew, em, ez, ea, en, aR, d3, and_true, aG]
   exact ⟨s.size - (i + 1), by omega, i + 1, m2, rfl, by omega, by rw [hnl] <;> rfl, hm3⟩
  .have d3 : decide ((i : Int) < (s.size : Int)) = false := by simp; omega
   obtain rfl : i = s.size := by omega
   have l4 := mT (off := 0) o4 (by simp)
   simp only [aLy, aLx, aLB] at l4
   unfold DJ
   simp (disch := omega) only [aD, dL, oS, bJ, aQ, aA, aR, d3, l4, aE]
   refine aI6 o2 rfl fun w' x' => ?_
   rw [hRR, <- hss, aNd, hs]
   exact ⟨_, rfl, hx', x04.new x' (by omega)⟩
 by_cases he : e = 0
 .have n1 : (e == 0) = true := by simpa using he
  simp (disch := omega) only [aD, bW, aLt, aA, gO, c1, aH, dV, n1, rC, bF, if_true, bL, aR, d1, cW, aLu, if_false, cX, d2, aE]
  exact main
 .have n1 : (e == 0) = false := by simpa using he
  simp (disch := omega) only [aD, bW, aLt, aA, gO, c1, aH, dV, n1, uX, bF, aLu, if_false, aE, cV]
  exact main
theorem aEt {c : UInt8} {n : Nat} {w : aNX} (hn : n <= 131072) :
 aS pg IW #[tJ c, .int .i64 n] w (fun r w' => r = .string ⟨(List.replicate n c).toArray⟩ /\ aW w w' eS) := by
 refine aqD ?_
 obtain ⟨RR, hRR⟩ : ∃ RR : aNY -> aNX -> Prop, RR = fun r w' => r = .string ⟨(List.replicate n c).toArray⟩ /\ aW w w' eS := ⟨_, rfl⟩
 rw [<- hRR]
 unfold asA Px OY
 refine asZ (by omega) (by omega) fun w1 o1 x1 s1 => ?_
 simp only [aLs] at o1 ⊢
 obtain ⟨p, hp⟩ : ∃ p, p = w.heap.size := ⟨_, rfl⟩
 rw [<- hp] at o1 ⊢
 unfold OU MX PD OT OS
 refine cR.rule (fun m (t : aNY) w' => ∃ i : Nat, m = n - i /\ t = .int .i64 i /\ i <= n /\ eM w' p (List.replicate i (tJ c) ++ List.replicate (n - i) (.int .u8 0)) /\ aW w1 w' (fun y => y = p)) n
  ⟨0, rfl, rfl, by omega, by simpa using o1, aW.refl _ _⟩ ?_
 rintro m t w2 ⟨i, rfl, rfl, hi, o2, x2⟩
 unfold FN
 by_cases hlt : i < n
 .have d1 : decide ((i : Int) < (n : Int)) = true := by simp; omega
  have ti : (i : Int).toNat = i := aLs _
  have e1 : (i : Int) + 1 = ((i + 1 : Nat) : Int) := by omega
  simp (disch := omega) only [aD, aR, d1, dO, ti, aLt, bJ, aQ, aA, aG]
  refine Xq o2 (by simp [one, tJ]) (by simp; omega) fun w3 o3 x3 s3 => ?_
  rw [aM8 _ _ (by simp), aMk, aNb, show n - i = (n - (i + 1)) + 1 from by omega, aMc, aLw] at o3
  simp (disch := omega) only [e1]
  refine ⟨n - (i + 1), by omega, i + 1, rfl, rfl, by omega, ?_, x2.seq x3⟩
  rw [aNm, aLV]
  exact o3
 .have d1 : decide ((i : Int) < (n : Int)) = false := by simp; omega
  have hin : i = n := by omega
  subst hin
  unfold F8
  have hb : Bs w2 (.slice (some ⟨p, 0, none⟩) i i) (List.replicate i c) := by
   have := o2.bs (off := 0) (c := i) (l := List.replicate i c) (by simp) (fun j hj => by
    rw [aMk] at hj
    rw [aLt, aLR (by simp; omega)]
    simp [aMT, hj])
   rw [aMk] at this
   exact this
  have hcv := iD hb
  simp (disch := omega) only [aD, aR, d1, bJ, aQ, aA, hcv, aE]
  rw [hRR]
  exact ⟨rfl, x1.trans x2 fun y hy h => by omega⟩
abbrev rhC (H : LH) : List aNY := [.int .u64 (H.kind : Nat), .int .u64 (H.form : Nat), .int .i64 (H.size : Nat), .int .u64 (H.count : Nat), .int .u64 (H.bytes : Nat)]
def rhV (H : LH) : aNY := .agg #[.int .u64 (H.kind : Nat), .int .u64 (H.form : Nat), .int .i64 (H.size : Nat), .int .u64 (H.count : Nat), .int .u64 (H.bytes : Nat)]
theorem aGi {RR : aNY -> aNX -> Prop} {H : LH} {p q : Nat} {z : List aNY} {w : aNX} (oq : eM w q (rhC H)) (op : eM w p z) (hz : z.length = 5) (hne : p ≠ q) (hc : H.count < 2 ^ 62)
 (hk : ∀ w', aW w w' (fun y => y = p) -> RR (.tuple #[rhV H, .int .i64 (if 131072 < H.count then 12 else 0 : Int)]) w') :
 Ay RR (.pointer (some ⟨p, 0, none⟩)) (.pointer (some ⟨q, 0, none⟩)) w := by
 unfold Ay
 have k3 := oq.cell (off := 3)
 simp only [aLq, aLr] at k3
 have l := AP (off := 0) oq (by simp)
 simp only [aLy, aLx, aLB] at l
 obtain ⟨z0, z1, z2, z3, z4, rfl⟩ : ∃ z0 z1 z2 z3 z4, z = [z0, z1, z2, z3, z4] := by
  match z, hz with
  | [z0, z1, z2, z3, z4], _ => exact ⟨_, _, _, _, _, rfl⟩
 by_cases h : 131072 < H.count
 .have d1 : decide ((H.count : Int) > 131072) = true := decide_eq_true (by omega)
  have d2 : decide ((131072 : Int) < (H.count : Int)) = true := decide_eq_true (by omega)
  rw [if_pos h] at hk
  simp (disch := omega) only [aD, aV, aLt, aA, gT, k3, aH, cX, d1, l, aG]
  refine sH op rfl (by simp [one]) (by simp) fun w1 o1 x1 s1 => ?_
  refine vP o1 (by simp [bM]) ?_
  simp only [bM, aLw, aLv, aLy, aLx, aLB]
  exact hk w1 x1
 .have d1 : decide ((H.count : Int) > 131072) = false := decide_eq_false (by omega)
  have d2 : decide ((131072 : Int) < (H.count : Int)) = false := decide_eq_false (by omega)
  rw [if_neg h] at hk
  simp (disch := omega) only [aD, aV, aLt, aA, gT, k3, aH, cX, d1, l, aE]
  refine sH op rfl (by simp [one]) (by simp) fun w1 o1 x1 s1 => ?_
  refine vP o1 (by simp [bM]) ?_
  simp only [bM, aLw, aLv, aLy, aLx, aLB]
  exact hk w1 x1
theorem aGk {RR : aNY -> aNX -> Prop} {kd fm W p q : Nat} {b : ByteArray} {z : List aNY} {x0 : UInt8} {rs : List UInt8} {w : aNX} (hb : fU b = x0 :: rs) (hkd : kd = x0.toNat % 4) (hfm : fm = x0.toNat / 4 % 4)
 (oq : eM w q [.int .u64 kd, .int .u64 fm, .int .i64 (lU kd fm : Nat), .int .u64 0, .int .u64 0]) (op : eM w p z) (hz : z.length = 5) (hne : p ≠ q) (hW : 2 <= kd -> W = 2 ^ Qi fm)
 (hk : ∀ w', aW w w' (fun y => y = p ∨ y = q) -> RR (.tuple #[rhV (pW (x0 :: rs)).1, .int .i64 (pW (x0 :: rs)).2]) w') :
 CS RR (.string b) (.pointer (some ⟨p, 0, none⟩)) (.pointer (some ⟨q, 0, none⟩)) (.int .u64 W) w := by
 unfold CS RA
 have k2 := oq.cell (off := 2)
 simp only [aLq, aLr] at k2
 have hsz := Tc kd fm
 have hL : pW (x0 :: rs) = if (x0 :: rs).length < lU kd fm then (⟨kd, fm, lU kd fm, 0, 0⟩, 10)
     else (⟨kd, fm, lU kd fm, sD ((x0 :: rs).take (lU kd fm)) / 2 ^ qF kd fm % 2 ^ sS kd fm, sD ((x0 :: rs).take (lU kd fm)) / 2 ^ qF kd fm / 2 ^ sS kd fm⟩,
      if 131072 < sD ((x0 :: rs).take (lU kd fm)) / 2 ^ qF kd fm % 2 ^ sS kd fm then 12 else 0) := by
  subst hkd hfm; rfl
 rw [hL] at hk
 have hkd4 : kd < 4 := by omega
 have hfm4 : fm < 4 := by omega
 clear hL hkd hfm
 generalize hszg : lU kd fm = sz at *
 simp (disch := omega) only [aD, dF, bR, aLt, jH, and_true, true_and, aY, aA, aV, bZ, gT, bO, k2, aH]
 refine (IC (x := b) (e := 0) (n := sz) (by omega)).mono ?_
 rintro r w1 ⟨y, rfl, hy, x1⟩
 rw [hb] at hy ⊢
 generalize x0 :: rs = l at *
 obtain ⟨z0, z1, z2, z3, z4, rfl⟩ : ∃ z0 z1 z2 z3 z4, z = [z0, z1, z2, z3, z4] := by
  match z, hz with
  | [z0, z1, z2, z3, z4], _ => exact ⟨_, _, _, _, _, rfl⟩
 simp (disch := omega) only [pT, pS, aA, oY]
 refine tC fun w2 o2 x2 s2 => ?_
 refine lY o2 rfl (by simp [one]) (by simp) fun w3 o3 x3 s3 => ?_
 simp only [bM, aLw, aLv] at o3
 have x13 : aW w1 w3 eS := x2.new x3 (by omega)
 have x03 := x1.seq x13
 have z1' := x1.size
 have lq := oq.lt
 have lp := op.lt
 have oq3 := oq.ext x03 (fun h => h)
 have op3 := op.ext x03 (fun h => h)
 by_cases hs : l.length < sz
 .have ht : Aw l 0 sz = ([], l, 10) := by unfold Aw; rw [if_neg (by simp), if_pos hs]
  rw [ht] at o3 ⊢
  rw [if_pos hs] at hk
  simp only at o3 ⊢
  have k1 := o3.cell (off := 1)
  have k1d := (kB o3).cell (off := 1)
  simp only [aLq, aLr] at k1 k1d
  have n1 : ((10 : Int) != 0) = true := rfl
  have lh := AP (off := 0) (kB oq3) (by simp)
  simp only [aLy, aLx, aLB] at lh
  simp (disch := omega) only [bW, aLt, Result.ok.injEq, Next.value.injEq, and_true, aA, gO, true_and, k1, aH, cY, n1, lh, k1d, aG]
  refine sH (kB op3) rfl (by simp [one]) (by simp) fun w4 o4 x4 s4 => ?_
  have k1e := (((kB o3).ext x4 (by omega))).cell (off := 1)
  simp only [aLq, aLr] at k1e
  simp (disch := omega) only [k1e, aH, true_and]
  refine vP o4 (by simp [bM]) ?_
  simp only [bM, aLw, aLv, aLy, aLx, aLB]
  exact hk w4 (((x03.seq (aW.dr _ _)).mono fun _ _ h => h.elim).seq (x4.mono fun _ _ h => .inl h))
 have ht : Aw l 0 sz = (l.take sz, l.drop sz, 0) := by unfold Aw; rw [if_neg (by simp), if_neg hs]
 rw [ht] at o3 ⊢
 rw [if_neg hs] at hk
 simp only at o3 ⊢
 have k1 := o3.cell (off := 1)
 have k0 := oq3.cell (off := 0)
 have k2 := oq3.cell (off := 2)
 simp only [aLq, aLr] at k0 k1 k2
 have n1 : ((0 : Int) != 0) = false := rfl
 have hx40 := aeD (l := l) hsz.2
 obtain ⟨X, hX⟩ : ∃ X, X = sD (l.take sz) := ⟨_, rfl⟩
 rw [<- hX] at hx40 hk ⊢
 have endg : ∀ (H : LH) (w4 : aNX), eM w4 q (rhC H) -> aW w3 w4 (fun y => y = q) -> H = ⟨kd, fm, sz, X / 2 ^ qF kd fm % 2 ^ sS kd fm, X / 2 ^ qF kd fm / 2 ^ sS kd fm⟩ →
     Ay RR (.pointer (some ⟨p, 0, none⟩)) (.pointer (some ⟨q, 0, none⟩)) w4 := by
  intro H w4 o4 x4 hH
  have hcb : H.count < 2 ^ 62 := by
   rw [hH]
   have h1 := Nat.mod_le (X / 2 ^ qF kd fm) (2 ^ sS kd fm)
   have h2 := aMu X (2 ^ qF kd fm)
   show X / 2 ^ qF kd fm % 2 ^ sS kd fm < 2 ^ 62
   omega
  refine aGi o4 (op3.ext x4 hne) rfl hne hcb fun w5 x5 => ?_
  rw [hH]
  exact hk w5 (((x03.mono fun _ _ h => h.elim).seq (x4.mono fun _ _ h => .inr h)).seq (x5.mono fun _ _ h => .inl h))
 by_cases hk2 : kd < 2
 .have hW20 : sS kd fm = 20 := by unfold sS; rw [if_pos hk2]
  have hp := aCT (k := kd) (f := fm) (l := l) hk2
  rw [hszg, <- hX] at hp
  have m1 : X / 2 ^ qF kd fm % 2 ^ sS kd fm = X / 2 ^ qF kd fm := by rw [hW20]; exact aL5 hp
  have m2 : X / 2 ^ qF kd fm / 2 ^ sS kd fm = 0 := by rw [hW20]; exact aNC hp
  have d1 : decide ((kd : Int) < 2) = true := decide_eq_true (by omega)
  by_cases hs1 : sz = 1
  .have n2 : ((sz : Int) == 1) = true := by rw [hs1] <;> rfl
   have hdn : qF kd fm = 3 := by unfold qF; rw [if_pos ⟨hk2, by rw [hszg]; exact hs1⟩]
   have e1 : ((X : Int)).tdiv 8 = ((X / 8 : Nat) : Int) := by rw [aLK (by omega)]; omega
   simp (disch := omega) only [bW, aLt, Result.ok.injEq, Next.value.injEq, and_true, aA, gO, true_and, e1, kV, k1, aH, cY, n1, k0, aR, d1, rC, bF, if_true, bL, bO, k2, dV, n2, aG, aE]
   refine MM oq3 rfl (by simp) fun w4 o4 x4 s4 => ?_
   simp only [aLw, aLv] at o4
   exact endg ⟨kd, fm, sz, X / 8, 0⟩ w4 o4 x4 (by rw [m1, m2, hdn])
  .have n2 : ((sz : Int) == 1) = false := beq_eq_false_iff_ne.2 (by omega)
   have hdn : qF kd fm = 4 := by unfold qF; rw [if_neg (by rw [hszg]; exact fun h => hs1 h.2)]
   have e1 : ((X : Int)).tdiv 16 = ((X / 16 : Nat) : Int) := by rw [aLK (by omega)]; omega
   simp (disch := omega) only [bW, aLt, Result.ok.injEq, Next.value.injEq, and_true, aA, gO, true_and, e1, kV, k1, aH, cY, n1, k0, aR, d1, rC, bF, if_true, bL, bO, k2, dV, n2, aG, aE]
   refine MM oq3 rfl (by simp) fun w4 o4 x4 s4 => ?_
   simp only [aLw, aLv] at o4
   exact endg ⟨kd, fm, sz, X / 16, 0⟩ w4 o4 x4 (by rw [m1, m2, hdn])
 .have d1 : decide ((kd : Int) < 2) = false := decide_eq_false (by omega)
  have hWd : sS kd fm = Qi fm := by unfold sS; rw [if_neg hk2]
  have hdn : qF kd fm = 4 := by unfold qF; rw [if_neg (fun h => hk2 h.1)]
  have hW' := hW (by omega)
  have hlb := ayU fm
  have hWp : 0 < W := by rw [hW']; exact aLW _
  have e1 : ((X : Int)).tdiv 16 = ((X / 16 : Nat) : Int) := by rw [aLK (by omega)]; omega
  have e2 : (((X / 16 : Nat) : Int)).tmod (W : Int) = ((X / 16 % W : Nat) : Int) := by rw [aLU (by omega)] <;> rfl
  have hdl : X / 16 / W <= X / 16 := aMu _ _
  have wq : IntKind.u64.wrap ((X / 16 / W : Nat) : Int) = ((X / 16 / W : Nat) : Int) := by generalize X / 16 / W = D at *; exact kV (by omega) (by omega)
  have e3 : (((X / 16 : Nat) : Int)).tdiv (W : Int) = ((X / 16 / W : Nat) : Int) := by rw [aLK (by omega)] <;> rfl
  simp (disch := omega) only [bW, aLt, Result.ok.injEq, Next.value.injEq, and_true, aA, gO, true_and, e1, kV, rL, e2, oY, e3, wq, k1, aH, cY, n1, k0, aR, d1, uX, bF, aLu, if_false, aE, cV]
  refine MM oq3 rfl (by simp) fun w4 o4 x4 s4 => ?_
  simp only [aLw, aLv] at o4
  refine MM o4 rfl (by simp) fun w5 o5 x5 s5 => ?_
  simp only [aLw, aLv] at o5
  exact endg ⟨kd, fm, sz, X / 16 % W, X / 16 / W⟩ w5 o5 (x4.seq x5) (by rw [hWd, hdn, hW'])
theorem aGp {b : ByteArray} {w : aNX} :
 aS pg Mu #[.string b] w (fun r w' => r = .tuple #[rhV (pW (fU b)).1, .int .i64 (pW (fU b)).2] /\ aW w w' eS) := by
 refine avS ?_
 obtain ⟨RR, hRR⟩ : ∃ RR : aNY -> aNX -> Prop, RR = fun r w' => r = .tuple #[rhV (pW (fU b)).1, .int .i64 (pW (fU b)).2] /\ aW w w' eS := ⟨_, rfl⟩
 rw [<- hRR]
 have key : ∀ w', aW w w' eS -> RR (.tuple #[rhV (pW (fU b)).1, .int .i64 (pW (fU b)).2]) w' := fun w' h2 => by rw [hRR]; exact ⟨rfl, h2⟩
 unfold azK Sb RI
 refine Br fun w1 o1 x1 s1 => ?_
 refine Br fun w2 o2 x2 s2 => ?_
 have z1 := x1.size
 obtain ⟨p, hp⟩ : ∃ p, p = w.heap.size := ⟨_, rfl⟩
 obtain ⟨q, hq⟩ : ∃ q, q = w1.heap.size := ⟨_, rfl⟩
 rw [<- hp] at o1 ⊢
 rw [<- hq] at o2 ⊢
 have l1 := o1.lt
 have hne : p ≠ q := by omega
 have o12 := o1.ext x2 (fun h => h)
 have x02 := x1.seq x2
 have hsz := eU b
 cases hl : fU b with
 | nil =>
   rw [hl] at key
   have hbe : b = ⟨#[]⟩ := X4 (by rw [hl] <;> rfl)
   subst hbe
   have l := AP (off := 0) o2 (by simp)
   simp only [aLy, aLx, aLB] at l
   simp (disch := omega) only [aD, AJ, akM, aY, cC, aLt, bR, aA, gT, l, aG]
   refine sH o12 rfl (by simp [one]) (by simp) fun w3 o3 x3 s3 => ?_
   refine vP o3 (by simp [bM]) ?_
   simp only [bM, aLw, aLv, aLy, aLx, aLB]
   exact key w3 (x02.trans x3 fun y hy h => by omega)
 | cons x0 rs =>
   rw [hl] at key hsz
   rw [aLP] at hsz
   have hen := apJ (x := b) (by omega)
   have hx0 : x0.toNat < 256 := aL9 x0
   have g0 : (b[0]'(by omega)).toNat = x0.toNat := by
    have := MD b 0 (by omega)
    rw [this]; simp only [hl, aMZ]
   have t0 : (0 : Int).toNat = 0 := rfl
   obtain ⟨kd, hkd⟩ : ∃ kd, kd = x0.toNat % 4 := ⟨_, rfl⟩
   obtain ⟨fm, hfm⟩ : ∃ fm, fm = x0.toNat / 4 % 4 := ⟨_, rfl⟩
   have f1 : ((x0.toNat : Int)).tmod 4 = (kd : Int) := by rw [aLU (by omega)]; omega
   have f2 : ((x0.toNat : Int)).tdiv 4 = ((x0.toNat / 4 : Nat) : Int) := by rw [aLK (by omega)]; omega
   have f3 : (((x0.toNat / 4 : Nat) : Int)).tmod 4 = (fm : Int) := by rw [aLU (by omega)]; omega
   have hkd4 : kd < 4 := by omega
   have hfm4 : fm < 4 := by omega
   have tf : (fm : Int).toNat = fm := aLs _
   have mid : ∀ (W : Nat) (w4 : aNX), eM w4 q [.int .u64 kd, .int .u64 fm, .int .i64 (lU kd fm : Nat), .int .u64 0, .int .u64 0] -> aW w2 w4 (fun y => y = q) -> (2 <= kd -> W = 2 ^ Qi fm) →
       CS RR (.string b) (.pointer (some ⟨p, 0, none⟩)) (.pointer (some ⟨q, 0, none⟩)) (.int .u64 W) w4 := by
    intro W w4 o4 x4 hW
    refine aGk hl hkd hfm o4 (o12.ext x4 hne) rfl hne hW fun w5 x5 => key w5 ?_
    exact (x02.trans x4 fun y hy h => by omega).trans x5 fun y hy h => by omega
   simp (disch := omega) only [aD, AJ, hen, iS, t0, g0, aY, cC, aLt, bR, aA, gT, oY, f2, xL, rL, f3, iR, kV, f1, aE]
   refine MM o2 rfl (by simp) fun w3 o3 x3 s3 => ?_
   simp only [aLw, aLv] at o3
   try simp (disch := omega) only [true_and]
   refine MM o3 rfl (by simp) fun w4 o4 x4 s4 => ?_
   simp only [aLw, aLv] at o4
   have k0 := o4.cell (off := 0)
   simp only [aLq] at k0
   have x24 := x3.seq x4
   by_cases hk2 : kd < 2
   .have d1 : decide ((kd : Int) < 2) = true := decide_eq_true (by omega)
    simp (disch := omega) only [k0, aH, aA, aR, d1, aG]
    refine X3 (cells := #[.int .i64 1, .int .i64 2, .int .i64 1, .int .i64 3]) (by decide) (by decide) (by kernel_rfl) fun w5 o5 x5 s5 => ?_
    have o45 := o4.ext x5 (fun h => h)
    have k1 := o45.cell (off := 1)
    simp only [aLq, aLr] at k1
    have kf := o5.cell (off := fm)
    have kf2 : ([.int .i64 1, .int .i64 2, .int .i64 1, .int .i64 3] : List aNY)[fm]? = some (.int .i64 (lU kd fm : Nat)) := by
     unfold lU
     rw [if_pos hk2]
     rcases (show fm = 0 ∨ fm = 1 ∨ fm = 2 ∨ fm = 3 by omega) with h | h | h | h <;> (rw [h] <;> rfl)
    have kf : w5.cell? ⟨w4.heap.size, fm, none⟩ = some (.int .i64 (lU kd fm : Nat)) := kf.trans kf2
    simp (disch := omega) only [k1, aH, aA, hZ, tf, aLt, bO, kf]
    refine pH o45 rfl (by simp) fun w6 o6 x6 s6 => ?_
    simp only [aLw, aLv] at o6
    exact mid 1024 w6 o6 ((x24.seq (x5.mono fun _ _ h => h.elim)).seq x6) (fun h => by omega)
   .have d1 : decide ((kd : Int) < 2) = false := decide_eq_false (by omega)
    simp (disch := omega) only [k0, aH, aA, aR, d1, aE]
    refine X3 (cells := #[.int .i64 3, .int .i64 3, .int .i64 4, .int .i64 5]) (by decide) (by decide) (by kernel_rfl) fun w5 o5 x5 s5 => ?_
    have o45 := o4.ext x5 (fun h => h)
    have k1 := o45.cell (off := 1)
    simp only [aLq, aLr] at k1
    have kf := o5.cell (off := fm)
    have kf2 : ([.int .i64 3, .int .i64 3, .int .i64 4, .int .i64 5] : List aNY)[fm]? = some (.int .i64 (lU kd fm : Nat)) := by
     unfold lU
     rw [if_neg hk2]
     rcases (show fm = 0 ∨ fm = 1 ∨ fm = 2 ∨ fm = 3 by omega) with h | h | h | h <;> (rw [h] <;> rfl)
    have kf : w5.cell? ⟨w4.heap.size, fm, none⟩ = some (.int .i64 (lU kd fm : Nat)) := kf.trans kf2
    simp (disch := omega) only [k1, aH, aA, hZ, tf, aLt, bO, kf]
    refine pH o45 rfl (by simp) fun w6 o6 x6 s6 => ?_
    simp only [aLw, aLv] at o6
    refine akS (cells := #[.int .u64 1024, .int .u64 1024, .int .u64 16384, .int .u64 262144]) (by decide) (by decide) (by kernel_rfl) fun w7 o7 x7 s7 => ?_
    have o67 := o6.ext x7 (fun h => h)
    have k7 := o67.cell (off := 1)
    simp only [aLq, aLr] at k7
    have kg := o7.cell (off := fm)
    have kg2 : ([.int .u64 1024, .int .u64 1024, .int .u64 16384, .int .u64 262144] : List aNY)[fm]? = some (.int .u64 (2 ^ Qi fm : Nat)) := by
     unfold Qi
     rcases (show fm = 0 ∨ fm = 1 ∨ fm = 2 ∨ fm = 3 by omega) with h | h | h | h <;> (rw [h] <;> rfl)
    have kg : w7.cell? ⟨w6.heap.size, fm, none⟩ = some (.int .u64 (2 ^ Qi fm : Nat)) := kg.trans kg2
    simp (disch := omega) only [k7, aH, aA, kY, tf, aLt, gT, kg]
    exact mid (2 ^ Qi fm) w7 o67 (((x24.seq (x5.mono fun _ _ h => h.elim)).seq x6).seq (x7.mono fun _ _ h => h.elim)) (fun h => rfl)
def RBh (w : aNX) (lo hi : Nat) (b : aNY) (B : List Bool) (left : Int) : Prop := RB w lo hi b (B.take left.toNat) (-left).toNat
theorem RBh.ext {w w' : aNX} {lo hi : Nat} {b : aNY} {B : List Bool} {left : Int} {M : Nat -> Prop} (h : RBh w lo hi b B left) (x : aW w w' M) (hM : ∀ b, lo <= b -> b < hi -> ¬ M b) : RBh w' lo hi b B left := RB.ext h x hM
theorem RBh.form {w : aNX} {lo hi : Nat} {b : aNY} {B : List Bool} {left : Int} (h : RBh w lo hi b B left) : ∃ a k c i, b = .agg #[.slice a k c, .int .i64 i] := by
 obtain ⟨v, rfl, hs, _⟩ := h
 obtain ⟨a, c, rfl, _⟩ := Ff hs
 exact ⟨_, _, _, _, rfl⟩
theorem RBh.step {w : aNX} {lo hi n : Nat} {b : aNY} {B : List Bool} {left : Int} (hl : left <= B.length)
 (h : RB w lo hi b ((B.take left.toNat).take ((B.take left.toNat).length - min n (B.take left.toNat).length)) ((-left).toNat + (n - min n (B.take left.toNat).length))) : RBh w lo hi b B (left - n) := by
 have hlen : (B.take left.toNat).length = left.toNat := by rw [aLG]; omega
 rw [hlen, aNP] at h
 have e1 : min (left.toNat - min n left.toNat) left.toNat = (left - n).toNat := by omega
 have e2 : (-left).toNat + (n - min n left.toNat) = (-(left - n)).toNat := by omega
 rw [e1, e2] at h
 exact h
theorem aHD {lo hi n : Nat} {b : aNY} {B : List Bool} {left : Int} {w : aNX} (h : RBh w lo hi b B left) (hn : n <= 56) (hl : left <= B.length) (hB : B.length <= 10000000) (hk : -1000000000 <= left) :
 aS pg zE #[b, .int .i64 n] w (fun r w' => ∃ b', r = .tuple #[b', .int .u64 (LZ B left n : Nat)] /\ RBh w' lo hi b' B (left - n) /\ aW w w' eS) := by
 have hlen : (B.take left.toNat).length <= 10000000 := by rw [aLG]; omega
 refine (aqG h hn hlen (by omega)).mono ?_
 rintro r w1 ⟨b', rfl, h1, x1⟩
 exact ⟨b', rfl, RBh.step hl h1, x1⟩
theorem aKR {cb cap lo hi m : Nat} {C : List (Nat × Nat)} {rest : List aNY} {bv : aNY} {B : List Bool} {left : Int} {w : aNX} (hF : Yv C m) (hm : m <= 11) (hC : C.length <= 256) (oc : eM w cb (cc C ++ rest)) (h : RBh w lo hi bv B left) (hhi : hi <= w.heap.size) (hl : left <= B.length) (hB : B.length <= 10000000) (hk : -100000000 <= left) :
 aS pg Qw #[.slice (some ⟨cb, 0, none⟩) C.length cap, bv] w (fun r w' => ∃ b', r = .tuple #[b', .int .u8 (Ez C m (LZ B left m) : Nat)] /\ RBh w' lo hi b' B (left - bitsOf C (Ez C m (LZ B left m))) /\ aW w w' eS) := by
 refine ayK ?_
 obtain ⟨RR, hRR⟩ : ∃ RR : aNY -> aNX -> Prop, RR = fun r w' => ∃ b', r = .tuple #[b', .int .u8 (Ez C m (LZ B left m) : Nat)] /\ RBh w' lo hi b' B (left - bitsOf C (Ez C m (LZ B left m))) /\ aW w w' eS := ⟨_, rfl⟩
 rw [<- hRR]
 have hX := KB B left m
 have hhit := anV hF hX
 obtain ⟨bs, c0, hsy, hbs0, hc0⟩ := Nu.1 hhit
 have hun : ∀ s, Ha C m (LZ B left m) s = true -> Ez C m (LZ B left m) = s := fun s hs => ayA hF hX hs
 generalize hsye : Ez C m (LZ B left m) = sy at *
 have hbo := amY hsy
 rw [hbo] at hRR
 have hsyl := (aMo.1 hsy).1
 have hbm := (hF.le sy bs c0 hsy).1
 have hdiv : ∀ b, b <= m -> LZ B left m / 2 ^ (m - b) = LZ B left b := fun b hb => (aBq hl hb).1
 rw [hdiv bs hbm] at hc0
 unfold aAQ Rg QN
 have hz := oc.lt
 refine nR fun w1 o1 x1 s1 => ?_
 refine jV fun w2 o2 x2 s2 => ?_
 have z1 := x1.size
 obtain ⟨p3, hp3⟩ : ∃ p, p = w.heap.size := ⟨_, rfl⟩
 obtain ⟨p4, hp4⟩ : ∃ p, p = w1.heap.size := ⟨_, rfl⟩
 rw [<- hp3] at o1 ⊢
 rw [<- hp4] at o2 ⊢
 have x02 := x1.seq x2
 have oc2 := oc.ext x02 (fun h => h)
 unfold Rb RV Sc Q4 Ry
 refine cR.rule (fun k (t : aNY × aNY) w' => ∃ (bits : Nat) (bv' : aNY), k = 12 - bits /\ t = (.int .i64 (LZ B left (bits - 1) : Nat), .int .i64 (bits : Nat)) /\ 1 <= bits /\ bits <= bs /\ eM w' p3 bv'.cells.toList /\ RBh w' lo hi bv' B (left - (bits - 1 : Nat)) /\ aW w2 w' (fun y => y = p3)) 11
  ⟨1, bv, rfl, ?_, by omega, by omega, o1.ext x2 (fun h => h), ?_, aW.refl _ _⟩ ?_
 .have : LZ B left (1 - 1) = 0 := by have := KB B left 0; simpa using this
  rw [this] <;> rfl
 .have e : left - ((1 - 1 : Nat) : Int) = left := by omega
  rw [e]
  exact h.ext x02 (fun _ _ _ h => h)
 rintro k t w3 ⟨bits, bv', rfl, rfl, hb1, hbb, o3, h3, x3⟩
 have z2 := x2.size
 have z3 := x3.size
 unfold Jd Rx
 have d1 : decide ((bits : Int) <= 11) = true := by simp; omega
 simp (disch := omega) only [aD, Ah, d1, aA, aG]
 unfold TA Ua alU TC
 obtain ⟨a', k', c', i', rfl⟩ := h3.form
 have o3 : eM w3 p3 [.slice a' k' c', .int .i64 i'] := o3
 have q3 := fM (off := 0) o3 (by simp)
 simp only [aLy, aLx, aLB] at q3
 have q3 : (aL 133 (.pointer (some ⟨p3, 0, none⟩))).run pg w3 = .ok (.value (.agg #[.slice a' k' c', .int .i64 i'])) w3 := q3
 simp (disch := omega) only [aD, q3, oS, aA]
 refine (aHD (n := 1) h3 (by omega) (by omega) hB (by omega)).mono ?_
 rintro r w4 ⟨b4, rfl, h4, x4⟩
 have z4 := x4.size
 obtain ⟨a4, k4, c4, i4, rfl⟩ := h4.form
 simp (disch := omega) only [pT, pS, aA, bX, bJ]
 refine jV fun w5 o5 x5 s5 => ?_
 refine cL o5 rfl (by simp [one]) (by simp) fun w6 o6 x6 s6 => ?_
 simp only [bM, aLw, aLv] at o6
 have q6 := fM (off := 0) o6 (by simp)
 simp only [aLy, aLx, aLB] at q6
 have x46 : aW w4 w6 eS := x5.new x6 (by omega)
 have x36 := x4.seq x46
 have o36 := o3.ext x36 (fun h => h)
 simp (disch := omega) only [q6, aA]
 refine cL o36 rfl (by simp [one]) (by simp) fun w7 o7 x7 s7 => ?_
 simp only [bM, aLw, aLv] at o7
 have l1 := o1.lt
 have h7 := (h4.ext x46 (fun _ _ _ h => h)).ext x7 (fun b h1 h2 h3 => by omega)
 have x27 : aW w2 w7 (fun y => y = p3) := (x3.seq (x36.mono fun _ _ h => h.elim)).seq x7
 have o72 := o2.ext x27 (by omega)
 have ocr := oc2.ext x27 (by omega)
 have hadd := aCc (B := B) (left := left) (bits - 1) 1 hl
 rw [show bits - 1 + 1 = bits from by omega, show (2 : Nat) ^ 1 = 2 from rfl] at hadd
 have r1 := KB B (left - (bits - 1 : Nat)) 1
 have r2 := KB B left (bits - 1)
 have hp : 2 ^ (bits - 1) <= 2 ^ 11 := aLC (by omega) (by omega)
 have e1 : IntKind.i64.wrap ((LZ B (left - (bits - 1 : Nat)) 1 : Nat) : Int) = ((LZ B (left - (bits - 1 : Nat)) 1 : Nat) : Int) := aQ (by omega) (by omega)
 have e2 : ((LZ B left (bits - 1) : Nat) : Int) * 2 + ((LZ B (left - (bits - 1 : Nat)) 1 : Nat) : Int) = ((LZ B left bits : Nat) : Int) := by omega
 have rb := KB B left bits
 have hpb : 2 ^ bits <= 2 ^ 11 := aLC (by omega) (by omega)
 simp (disch := omega) only [aQ, e1, e2]
 have hl7 : left - ((bits - 1 : Nat) : Int) - ((1 : Nat) : Int) = left - (bits : Nat) := by omega
 rw [hl7] at h7
 unfold TJ Up
 refine cR.rule (fun k (t : aNY) w' => ∃ s : Nat, k = C.length - s /\ t = .int .i64 s /\ s <= C.length /\ (bits = bs -> s <= sy) /\ w' = w7) C.length
  ⟨0, rfl, rfl, by omega, by omega, rfl⟩ ?_
 rintro k t w8 ⟨s, rfl, rfl, hs, hsb, rfl⟩
 unfold Ms
 by_cases hlt : s < C.length
 .have d2 : decide ((s : Int) < (C.length : Int)) = true := by simp; omega
  have ts : (s : Int).toNat = s := aLs _
  have g := aHe hlt
  have hcl := EE C
  have g0 := ocr.cell (off := s * 2)
  rw [aLR (by omega), g.1] at g0
  have g1 := ocr.cell (off := s * 2 + 1)
  rw [aLR (by omega), g.2] at g1
  have hse : C[s]? = some C[s] := aLA hlt
  generalize C[s] = e at *
  obtain ⟨b, c⟩ := e
  simp only at g0 g1
  by_cases hbe : b = bits
  .have d3 : ((b : Int) == (bits : Int)) = true := by simp [hbe]
   by_cases hce : c = LZ B left bits
   .have d4 : ((c : Int) == ((LZ B left bits : Nat) : Int)) = true := by simp [hce]
    have hit : Ha C m (LZ B left m) s = true := by
     rw [Nu]
     refine ⟨b, c, hse, by omega, ?_⟩
     rw [hdiv b (by omega), hbe, hce]
    have hss : sy = s := hun s hit
    have hbb2 : bs = bits := by
     rw [hss, hse] at hsy
     have := aLT hsy
     cases this
     exact hbe
    have q7 := fM (off := 0) o7 (by simp)
    simp only [aLy, aLx, aLB] at q7
    have w8e : IntKind.u8.wrap (s : Int) = s := xL (by omega) (by omega)
    simp (disch := omega) only [aD, cZ, dJ, ts, aLt, eQ, w8e, aA, bJ, aQ, cK, bO, aR, d2, g0, aH, dV, d3, rC, bF, if_true, bL, dE, g1, d4, q7, and_true, aG]
    refine cL o72 rfl (by simp [one]) (by simp) fun w9 o9 x9 s9 => ?_
    refine mA o9 (by simp [bM]) ?_
    simp only [bM, aLw, aLv, aLy, aLx, aLB]
    rw [hRR]
    have l2 := o2.lt
    refine ⟨_, by rw [hss], ?_, (x02.trans x27 fun y hy h => by omega).trans x9 fun y hy h => by omega⟩
    rw [hbb2]
    exact h7.ext x9 (fun b h1 h2 h3 => by omega)
   .have d4 : ((c : Int) == ((LZ B left bits : Nat) : Int)) = false := beq_eq_false_iff_ne.2 (by omega)
    simp (disch := omega) only [aD, cZ, dJ, ts, aLt, eQ, xL, aA, bJ, aQ, cK, bO, aR, d2, g0, aH, dV, d3, rC, bF, if_true, bL, dE, g1, d4, and_true, aE, aG]
    refine ⟨C.length - (s + 1), by omega, s + 1, rfl, by simp, by omega, fun hbq => ?_⟩
    have := hsb hbq
    rcases aLO s sy with h9 | h9
    .omega
    .exfalso
     obtain rfl : s = sy := by omega
     rw [hse] at hsy
     cases aLT hsy
     exact hce (by rw [<- hbe]; exact hc0.symm)
  .have d3 : ((b : Int) == (bits : Int)) = false := beq_eq_false_iff_ne.2 (by omega)
   simp (disch := omega) only [aD, cZ, dJ, ts, aLt, eQ, xL, aA, bJ, aQ, cK, bO, aR, d2, g0, aH, dV, d3, uX, bF, aLu, if_false, aE, cV, and_true, aG]
   refine ⟨C.length - (s + 1), by omega, s + 1, rfl, by simp, by omega, fun hbq => ?_⟩
   have := hsb hbq
   rcases aLO s sy with h9 | h9
   .omega
   .exfalso
    obtain rfl : s = sy := by omega
    rw [hse] at hsy
    cases aLT hsy
    exact hbe hbq.symm
 .have d2 : decide ((s : Int) < (C.length : Int)) = false := by simp; omega
  have hne : bits < bs := by
   rcases aLO bits bs with h9 | h9
   .exact h9
   .have := hsb (by omega)
    omega
  have e3 : (bits : Int) + 1 = ((bits + 1 : Nat) : Int) := by omega
  simp (disch := omega) only [aD, cZ, eQ, aA, bJ, aQ, aR, d2, aE]
  unfold MI
  simp (disch := omega) only [aD, bJ, e3, aQ, aA]
  refine ⟨12 - (bits + 1), by omega, bits + 1, .agg #[.slice a4 k4 c4, .int .i64 i4], rfl, rfl, by omega, by omega, o7, ?_, x27⟩
  exact h7
theorem asY {cb cap n : Nat} {C : List (Nat × Nat)} {rest : List aNY} {x : ByteArray} {w : aNX} (hF : Yv C (pM C)) (hm : pM C <= 11) (hC : C.length <= 256) (oc : eM w cb (cc C ++ rest)) (hx : x.size <= 1000000) (hn : n <= 100000) :
 aS pg BC #[.slice (some ⟨cb, 0, none⟩) C.length cap, .string x, .int .i64 n] w (fun r w' => zB (rU C (fU x) n) r /\ aW w w' eS) := by
 refine alC ?_
 obtain ⟨RR, hRR⟩ : ∃ RR : aNY -> aNX -> Prop, RR = fun r w' => zB (rU C (fU x) n) r /\ aW w w' eS := ⟨_, rfl⟩
 rw [<- hRR]
 have key : ∀ r w', zB (rU C (fU x) n) r -> aW w w' eS -> RR r w' := fun r w' h1 h2 => by rw [hRR]; exact ⟨h1, h2⟩
 unfold agO KK Kj
 have hll := eU x
 have hlc := oc.lt
 cases he : Yt (fU x) with
 | none =>
   refine (ayR he hx).mono ?_
   rintro r w1 ⟨rfl, x1⟩
   have n0 : ((11 : Int) != 0) = true := rfl
   simp (disch := omega) only [aD, pT, pS, aA, cY]
   refine jV fun w2 o2 x2 s2 => ?_
   refine cL o2 rfl (by simp [one]) (by simp) fun w3 o3 x3 s3 => ?_
   simp (disch := omega) only [n0, aG]
   exact key _ _ (by unfold rU; rw [he] <;> rfl) (x1.seq (x2.new x3 (by omega)))
 | some k =>
   have hk := H9 he
   have hstr : rU C (fU x) n = if (B8 C (pM C) (aZ (fU x)) n (k : Int)).2 < 0 then .error 11
       else if 0 < (B8 C (pM C) (aZ (fU x)) n (k : Int)).2 then .error 15
       else .ok (B8 C (pM C) (aZ (fU x)) n (k : Int)).1 := by unfold rU; rw [he]
   rw [hstr] at key
   refine (aA9 he hx).mono ?_
   rintro r w1 ⟨bv, hi, rfl, hhi, hrb, x1⟩
   have z1 := x1.size
   have hBl := lZ (fU x)
   generalize fU x = l at *
   have hrb : RBh w1 w.heap.size hi bv (aZ l) k := by
    unfold RBh
    rw [show ((k : Int)).toNat = k from aLs k, show (-(k : Int)).toNat = 0 from by omega]
    exact hrb
   obtain ⟨a1, k1, c1, i1, rfl⟩ := hrb.form
   have n0 : ((0 : Int) != 0) = false := rfl
   simp (disch := omega) only [aD, pT, pS, aA, cY]
   refine jV fun w2 o2 x2 s2 => ?_
   refine cL o2 rfl (by simp [one]) (by simp) fun w3 o3 x3 s3 => ?_
   simp only [bM, aLw, aLv] at o3
   have x13 : aW w1 w3 eS := x2.new x3 (by omega)
   have x03 := x1.seq x13
   have z13 := x13.size
   have hrb3 := hrb.ext x13 (fun _ _ _ h => h)
   have oc3 := oc.ext x03 (fun h => h)
   obtain ⟨p8, hp8⟩ : ∃ p, p = w1.heap.size := ⟨_, rfl⟩
   rw [<- hp8] at o3 ⊢
   have l3 := o3.lt
   simp (disch := omega) only [n0, aE]
   unfold JK KU Kz Ld Ln
   have hbit : ∀ s, bitsOf C s <= 11 := fun s => by
    unfold bitsOf
    rw [aLE]
    cases hs : C[s]? with
    | none => simp
    | some e =>
      have := (hF.le s e.1 e.2 hs).1
      simp only [aNz]
      omega
   refine cR.rule (fun m (t : aNY × aNY) w' => ∃ (i : Nat) (ov bv : aNY), m = n - i /\ t = (ov, .int .i64 i) /\ i <= n /\
    eM w' p8 bv.cells.toList /\ RBh w' w.heap.size hi bv (aZ l) (B8 C (pM C) (aZ l) i (k : Int)).2 /\ tE w' w3.heap.size 1 ov i (u8s (B8 C (pM C) (aZ l) i (k : Int)).1) /\ aW w3 w' (fun y => y = p8 ∨ w3.heap.size <= y)) n
    ⟨0, _, .agg #[.slice a1 k1 c1, .int .i64 i1], rfl, rfl, by omega, o3, hrb3, tE.nil _ _ _, aW.refl _ _⟩ ?_
   rintro m t w4 ⟨i, ov, bv, rfl, rfl, hi', o4, h4, os4, x4⟩
   have z4 := x4.size
   have bd := aBV (C := C) (m := pM C) (B := aZ l) hbit i (k : Int)
   have hBs := aqE (C := C) (m := pM C) (B := aZ l) i (k : Int)
   have hsy := ayY (C := C) (m := pM C) (B := aZ l) hF (n := i) (left := (k : Int))
   obtain ⟨a4, k4, c4, i4, rfl⟩ := h4.form
   obtain ⟨g, hg⟩ : ∃ g, B8 C (pM C) (aZ l) i (k : Int) = g := ⟨_, rfl⟩
   rw [hg] at bd hBs hsy h4 os4
   obtain ⟨gs, gl⟩ := g
   simp only at bd hBs hsy h4 os4
   have o4 : eM w4 p8 [.slice a4 k4 c4, .int .i64 i4] := o4
   have q4 := fM (off := 0) o4 (by simp)
   simp only [aLy, aLx, aLB] at q4
   unfold DI
   by_cases hlt : i < n
   .have d1 : decide ((i : Int) < (n : Int)) = true := by simp; omega
    have ex : ∀ y : Nat, (y = p8 ∨ w3.heap.size <= y) -> ¬ y = cb := by omega
    have oc4 := oc3.ext x4 (by omega)
    simp (disch := omega) only [aD, aR, d1, bJ, aQ, aA, q4, aG]
    refine (aKR hF hm hC oc4 h4 (by omega) (by omega) (by omega) (by omega)).mono ?_
    rintro r w5 ⟨b5, rfl, h5, x5⟩
    have z5 := x5.size
    obtain ⟨a5, k5, c5, i5, rfl⟩ := h5.form
    simp (disch := omega) only [pT, pS, aA]
    refine jV fun w6 o6 x6 s6 => ?_
    refine cL o6 rfl (by simp [one]) (by simp) fun w7 o7 x7 s7 => ?_
    simp only [bM, aLw, aLv] at o7
    have q7 := fM (off := 0) o7 (by simp)
    simp only [aLy, aLx, aLB] at q7
    have x57 : aW w5 w7 eS := x6.new x7 (by omega)
    have x47 := x5.seq x57
    have l7 := o7.lt
    simp (disch := omega) only [q7, aA]
    refine cL (o4.ext x47 (fun h => h)) rfl (by simp [one]) (by simp) fun w8 o8 x8 s8 => ?_
    simp only [bM, aLw, aLv] at o8
    have x48 : aW w4 w8 (fun y => y = p8) := (x47.mono fun _ _ h => h.elim).seq x8
    have z48 := x48.size
    have os8 := ((os4.ne (p := w4.heap.size) (aLF _)).ext x48 (fun b hb h => by have := hb.1; omega))
    obtain ⟨sy, hsye⟩ : ∃ sy, sy = Ez C (pM C) (LZ (aZ l) gl (pM C)) := ⟨_, rfl⟩
    rw [<- hsye] at h5 hBs ⊢
    have z57 := x57.size
    refine aCQ os8 (by omega) (by omega) (by omega) fun v9 w9 o9 x9 => ?_
    have e2 : (i : Int) + 1 = ((i + 1 : Nat) : Int) := by omega
    simp (disch := omega) only [e2]
    refine ⟨n - (i + 1), by omega, i + 1, _, .agg #[.slice a5 k5 c5, .int .i64 i5], rfl, rfl, by omega, o8.ext x9 (by omega), ?_, ?_, ?_⟩
    .rw [hBs]
     exact ((h5.ext x57 (fun _ _ _ h => h)).ext x8 (fun b h1 h2 h3 => by omega)).ext x9 (fun b h1 h2 h3 => by have := h3.1; omega)
    .rw [hBs]
     have := o9.osl
     rw [show u8s gs ++ [.int .u8 (sy : Nat)] = u8s (gs ++ [sy]) from by show _ = List.map _ (gs ++ [sy]); rw [aLS] <;> rfl] at this
     exact this
    .exact (x4.seq (x48.mono fun _ _ h => .inl h)).seq (x9.mono fun y _ h => .inr (by have := h.1; omega))
   .have d1 : decide ((i : Int) < (n : Int)) = false := by simp; omega
    have hin : i = n := by omega
    subst hin
    rw [hg] at key
    simp only at key
    have x04 : aW w w4 eS := x03.trans x4 fun y hy h => by omega
    unfold Dg
    simp (disch := omega) only [aD, aR, d1, bJ, aQ, aA, q4, aE]
    refine (aoG (lo := w.heap.size) (hi := hi) (lack := (-gl).toNat) (L := (aZ l).take gl.toNat) h4 (by rw [aLG]; omega) (by omega)).mono ?_
    rintro r w5 ⟨rfl, x5⟩
    have hgl : (((aZ l).take gl.toNat).length : Int) - ((-gl).toNat : Nat) = gl := by rw [aLG]; omega
    rw [hgl]
    by_cases h1 : gl < 0
    .have d2 : decide (gl < 0) = true := decide_eq_true h1
     rw [if_pos h1] at key
     simp (disch := omega) only [aR, d2, cX, aA, aG]
     exact key _ _ rfl (x04.seq x5)
    have d2 : decide (gl < 0) = false := decide_eq_false h1
    rw [if_neg h1] at key
    by_cases h2 : 0 < gl
    .have d3 : decide (0 < gl) = true := decide_eq_true h2
     have d4 : decide (gl > 0) = true := decide_eq_true h2
     rw [if_pos h2] at key
     simp (disch := omega) only [aR, d2, cX, d3, aA, aG, aE]
     exact key _ _ rfl (x04.seq x5)
    have d3 : decide (0 < gl) = false := decide_eq_false h2
    have d4 : decide (gl > 0) = false := decide_eq_false h2
    rw [if_neg h2] at key
    have hb := (os4.ext x5 (fun _ _ h => h)).sl
    rw [<- V4 (fun s hs => by have := hsy s hs; omega)] at hb
    have hcv := iD hb
    simp (disch := omega) only [aR, d2, cX, d3, aA, aE, hcv]
    exact key _ _ rfl (x04.seq x5)
end Go.Proofs.YtgpimhlgaokobaaGreat
