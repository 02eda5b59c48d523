/- Parts of the proof of LiteralsPacked: merged and given short names by a program of ours. -/
import Derived.Test.YtgpimhlgaokobaaGreatZcD
set_option linter.unusedVariables false
set_option linter.unusedSimpArgs false
open Array renaming length_toList → aMm
open Bool renaming false_eq_true → aLb, not_true → aLu
open Int renaming toNat_natCast → aK9, tmod_eq_emod_of_nonneg → aLB, tdiv_eq_ediv_of_nonneg → aLr, fdiv_eq_ediv_of_nonneg → aMI
open List renaming getElem?_cons_zero → aK7, getElem?_cons_succ → aK8, length_singleton → aL1, mem_cons → aL2, getElem?_eq_some_iff → aL5, take_add_one → aL6, getElem?_map → aLD, append_assoc → aLF, take_of_length_le → aLH, length_eq_zero_iff → aLI, map_congr_left → aLN, mem_append → aLQ, mem_range → aLR, replicate_succ → aLT, length_replicate → aLV, getElem_mem → aLW, append_nil → aLX, getElem?_take_of_lt → aLY, set_cons_succ → aLc, set_cons_zero → aLd, take_succ_cons → aLe, drop_zero → aLf, getElem?_eq_getElem → aLg, length_append → aLh, take_zero → aLi, length_map → aLk, getD_eq_getElem?_getD → aLl, length_take → aLn, getElem?_eq_none → aLo, length_drop → aLs, length_cons → aLw, mem_cons_of_mem → aLx, getElem?_append_left → aLy, map_append → aLz, getLast?_eq_getElem? → aM2, replicate_succ' → aM3, getElem_of_mem → aMD, getElem_cons_zero → aMF, set_append_right → aMO, map_drop → aMS, take_append_of_le_length → aMT, take_length → aMU, mem_singleton → aMX, map_take → aMZ, getElem?_range → aMb, mem_of_getElem? → aMg, cons_append → aMh, getElem?_toArray → aMj, ext_getElem? → aMk, mem_map → aMl, map_cons → aMn, mem_append_left → aMp, mem_of_mem_take → aMq, drop_succ_cons → aMs, nil_append → aMu, ext_getElem → aMw, getElem?_replicate → aMz, map_map → aNC, take_left' → aNc, getLast?_concat → aNi, range_succ → aNo, drop_left' → aNq, map_nil → aNs, map_replicate → aNu, take_take → aNv
open Nat renaming add_mul → aL0, min_eq_left → aL3, pow_add → aL7, add_sub_cancel → aL9, two_pow_pos → aLC, mul_le_mul_right → aLG, mul_comm → aLJ, pow_succ → aLM, mod_eq_of_lt → aLP, zero_add → aLa, pow_le_pow_right → aLj, le_refl → aLm, lt_or_ge → aLv, zero_le → aM4, add_assoc → aMH, mod_two_eq_zero_or_one → aMJ, lt_of_lt_of_le → aMK, sub_self → aMR, div_le_self → aMa, le_trans → aMf, add_zero → aMi, eq_zero_or_pos → aMv, mod_lt → aNb, log2_two_pow → aNh, one_mul → aNl, mul_add → aNm, lt_trichotomy → aNw, div_eq_of_lt → aNz
open Option renaming map_some → aLZ, getD_some → aM6
open Option.some renaming inj → aLA
open Prod.mk renaming inj → aMV
open UInt8 renaming toNat_lt → aLO, toNat_ofNat_of_lt' → aMx
namespace Go.Proofs.YtgpimhlgaokobaaGreat
open Go Go.En Go.Pu
set_option maxRecDepth 4000
theorem ayM {log lo hi lack k cc : Nat} {a : Option Addr} {b : aNF} {L : List Bool} {w : aNE} (h : RB w lo hi b L lack) (hhi : hi <= w.heap.size) (hn : log <= 20) (hL : L.length <= 10000000) (hk : lack <= 100000000) :
 aT pg CK #[.agg #[.int .i64 log, .slice a k cc], b] w (fun r w' => ∃ b', r = .tuple #[b', .int .i64 (qH L log : Nat)] /\ RB w' lo hi b' (L.take (L.length - min log L.length)) (lack + (log - min log L.length)) /\ aW w w' eT) := by
 refine aqB ?_
 unfold atA OC
 have hb := h
 obtain ⟨v, rfl, hs, hat⟩ := h
 obtain ⟨a', c', rfl, hc⟩ := GG hs
 refine nO fun w1 o1 x1 s1 => ?_
 refine nO fun w2 o2 x2 s2 => ?_
 refine jU fun w3 o3 x3 s3 => ?_
 simp only [Value.cells] at o1 o2
 have o13 := (o1.ext x2 (fun h => h)).ext x3 (fun h => h)
 have o23 := o2.ext x3 (fun h => h)
 have x03 : aW w w3 eT := (x1.seq x2).seq x3
 have c0 := o13.cell (off := 0)
 have l1 := fM (off := 0) o23 (by simp)
 simp only [aK7, aK8, aLf, aLe, aLi] at c0 l1
 simp (disch := omega) only [aD, l1, dR, aA, bO, c0, aH]
 refine (aqD (hb.ext x03 (fun _ _ _ h => h)) (by omega) hL (by omega)).mono ?_
 rintro r w4 ⟨b', rfl, hb4, x4⟩
 have hlt := tC L log
 have hp : 2 ^ log <= 2 ^ 20 := aLj (by omega) hn
 generalize qH L log = x at *
 have hb4' := hb4
 obtain ⟨v4, rfl, hs4, hat4⟩ := hb4
 obtain ⟨a4, c4, rfl, hc4⟩ := GG hs4
 simp (disch := omega) only [pT, pS, aA, bY, aP]
 refine cL (o23.ext x4 (fun h => h)) rfl (by simp [one]) (by simp) fun w5 o5 x5 s5 => ?_
 simp only [bM, aLd, aLc] at o5
 have l5 := fM (off := 0) o5 (by simp)
 simp only [aLf, aLe, aLi] at l5
 simp (disch := omega) only [l5, aA]
 refine cL ((o3.ext x4 (fun h => h)).ext x5 (by omega)) rfl (by simp [one]) (by simp) fun w6 o6 x6 s6 => ?_
 refine lX o6 (by simp [bM]) ?_
 simp only [bM, aLd, aLc, aLf, aLe, aLi]
 have z3 := x3.size
 have x46 : aW w3 w6 (fun y => y = w1.heap.size ∨ y = w2.heap.size) := ((x4.mono fun _ _ h => h.elim).seq (x5.mono fun _ _ h => .inl h)).seq (x6.mono fun _ _ h => .inr h)
 have x06 : aW w w6 eT := x03.trans x46 fun b hb h => by omega
 refine ⟨_, rfl, ?_, x06⟩
 exact ⟨_, rfl, hs4.ext ((x5.mono fun _ _ h => .inl h : aW w4 w5 (fun y => y = w1.heap.size ∨ y = w2.heap.size)).seq (x6.mono fun _ _ h => .inr h)) (hat4 _ fun b hb hh => by omega), hat4⟩
theorem aEf {log b lo hi lack : Nat} {v bv : aNF} {L : List T3} {s : Int} {B : List Bool} {w : aNE} (ht : RT w b log L v) (hL : Low L) (hlen : L.length <= 1000000) (h : RB w lo hi bv B lack) (hhi : hi <= w.heap.size) (hB : B.length <= 10000000) (hk : lack <= 100000000) :
 aT pg Me #[v, .int .i64 s, bv] w (fun r w' => ∃ b', r = .tuple #[b', .int .i64 (vI L s (qH B (lB L s)))] /\ RB w' lo hi b' (B.take (B.length - min (lB L s) B.length)) (lack + (lB L s - min (lB L s) B.length)) /\ aW w w' eT) := by
 refine auP ?_
 have htt := ht
 obtain ⟨cc, rest, rfl, ob⟩ := ht
 have hb := h
 obtain ⟨v, rfl, hs, hat⟩ := h
 obtain ⟨a', c', rfl, hc⟩ := GG hs
 unfold awQ RI
 refine nO fun w1 o1 x1 s1 => ?_
 refine nO fun w2 o2 x2 s2 => ?_
 refine jU fun w3 o3 x3 s3 => ?_
 simp only [Value.cells] at o1 o2
 have o13 := (o1.ext x2 (fun h => h)).ext x3 (fun h => h)
 have o23 := o2.ext x3 (fun h => h)
 have x03 : aW w w3 eT := (x1.seq x2).seq x3
 have c1 := o13.cell (off := 1)
 have l1 := fM (off := 0) o23 (by simp)
 simp only [aK7, aK8, aLf, aLe, aLi] at c1 l1
 have hlb := ob.lt
 have bad : lB L s = 0 -> (∀ x, vI L s x = 0) -> ∀ w6, aW w3 w6 (fun y => y = w2.heap.size) -> ∃ b', Value.tuple #[.agg #[.slice a' B.length c', .int .i64 lack], .int .i64 0] = Value.tuple #[b', .int .i64 (vI L s (qH B (lB L s)))] /\ RB w6 lo hi b' (B.take (B.length - min (lB L s) B.length)) (lack + (lB L s - min (lB L s) B.length)) /\ aW w w6 eT := by
  intro e1 e2 w6 x6
  have x06 : aW w w6 eT := x03.new x6 (by omega)
  refine ⟨_, by rw [e2], ⟨_, ?_, ?_, hat⟩, x06⟩
  .rw [e1]; simp
  .have : B.take (B.length - min (lB L s) B.length) = B := aLH (by omega)
   rw [this]
   exact hs.ext x06 (bZ _)
 by_cases hs0 : s < 0
 .have d1 : decide (s < 0) = true := by simpa using hs0
  have e1 : lB L s = 0 := by unfold lB; rw [if_neg (by omega)]
  have e2 : ∀ x, vI L s x = 0 := fun x => by unfold vI; rw [if_neg (by omega)]
  simp (disch := omega) only [aD, aS, d1, bN, aLa, aA, jJ, and_true, Result.ok.injEq, Next.value.injEq, true_and, bG, jM, bE, if_true, aG, cK, l1]
  refine cL o3 rfl (by simp [one]) (by simp) fun w6 o6 x6 s6 => ?_
  refine lX o6 (by simp [bM]) ?_
  simp only [bM, aLd, aLc, aLf, aLe, aLi]
  exact bad e1 e2 w6 x6
 have d1 : decide (s < 0) = false := by simpa using hs0
 obtain ⟨i, rfl⟩ : ∃ i : Nat, s = i := ⟨s.toNat, by omega⟩
 by_cases hge : L.length <= i
 .have d2 : decide ((L.length : Int) <= (i : Int)) = true := by simp; omega
  have hnone : L[i]? = none := aLo hge
  have e1 : lB L i = 0 := by unfold lB; simp [hnone]
  have e2 : ∀ x, vI L i x = 0 := fun x => by unfold vI; simp [hnone]
  simp (disch := omega) only [aD, aS, d1, bN, aLa, aA, jJ, and_true, Result.ok.injEq, Next.value.injEq, true_and, bG, dI, bE, aLb, if_false, bJ, c1, aH, dO, nF, d2, l1, aG]
  refine cL o3 rfl (by simp [one]) (by simp) fun w6 o6 x6 s6 => ?_
  refine lX o6 (by simp [bM]) ?_
  simp only [bM, aLd, aLc, aLf, aLe, aLi]
  exact bad e1 e2 w6 x6
 clear bad
 have d2 : decide ((L.length : Int) <= (i : Int)) = false := by simp; omega
 have hlt : i < L.length := by omega
 obtain ⟨n, hn, hn2, hb0', hb1⟩ := hL _ (aLW hlt)
 have hsome : L[i]? = some L[i] := aLg hlt
 have e1 : lB L i = n := by unfold lB; simp [hsome, hn]
 have e2 : ∀ x : Nat, vI L i x = L[i].2.2 + x := fun x => by unfold vI; simp [hsome]
 obtain ⟨q1, q2, q3⟩ := aIR (k := .i64) hsome
 have hq : i * 3 + 2 < (fe .i64 L).length := by rw [pY]; omega
 rw [<- aLy (l₂ := rest) (by omega)] at q1 q2 q3
 generalize L[i] = e at *
 obtain ⟨e0, en, eb⟩ := e
 simp only at hn hb0' hb1 q1 q2 q3 e2
 subst hn
 rw [e1, e2]
 have ob3 := ob.ext x03 (fun h => h)
 have od := kA o13
 have o2d := kA o23
 have obd := kA ob3
 have c1d := od.cell (off := 1)
 have l1d := fM (off := 0) o2d (by simp)
 have r2d := obd.cell (off := i * 3 + 1)
 have r2 := ob3.cell (off := i * 3 + 1)
 rw [q2] at r2 r2d
 simp only [aK7, aK8, aLf, aLe, aLi] at c1d l1d
 simp (disch := omega) only [aD, aS, d1, bN, aLa, aA, jJ, and_true, Result.ok.injEq, Next.value.injEq, true_and, bG, dI, bE, aLb, if_false, bJ, c1, aH, dO, nF, d2, l1, l1d, c1d, bU, aK9, cP, bO, r2d, aE]
 refine (aqD ((hb.ext x03 (fun _ _ _ h => h)).ext (aW.dr _ eT) (fun _ _ _ h => h)) (by omega) hB (by omega)).mono ?_
 rintro r w4 ⟨b', rfl, hb4, x4⟩
 have hlt := tC B n
 have hp : 2 ^ n <= 2 ^ 20 := aLj (by omega) hn2
 generalize qH B n = x at *
 obtain ⟨v4, rfl, hs4, hat4⟩ := hb4
 obtain ⟨a4, c4, rfl, hc4⟩ := GG hs4
 simp (disch := omega) only [pT, pS, Result.ok.injEq, Next.value.injEq, and_true, aA, bY, aP, true_and]
 refine cL (o2d.ext x4 (fun h => h)) rfl (by simp [one]) (by simp) fun w5 o5 x5 s5 => ?_
 simp only [bM, aLd, aLc] at o5
 have z3 := x3.size
 have z4 : w3.heap.size <= w4.heap.size := x4.size
 have x35 : aW w3 w5 (fun y => y = w1.heap.size) := (((aW.dr w3 eT).seq x4).mono fun _ _ h => h.elim).seq x5
 have o15 := o13.ext x35 (by omega)
 have ob5 := ob3.ext x35 (by omega)
 have o5d := kA o5
 have l5 := fM (off := 0) o5d (by simp)
 have c15 := (kA o15).cell (off := 1)
 have r3 := (kA ob5).cell (off := i * 3 + 2)
 rw [q3] at r3
 simp only [aK7, aK8, aLf, aLe, aLi] at l5 c15
 simp (disch := omega) only [l5, c15, aH, aA, bU, aK9, aLa, Result.ok.injEq, Next.value.injEq, and_true, dC, true_and, bO, r3, bK, aP]
 refine cL (kA (o3.ext x35 (by omega))) rfl (by simp [one]) (by simp) fun w6 o6 x6 s6 => ?_
 simp only [bM, aLd, aLc] at o6
 have x56 : aW w5 w6 (fun y => y = w2.heap.size) := (aW.dr _ _).seq x6
 have c16 := (o15.ext x56 (by omega)).cell (off := 1)
 have r36 := (ob5.ext x56 (by omega)).cell (off := i * 3 + 2)
 rw [q3] at r36
 simp only [aK7, aK8] at c16
 simp (disch := omega) only [r36, aH, c16, and_true, true_and]
 refine lX o6 (by simp) ?_
 simp only [aLf, aLe, aLi]
 have x36 : aW w3 w6 (fun y => y = w1.heap.size ∨ y = w2.heap.size) := (x35.mono fun _ _ h => .inl h).seq (x56.mono fun _ _ h => .inr h)
 have x06 : aW w w6 eT := x03.trans x36 fun b hb h => by omega
 refine ⟨_, rfl, ⟨_, rfl, hs4.ext ((x5.mono fun _ _ h => .inl h : aW w4 w5 (fun y => y = w1.heap.size ∨ y = w2.heap.size)).seq (x56.mono fun _ _ h => .inr h)) (hat4 _ fun b hb hh => by omega), hat4⟩, x06⟩
end Go.Proofs.YtgpimhlgaokobaaGreat
namespace Go.Pu
open Go Go.En
def qD (L : List Bool) (st n : Nat) : Nat := wM ((L.drop st).take n)
theorem GP (L : List Bool) (st n : Nat) : qD L st n < 2 ^ n := by
 have h := ahJ ((L.drop st).take n)
 have : ((L.drop st).take n).length <= n := by rw [aLn]; omega
 exact aMK h (aLj (by omega) this)
def alY (L : List Bool) (st left : Nat) : Option (Nat × Nat) :=
 let n := bl (left + 1)
 if L.length < st + (n - 1) then none
 else
  let low := qD L st (n - 1)
  let free := 2 ^ n - 2 - left
  if low < free then some (low, st + (n - 1))
  else if L.length < st + (n - 1) + 1 then none
  else if qD L (st + (n - 1)) 1 = 0 then some (low, st + (n - 1) + 1)
  else some (low + 2 ^ (n - 1) - free, st + (n - 1) + 1)
def noR (L : List Bool) : Nat -> Nat -> Option (Nat × Nat)
 | 0, _ => none
 | f + 1, st => if L.length < st + 2 then none else if qD L st 2 < 3 then some (qD L st 2, st + 2) else match noR L f (st + 2) with
   | none => none
   | some (k, st') => some (3 + k, st')
def rdC (L : List Bool) (sym : Nat) : Nat -> Nat -> Nat -> List Int -> Except Int (List Int × Nat)
 | 0, _, _, _ => .error 10
 | f + 1, st, left, ps => if left = 0 then .ok (ps, st) else match alY L st left with
   | none => .error 10
   | some (v, st1) =>
     if v = 1 then match noR L (L.length + 1) st1 with
       | none => .error 10
       | some (k, st2) => if sym < ps.length + 1 + k then .error 11 else rdC L sym f st2 left (ps ++ 0 :: List.replicate k 0)
     else if sym < ps.length + 1 then .error 11 else rdC L sym f st1 (left - (iU ((v : Int) - 1)).toNat) (ps ++ [(v : Int) - 1])
theorem avS {L : List Bool} {st left v st1 : Nat} (h : alY L st left = some (v, st1)) (h0 : 0 < left) : st < st1 /\ st1 <= L.length /\ v <= left + 1 := by
 have hb1 := NR (k := left + 1) (by omega)
 have hb2 := Zj (k := left + 1) (by omega)
 have hb3 := WI (left + 1)
 have hn : 2 <= bl (left + 1) := by
  rcases aLv (bl (left + 1)) 2 with h | h
  .have : bl (left + 1) = 1 := by omega
   rw [this] at hb3; omega
  .exact h
 unfold alY at h
 simp only at h
 generalize bl (left + 1) = n at *
 obtain ⟨m, rfl⟩ : ∃ m, n = m + 1 := ⟨n - 1, by omega⟩
 rw [aL9] at *
 rw [aLM] at *
 have hl := GP L st m
 generalize 2 ^ m = q at *
 generalize qD L st m = low at *
 split at h
 .cases h
 .split at h
  .obtain ⟨rfl, rfl⟩ := aMV (aLA h); omega
  .split at h
   .cases h
   .split at h
    .obtain ⟨rfl, rfl⟩ := aMV (aLA h); omega
    .obtain ⟨rfl, rfl⟩ := aMV (aLA h); omega
theorem aBQ {L : List Bool} : ∀ {f st k st1 : Nat}, noR L f st = some (k, st1) -> st < st1 /\ st1 <= L.length /\ 2 * k <= 3 * (st1 - st)
 | 0, st, k, st1, h => by cases h
 | f + 1, st, k, st1, h => by
   rw [noR] at h
   split at h
   .cases h
   .have hl := GP L st 2
    split at h
    .obtain ⟨rfl, rfl⟩ := aMV (aLA h); omega
    .cases hn : noR L f (st + 2) with
     | none => rw [hn] at h; cases h
     | some x =>
       obtain ⟨k', st'⟩ := x
       rw [hn] at h
       obtain ⟨rfl, rfl⟩ := aMV (aLA h)
       have := aBQ hn
       omega
def CG (L : List Bool) (most : Int) (sym : Nat) : Except Int (Nat × List Int × Nat) :=
 if L.length < 4 then .error 10
 else
  let log := qD L 0 4 + 5
  if most < log ∨ 15 < log then .error 12
  else match rdC L sym (L.length + 1) 4 (2 ^ log) [] with
   | .error e => .error e
   | .ok (ps, st) => .ok (log, ps, (st + 7) / 8)
theorem axH : ∀ k : Nat, Fm (List.replicate k 0) = 0
 | 0 => rfl
 | k + 1 => by rw [aLT, HL, axH k] <;> rfl
theorem aoL {L : List Bool} {sym : Nat} {out : List Int} {stE : Nat} {tot : Int} : ∀ {f st left : Nat} {ps : List Int}, rdC L sym f st left ps = .ok (out, stE) -> (∀ p ∈ ps, -1 <= p) -> Fm ps + left = tot →
 (left = 0 -> ps.length <= sym /\ ps.getLast? ≠ some 0 /\ 1 <= ps.length) -> (∀ p ∈ out, -1 <= p) /\ Fm out = tot /\ out.length <= sym /\ out.getLast? ≠ some 0 /\ 1 <= out.length
 | 0, st, left, ps, h, _, _, _ => by cases h
 | f + 1, st, left, ps, h, hlo, hs, hz => by
   rw [rdC] at h
   split at h
   .rename_i h0
    cases h
    obtain ⟨z1, z2, z3⟩ := hz h0
    exact ⟨hlo, by omega, z1, z2, z3⟩
   .rename_i h0
    cases hv : alY L st left with
    | none => rw [hv] at h; cases h
    | some x =>
      obtain ⟨v, st1⟩ := x
      obtain ⟨v1, v2, v3⟩ := avS hv (by omega)
      rw [hv] at h
      simp only at h
      split at h
      .rename_i hv1
       cases hn : noR L (L.length + 1) st1 with
       | none => rw [hn] at h; cases h
       | some y =>
         obtain ⟨k, st2⟩ := y
         rw [hn] at h
         simp only at h
         split at h
         .cases h
         .refine aoL h ?_ ?_ (fun h => absurd h h0)
          .intro p hp
           rcases aLQ.1 hp with hp | hp
           .exact hlo p hp
           .rcases aL2.1 hp with rfl | hp
            .omega
            .rw [List.eq_of_mem_replicate hp]; omega
          .rw [Wp, HL]
           have e := axH k
           rw [e]
           have : iU 0 = 0 := rfl
           omega
      .rename_i hv1
       split at h
       .cases h
       .have hp1 : -1 <= (v : Int) - 1 := by omega
        have hpn := sT hp1
        have hpl : iU ((v : Int) - 1) <= left := by unfold iU; split <;> omega
        refine aoL h ?_ ?_ ?_
        .intro p hp
         rcases aLQ.1 hp with hp | hp
         .exact hlo p hp
         .rw [aMX.1 hp]; exact hp1
        .rw [Wp, HL]
         have e : Fm [] = 0 := rfl
         rw [e]; omega
        .intro _
         rw [aLh, aL1, aNi]
         refine ⟨by omega, ?_, by omega⟩
         intro e
         have := aLA e
         omega
end Go.Pu
namespace Go.En
open Go
section
variable {P : Program} {w : aNE} {t e : TypeId}
theorem aCG {S : Nat -> Prop} {sz n m : Nat} {i : TypeInfo} {z : aNF} {ty t2 : TypeId} {k : IntKind} (hu : P.underlying t = some (.slice e)) (hu2 : P.underlying t2 = some (.int k)) (hi : P.info? e = some i) (hsz : i.size = sz) (hz : i.zero = some z) (hzs : z.cells.size = sz)
 {v : aNF} {l : List aNF} (h : OSS w S sz v n l) (hsz0 : 0 < sz) (hone : ∀ y ∈ z.cells.toList, one y = true) (hb : ∀ b, w.heap.size <= b -> S b)
 (hn : n + m <= 9223372036854775807) (hbytes : (n + m) * i.bytes <= 140737488355328) (hmb : m * i.bytes <= 140737488355328)
 {K : aNF -> aNE -> Prop} (hk : ∀ v' w', OSS w' S sz v' (n + m) (l ++ (Builtin.zeroCells z.cells m).toList) -> aW w w' S -> K v' w') : aD P (lG .append #[t, t2] ty [v, .int k m]) w K := by
 generalize hnews : (Builtin.zeroCells z.cells m).toList = news at *
 have hnl : news.length = m * sz := by rw [<- hnews, aMm, uS, hzs]
 have hone' : ∀ y ∈ news, one y = true := by
  intro y hy
  rw [<- hnews] at hy
  simp only [Builtin.zeroCells, Array.toList_map, aMl] at hy
  obtain ⟨j, _, rfl⟩ := hy
  refine hone _ ?_
  have : j % z.cells.size < z.cells.size := aNb _ (by omega)
  rw [getElem!_pos z.cells _ this]
  exact Array.getElem_mem_toList this
 have hmw : IntKind.i64.wrap ((m : Nat) : Int) = (m : Int) := aP (by omega) (by omega)
 have hm0 : ¬ ((m : Int) < 0) := by omega
 have hmx : ¬ ((m : Int) * (i.bytes : Nat) > 2 ^ 48) := by
  have : (m : Int) * (i.bytes : Nat) = ((m * i.bytes : Nat) : Int) := by simp
  rw [this]; omega
 have has : ∀ w, (asInt (.int k m)).run P w = .ok (m : Int) w := fun w => rfl
 have hz' : ∀ w, (zeroValue e).run P w = .ok z w := fun w => by simp [zeroValue, typeInfo, hi, hz]
 have hnw : ∀ w, (if m * sz = 0 then pure #[] else do pure (Builtin.zeroCells (<- zeroValue e).cells m) : Sem (Array aNF)).run P w = .ok news.toArray w := fun w => by
  by_cases h0 : m * sz = 0
  .rw [if_pos h0, Sem.run_pure]
   have : news = [] := aLI.1 (by omega)
   rw [this]
  .rw [if_neg h0, Sem.run_bind, hz', Result.andThen_ok, Sem.run_pure, <- hnews, Array.toArray_toList]
 have hmax : IntKind.i64.max = 9223372036854775807 := by decide
 have hnot : ¬ (((n + m : Nat) : Int) > IntKind.i64.max) := by rw [hmax]; omega
 have hlen := h.1
 rcases h.2 with ⟨rfl, rfl⟩ | ⟨b, c, rest, rfl, h2, h3, h4, h5⟩
 .have hl0 : l = [] := aLI.1 (by omega)
  subst hl0
  by_cases hm : m = 0
  .subst hm
   have hn0 : news = [] := aLI.1 (by omega)
   subst hn0
   have : (lG .append #[t, t2] ty [.slice none 0 0, .int k (0 : Nat)]).run P w = .ok (.value (.slice none 0 0)) w := by
    unfold lG builtin
    simp only [Builtin.append_, aMj, aK7, aK8]
    simp only [underlying, typeInfo, Sem.run_bind, run_program, Result.andThen_ok, hu, hu2, hi, Sem.run_pure, kZ hi, hsz, has, hmw, hm0, hmx, if_true, if_false, aK9, aLu, aLb, aLm, aMi, hnw]
   unfold aD
   rw [this]
   exact hk _ _ ⟨by simp, .inl ⟨rfl, by omega⟩⟩ (aW.refl _ _)
  .have hfit := growslice_fits (need := 0 + m) (old := 0) (bytes := i.bytes) (by omega) (by omega)
   have hfit' : ¬ (Builtin.nextslicecap (0 + m) 0 * i.bytes > 2 ^ 48) := by omega
   have hle : ¬ (0 + m <= 0) := by omega
   have hq : (Question.appendCap (0 + m) 0 e).forced = false := rfl
   obtain ⟨r, hr⟩ : ∃ r, (Question.appendCap (0 + m) 0 e).cut (w.tape w.drawn (.appendCap (0 + m) 0 e)) = m + r :=
    ⟨(w.tape w.drawn (.appendCap (0 + m) 0 e)) % (2 ^ 63 - (0 + m)), by simp only [Question.cut]; omega⟩
   have : (lG .append #[t, t2] ty [.slice none 0 0, .int k m]).run P w = .ok (.value (.slice (some ⟨w.heap.size, 0, none⟩) (0 + m) (m + r))) ((dr w).alloc (.cells (news ++ (Builtin.zeroCells z.cells (m + r - (0 + m))).toList).toArray e)) := by
    unfold lG builtin
    simp only [Builtin.append_, aMj, aK7, aK8]
    simp only [underlying, typeInfo, Sem.run_bind, run_program, Result.andThen_ok, hu, hu2, hi, Sem.run_pure, kZ hi, hsz, has, hmw, hm0, hmx, if_true, if_false, aK9, aLu, aLb, hle, hnot, false_and, hfit', run_choose, hq, hr, run_askRoom]
    change ((Sem.run P _ (dr w)).andThen _).andThen _ = _
    simp only [Sem.run_bind, hnw, run_firstCells_none, Result.andThen_ok, hz', Sem.run_pure, newRow, run_newObj]
    have e1 : (#[] ++ news.toArray ++ Builtin.zeroCells z.cells (m + r - (0 + m)) : Array aNF) = (news ++ (Builtin.zeroCells z.cells (m + r - (0 + m))).toList).toArray := by
     apply Array.ext'; simp
    rw [e1]
    rfl
   unfold aD
   rw [this]
   refine hk _ _ ⟨by simp only [aMu]; rw [hnl, aLa], .inr ⟨w.heap.size, m + r, (Builtin.zeroCells z.cells (m + r - (0 + m))).toList, by rw [aLa], hb _ (aLm _), eM.alloc (dr w) _ _, ?_, by omega⟩⟩ ((aW.dr w _).seq (aW.alloc _ _ _))
   simp only [aMu, aLh, aMm, uS, hzs, hnl]
   rw [show m + r - (0 + m) = r from by omega, aL0]
 .by_cases hc : n + m <= c
  .have hroom : news.length <= rest.length := by
    rw [aLh, hlen] at h4
    have : (n + m) * sz <= c * sz := aLG _ hc
    rw [aL0] at this; omega
   obtain ⟨w', s1, s2, s3, s4, _⟩ := GH (P := P) (M := S) h2 news w (n * sz) 0 (l ++ rest) h3 (by rw [aLh, hlen]; omega) hone'
   have : (lG .append #[t, t2] ty [.slice (some ⟨b, 0, none⟩) n c, .int k m]).run P w = .ok (.value (.slice (some ⟨b, 0, none⟩) (n + m) c)) w' := by
    unfold lG builtin
    simp only [Builtin.append_, aMj, aK7, aK8]
    simp only [underlying, typeInfo, Sem.run_bind, run_program, Result.andThen_ok, hu, hu2, hi, Sem.run_pure, kZ hi, hsz, has, hmw, hm0, hmx, if_true, if_false, aK9, aLu, aLb, hc, hnw, NH, aLa, s1]
   unfold aD
   rw [this]
   rw [aMi, <- hlen, Zs _ _ _ hroom] at s2
   refine hk _ _ ⟨by rw [aLh, hlen, hnl, aL0], .inr ⟨b, c, rest.drop news.length, rfl, h2, s2, ?_, hc⟩⟩ s3
   rw [<- h4]; simp; omega
  .have hfit := growslice_fits (need := n + m) (old := c) (bytes := i.bytes) (by omega) hbytes
   have hfit' : ¬ (Builtin.nextslicecap (n + m) c * i.bytes > 2 ^ 48) := by omega
   have hq : (Question.appendCap (n + m) c e).forced = false := rfl
   obtain ⟨r, hr⟩ : ∃ r, (Question.appendCap (n + m) c e).cut (w.tape w.drawn (.appendCap (n + m) c e)) = n + m + r :=
    ⟨(w.tape w.drawn (.appendCap (n + m) c e)) % (2 ^ 63 - (n + m)), by simp only [Question.cut]⟩
   have hold : Cl (dr w) sz (.slice (some ⟨b, 0, none⟩) n c) n l := ⟨_, _, rfl, hlen, fun _ => ⟨b, 0, rfl, fun i hi => by
    show w.cell? _ = _
    rw [h3.cell, aLa, aLy hi]⟩⟩
   have : (lG .append #[t, t2] ty [.slice (some ⟨b, 0, none⟩) n c, .int k m]).run P w = .ok (.value (.slice (some ⟨w.heap.size, 0, none⟩) (n + m) (n + m + r))) ((dr w).alloc (.cells (l ++ news ++ (Builtin.zeroCells z.cells (n + m + r - (n + m))).toList).toArray e)) := by
    have hfo := CL (P := P) hold
    unfold lG builtin
    simp only [Builtin.append_, aMj, aK7, aK8]
    simp only [underlying, typeInfo, Sem.run_bind, run_program, Result.andThen_ok, hu, hu2, hi, Sem.run_pure, kZ hi, hsz, has, hmw, hm0, hmx, if_true, if_false, aK9, aLu, aLb, hc, hnot, false_and, hfit', run_choose, hq, hr, run_askRoom]
    change ((Sem.run P _ (dr w)).andThen _).andThen _ = _
    simp only [Sem.run_bind, hnw, hfo, Result.andThen_ok, hz', Sem.run_pure, newRow, run_newObj]
    have e1 : (l.toArray ++ news.toArray ++ Builtin.zeroCells z.cells (n + m + r - (n + m)) : Array aNF) = (l ++ news ++ (Builtin.zeroCells z.cells (n + m + r - (n + m))).toList).toArray := by
     apply Array.ext'; simp
    rw [e1]
    rfl
   unfold aD
   rw [this]
   refine hk _ _ ⟨by rw [aLh, hlen, hnl, aL0], .inr ⟨w.heap.size, n + m + r, _, rfl, hb _ (aLm _), eM.alloc (dr w) _ _, ?_, by omega⟩⟩ ((aW.dr w _).seq (aW.alloc _ _ _))
   simp only [aLh, aMm, uS, hzs, hnl, hlen]
   rw [show n + m + r - (n + m) = r from by omega, aL0, aL0]
end
end Go.En
namespace Go.Proofs.YtgpimhlgaokobaaGreat
open Go Go.En Go.Pu
set_option maxRecDepth 4000
theorem aIV {y : Nat} (h : y ≠ 0) : bl y = bl (y / 2) + 1 := by
 by_cases h2 : y / 2 = 0
 .obtain rfl : y = 1 := by omega
  decide
 .have a := Zj h2
  have b := WI (y / 2)
  have c := NR h2
  obtain ⟨m, hm⟩ : ∃ m, bl (y / 2) = m + 1 := ⟨bl (y / 2) - 1, by omega⟩
  rw [hm, aL9] at a
  rw [hm] at b ⊢
  refine aGE ?_ ?_
  .rw [aLM]; omega
  .rw [aLM]; omega
theorem aIg {x : Nat} (hx : x < 2 ^ 40) (w : aNE) : aT pg I5 #[.int .i64 x] w (fun r w' => r = .int .i64 (bl x : Nat) /\ w' = w) := by
 refine apD ?_
 unfold arZ O2 Ou Pv Oo NG
 have hb : bl x <= 40 := wO hx
 refine cS.rule (fun m (t : aNF × aNF) w' => ∃ n : Nat, t = (.int .i64 m, .int .i64 n) /\ bl m + n = bl x /\ m <= x /\ w' = w) x ⟨0, rfl, rfl, aLm _, rfl⟩ ?_
 rintro m t w1 ⟨n, rfl, hn, hmx, rfl⟩
 unfold FO
 by_cases h0 : m = 0
 .subst h0
  have d1 : decide ((0 : Int) < ((0 : Nat) : Int)) = false := rfl
  unfold F1
  have : n = bl x := by rw [<- hn]; simp [aIP]
  subst this
  simp (disch := omega) only [aD, dE, d1, oR, bK, aP, aA, true_and, and_true, aE]
 .have d1 : decide ((0 : Int) < (m : Int)) = true := by simp; omega
  have e1 : (m : Int).tdiv 2 = ((m / 2 : Nat) : Int) := by rw [aLr (by omega)]; omega
  have hh := aIV h0
  simp (disch := omega) only [aD, dE, d1, oR, e1, aP, bK, aA, and_true, aG]
  exact ⟨m / 2, by omega, n + 1, rfl, by omega, by omega⟩
theorem XM {v : aNF} {L : List Bool} {st n : Nat} {w : aNE} (hs : Bl w v L) (hn : n <= 32) (hst : st <= L.length) (hl : L.length <= 10000000) :
 aT pg zQ #[.agg #[v, .int .i64 st], .int .i64 n] w (fun r w' => ((L.length < st + n /\ r = .tuple #[.agg #[v, .int .i64 st], .int .u64 0, .int .i64 10]) ∨
  (st + n <= L.length /\ r = .tuple #[.agg #[v, .int .i64 (st + n : Nat)], .int .u64 (qD L st n : Nat), .int .i64 0])) /\ aW w w' eT) := by
 refine auX ?_
 obtain ⟨a, c, rfl, hc⟩ := GG hs
 unfold ayV Rr
 refine nO fun w1 o1 x1 s1 => ?_
 refine Br fun w2 o2 x2 s2 => ?_
 simp only [Value.cells] at o1
 have o1 := o1.ext x2 (fun h => h)
 have c0 := o1.cell (off := 0)
 have c1 := o1.cell (off := 1)
 have l1 := jL (off := 0) o1 (by simp)
 simp only [aK7, aK8, aLf, aLe, aLi] at c0 c1 l1
 have x02 : aW w w2 eT := x1.seq x2
 have d1 : decide ((n : Int) < 0) = false := by simp
 have d2 : decide ((32 : Int) < (n : Int)) = false := by simp; omega
 by_cases hsh : L.length < st + n
 .have d3 : decide ((L.length : Int) - (st : Int) < (n : Int)) = true := by simp; omega
  simp (disch := omega) only [aD, aS, d1, eF, dL, aLa, aA, bO, lU, dI, bE, aLb, if_false, bJ, dE, d2, l1, c0, aH, lI, c1, fE, aP, d3, bK, aG, aE]
  refine eX o2 rfl (by simp [one]) (by simp) fun w3 o3 x3 s3 => ?_
  refine pX o3 (by simp [bM]) ?_
  simp only [bM, aLd, aLc, aLf, aLe, aLi]
  exact ⟨.inl ⟨hsh, by trivial⟩, x02.new x3 (by omega)⟩
 .have d3 : decide ((L.length : Int) - (st : Int) < (n : Int)) = false := by simp; omega
  have e1 : (st : Int) + (n : Int) = ((st + n : Nat) : Int) := by omega
  have hs2 := (hs.ext x02 (bZ _)).drop' (k := st) (by omega)
  rw [<- aMS] at hs2
  have hs3 := aJS hs2 (k := n) (by omega)
  rw [<- aMZ] at hs3
  have e2 : st + n - st = n := by omega
  simp (disch := omega) only [aD, aS, d1, eF, dL, aLa, aA, bO, lU, dI, bE, aLb, if_false, bJ, dE, d2, c0, aH, lI, c1, fE, aP, d3, bK, e1, kG, aK9, e2, aE]
  refine (asR hs3 (by rw [aLn]; omega)).mono ?_
  rintro r w3 ⟨rfl, rfl⟩
  simp (disch := omega) only [c1, aH, aA, bK, e1, aP]
  refine pD o1 rfl (by simp) fun w4 o4 x4 s4 => ?_
  simp only [aLd, aLc] at o4
  have l4 := jL (off := 0) o4 (by simp)
  simp only [aLf, aLe, aLi] at l4
  simp (disch := omega) only [l4, aA]
  refine eX (o2.ext x4 (by omega)) rfl (by simp [one]) (by simp) fun w5 o5 x5 s5 => ?_
  refine pX o5 (by simp [bM]) ?_
  simp only [bM, aLd, aLc, aLf, aLe, aLi]
  exact ⟨.inr ⟨by omega, by trivial⟩, (x02.new x4 (by omega)).new x5 (by omega)⟩
theorem aFF {v : aNF} {st : Nat} {w : aNE} (hst : st <= 1000000000) : aT pg Ml #[.agg #[v, .int .i64 st]] w (fun r w' => r = .int .i64 (((st + 7) / 8 : Nat)) /\ aW w w' eT) := by
 refine avE ?_
 unfold azB Rb
 refine nO fun w1 o1 x1 s1 => ?_
 simp only [Value.cells] at o1
 have c1 := o1.cell (off := 1)
 simp only [aK7, aK8] at c1
 have e1 : ((st : Int) + 7).tdiv 8 = (((st + 7) / 8 : Nat) : Int) := by rw [aLr (by omega)]; omega
 simp (disch := omega) only [aD, dL, aLa, aA, bO, c1, aH, bK, aP, oR, e1, true_and]
 exact x1
theorem aAR {left : Nat} (h0 : 0 < left) (h1 : left <= 32768) : ∃ m, bl (left + 1) = m + 1 /\ 1 <= m /\ m <= 16 /\ left + 1 < 2 ^ (m + 1) /\ 2 ^ m <= left + 1 /\ 2 ^ (m + 1) = 2 * 2 ^ m := by
 have hb2 := Zj (k := left + 1) (by omega)
 have hb3 := WI (left + 1)
 have hb4 := wO (k := left + 1) (n := 17) (by omega)
 have hn : 2 <= bl (left + 1) := by
  rcases aLv (bl (left + 1)) 2 with h | h
  .have hb1 := NR (k := left + 1) (by omega)
   have : bl (left + 1) = 1 := by omega
   rw [this] at hb3; omega
  .exact h
 obtain ⟨m, hm⟩ : ∃ m, bl (left + 1) = m + 1 := ⟨bl (left + 1) - 1, by omega⟩
 rw [hm] at hb2 hb3 hb4 hn ⊢
 exact ⟨m, rfl, by omega, by omega, hb3, hb2, by rw [aLM, aLJ]⟩
theorem aC9 (L : List Bool) (f st : Nat) : noR L (f + 1) st = if L.length < st + 2 then none else if qD L st 2 < 3 then some (qD L st 2, st + 2) else match noR L f (st + 2) with
 | none => none
 | some (k, st') => some (3 + k, st') := by rw [noR] <;> rfl
def aJa (w : aNE) (lo hi : Nat) (l : List UInt8) (o : Option (Nat × Nat)) (r : aNF) : Prop := match o with
 | none => r = .tuple #[.int .i64 0, .int .i64 10]
 | some (v, st) => r = .tuple #[.int .i64 v, .int .i64 0] /\ Fwd w lo hi l st
theorem aIM {l : List UInt8} {lo hi st left : Nat} {w : aNE} (h : Fwd w lo hi l st) (hlh : lo <= hi) (hst : st <= 8 * l.length) (hl : l.length <= 1000000) (h0 : 0 < left) (h1 : left <= 32768) :
 aT pg F6 #[.pointer (some ⟨hi, 0, none⟩), .int .i64 left] w (fun r w' => aJa w' lo hi l (alY (aZ l) st left) r /\ aW w w' (fun y => y = hi)) := by
 refine alF ?_
 obtain ⟨m, hm, hm1, hm2, hf1, hf2, hf3⟩ := aAR h0 h1
 unfold afR Lq
 have e1 : (left : Int) + 1 = ((left + 1 : Nat) : Int) := by omega
 simp (disch := omega) only [aD, bK, e1, aP, aA, fW, kS]
 refine (aCw (x := left + 1) (by omega) w).mono ?_
 rintro r w1 ⟨rfl, rfl⟩
 rw [hm]
 have e2 : ((m + 1 : Nat) : Int) - 1 = (m : Int) := by omega
 simp (disch := omega) only [fE, e2, aP, pE, aK9, aA]
 refine (XL (n := m) h hlh (by omega) hst hl).mono ?_
 have hbl := lY l
 unfold alY
 simp only [hm, aL9]
 rintro r w2 (⟨hsh, rfl, hf, x2⟩ | ⟨hsh, rfl, hf, x2⟩)
 .have n1 : ((10 : Int) != 0) = true := rfl
  rw [if_pos (by omega)]
  simp (disch := omega) only [pT, pS, aA, cY, n1, aG]
  exact ⟨rfl, x2.mono fun _ _ h => h.elim⟩
 .have n1 : ((0 : Int) != 0) = false := rfl
  rw [if_neg (by omega)]
  have hlt := GP (aZ l) st m
  have hnum : wM (((aZ l).drop st).take m) = qD (aZ l) st m := rfl
  rw [hnum]
  have hsh1 := aFx (n := m + 1) (by omega)
  have hsh0 := aFx (n := m) (by omega)
  have hp : 2 ^ m <= 2 ^ 16 := aLj (by omega) hm2
  generalize qD (aZ l) st m = low at *
  rw [hf3] at *
  generalize hq : 2 ^ m = q at *
  have e3 : ((2 * q : Nat) : Int) - 2 - (left : Int) = ((2 * q - 2 - left : Nat) : Int) := by omega
  by_cases hfr : low < 2 * q - 2 - left
  .have d1 : decide ((low : Int) < ((2 * q - 2 - left : Nat) : Int)) = true := by simp only [decide_eq_true_eq]; omega
   rw [if_pos hfr]
   simp (disch := omega) only [pT, pS, hsh1, aP, e3, aA, cY, n1, aE, bY, bK, fE, aS, d1, aG]
   exact ⟨⟨rfl, hf⟩, x2⟩
  .have d1 : decide ((low : Int) < ((2 * q - 2 - left : Nat) : Int)) = false := by simp only [decide_eq_false_iff_not]; omega
   rw [if_neg hfr]
   simp (disch := omega) only [pT, pS, hsh1, aP, e3, aA, cY, n1, aE, bY, bK, fE, aS, d1]
   refine (XL (n := 1) hf hlh (by omega) hsh hl).mono ?_
   rintro r w3 (⟨hs3, rfl, hf3, x3⟩ | ⟨hs3, rfl, hf3, x3⟩)
   .have n1 : ((10 : Int) != 0) = true := rfl
    rw [if_pos (by omega)]
    simp (disch := omega) only [pT, pS, aA, cY, n1, aG]
    exact ⟨rfl, x2.seq (x3.mono fun _ _ h => h.elim)⟩
   .rw [if_neg (by omega)]
    have hnum : wM (((aZ l).drop (st + m)).take 1) = qD (aZ l) (st + m) 1 := rfl
    rw [hnum]
    by_cases hz : qD (aZ l) (st + m) 1 = 0
    .have n2 : (((qD (aZ l) (st + m) 1 : Nat) : Int) == 0) = true := by rw [hz] <;> rfl
     rw [if_pos hz]
     simp (disch := omega) only [pT, pS, aA, cY, n1, aE, dQ, n2, aG]
     exact ⟨⟨rfl, hf3⟩, x2.seq x3⟩
    .have n2 : (((qD (aZ l) (st + m) 1 : Nat) : Int) == 0) = false := beq_eq_false_iff_ne.2 (by omega)
     have e4 : (low : Int) + (q : Int) - ((2 * q - 2 - left : Nat) : Int) = ((low + q - (2 * q - 2 - left) : Nat) : Int) := by omega
     rw [if_neg hz]
     simp (disch := omega) only [pT, pS, hsh0, e4, aA, cY, n1, aE, dQ, n2]
     exact ⟨⟨rfl, hf3⟩, x2.seq x3⟩
theorem aFY {l : List UInt8} {lo hi st : Nat} {w : aNE} (h : Fwd w lo hi l st) (hlh : lo <= hi) (hst : st <= 8 * l.length) (hl : l.length <= 1000000) :
 aT pg Cd #[.pointer (some ⟨hi, 0, none⟩)] w (fun r w' => aJa w' lo hi l (noR (aZ l) ((aZ l).length + 1) st) r /\ aW w w' (fun y => y = hi)) := by
 refine YV ?_
 have hbl := lY l
 unfold VO D0 Fj FV Qn GR Gr Gy FW
 refine cS.rule (fun m (t : aNF) w' => ∃ k0 st' : Nat, t = .int .i64 k0 /\ noR (aZ l) ((aZ l).length + 1) st = (match noR (aZ l) m st' with | none => none | some (k, s) => some (k0 + k, s)) /\ (aZ l).length < 2 * m + st' /\ st' <= 8 * l.length /\ k0 <= 3 * st' /\ Fwd w' lo hi l st' /\ aW w w' (fun y => y = hi)) ((aZ l).length + 1)
  ⟨0, st, rfl, by cases noR (aZ l) ((aZ l).length + 1) st with
    | none => rfl
    | some x => simp, by omega, hst, by omega, h, aW.refl _ _⟩ ?_
 rintro m t w1 ⟨k0, st', rfl, hr, hm, hs', hk0, hf, x1⟩
 obtain ⟨m, rfl⟩ : ∃ m', m = m' + 1 := ⟨m - 1, by omega⟩
 unfold A0
 refine (XL (n := 2) hf hlh (by omega) hs' hl).mono ?_
 rw [aC9 (aZ l) m st'] at hr
 rintro r w2 (⟨hsh, rfl, hf2, x2⟩ | ⟨hsh, rfl, hf2, x2⟩)
 .have n1 : ((10 : Int) != 0) = true := rfl
  rw [if_pos (by omega)] at hr
  rw [hr]
  simp (disch := omega) only [aD, pT, pS, aA, cY, n1, aG]
  exact ⟨rfl, x1.seq (x2.mono fun _ _ h => h.elim)⟩
 .have n1 : ((0 : Int) != 0) = false := rfl
  rw [if_neg (by omega)] at hr
  have hlt := GP (aZ l) st' 2
  have hnum : wM (((aZ l).drop st').take 2) = qD (aZ l) st' 2 := rfl
  rw [hnum]
  generalize qD (aZ l) st' 2 = x at *
  have e1 : (k0 : Int) + (x : Int) = ((k0 + x : Nat) : Int) := by omega
  by_cases h3 : x < 3
  .have d1 : decide ((x : Int) < 3) = true := by simp; omega
   rw [if_pos h3] at hr
   rw [hr]
   unfold A7
   simp (disch := omega) only [aD, pT, pS, aA, cY, n1, aE, bY, aP, aS, d1, aG, bK, e1]
   exact ⟨⟨rfl, hf2⟩, x1.seq x2⟩
  .have d1 : decide ((x : Int) < 3) = false := by simp; omega
   rw [if_neg h3] at hr
   simp (disch := omega) only [aD, pT, pS, aA, cY, n1, aE, bY, aP, aS, d1, bK, e1]
   refine ⟨m, by omega, k0 + x, st' + 2, rfl, ?_, by omega, by omega, by omega, hf2, x1.seq x2⟩
   rw [hr]
   cases noR (aZ l) m (st' + 2) with
   | none => rfl
   | some y =>
     obtain ⟨k, s⟩ := y
     have : x = 3 := by omega
     subst this
     simp; omega
def aEc (v : aNF) (o : Option (Nat × Nat)) (r : aNF) : Prop := match o with
 | none => ∃ st' : Nat, r = .tuple #[.agg #[v, .int .i64 st'], .int .i64 0, .int .i64 10]
 | some (x, st) => r = .tuple #[.agg #[v, .int .i64 st], .int .i64 x, .int .i64 0]
theorem aFv {v : aNF} {L : List Bool} {st left : Nat} {w : aNE} (hs : Bl w v L) (hst : st <= L.length) (hl : L.length <= 10000000) (h0 : 0 < left) (h1 : left <= 32768) :
 aT pg MC #[.agg #[v, .int .i64 st], .int .i64 left] w (fun r w' => aEc v (alY L st left) r /\ aW w w' eT) := by
 refine auB ?_
 obtain ⟨m, hm, hm1, hm2, hf1, hf2, hf3⟩ := aAR h0 h1
 obtain ⟨a, c, rfl, hc⟩ := GG hs
 unfold awJ QP
 refine nO fun w1 o1 x1 s1 => ?_
 refine Br fun w2 o2 x2 s2 => ?_
 simp only [Value.cells] at o1
 have o1 := o1.ext x2 (fun h => h)
 have l1 := jL (off := 0) o1 (by simp)
 simp only [aLf, aLe, aLi] at l1
 have x02 : aW w w2 eT := x1.seq x2
 have e1 : (left : Int) + 1 = ((left + 1 : Nat) : Int) := by omega
 have hw1 : w.heap.size <= w.heap.size := aLm _
 have hw2 : w.heap.size <= w1.heap.size := x1.size
 have hne : w.heap.size ≠ w1.heap.size := by omega
 obtain ⟨p1, hp1⟩ : ∃ p1, p1 = w.heap.size := ⟨_, rfl⟩
 obtain ⟨p2, hp2⟩ : ∃ p2, p2 = w1.heap.size := ⟨_, rfl⟩
 rw [<- hp1, <- hp2] at hne
 rw [<- hp1] at o1 l1 ⊢
 rw [<- hp2] at o2 hw2 ⊢
 simp (disch := omega) only [aD, bK, e1, aP, aA]
 refine (aIg (x := left + 1) (by omega) w2).mono ?_
 rintro r w3 ⟨rfl, rfl⟩
 rw [hm]
 have e2 : ((m + 1 : Nat) : Int) - 1 = (m : Int) := by omega
 simp (disch := omega) only [l1, fE, e2, aP, aA]
 unfold alY
 simp only [hm, aL9]
 refine (XM (n := m) (hs.ext x02 (bZ _)) (by omega) hst hl).mono ?_
 have fin : ∀ (st' : Nat) (xv : Int) (ev : Int) (w' : aNE) (RR : aNF -> aNE -> Prop), eM w' p1 [.slice a L.length c, .int .i64 st'] -> eM w' p2 [.slice none 0 0, .int .i64 0] -> aW w w' eT →
     (∀ w'', aW w w'' eT -> RR (.tuple #[.agg #[.slice a L.length c, .int .i64 st'], .int .i64 xv, .int .i64 ev]) w'') →
     aD pg (aL 176 (.pointer (some ⟨p1, 0, none⟩))) w' fun t15 w => aD pg (aR 176 (.pointer (some ⟨p2, 0, none⟩)) t15) w fun _u w => An pg 176 (.pointer (some ⟨p2, 0, none⟩)) w fun r0 => RR (.tuple #[r0, .int .i64 xv, .int .i64 ev]) w := by
  intro st' xv ev w' RR q1 q2 qx qk
  have l1 := jL (off := 0) q1 (by simp)
  simp only [aLf, aLe, aLi] at l1
  simp (disch := omega) only [aD, l1, aA]
  refine eX q2 rfl (by simp [one]) (by simp) fun w6 o6 x6 s6 => ?_
  refine pX o6 (by simp [bM]) ?_
  simp only [bM, aLd, aLc, aLf, aLe, aLi]
  exact qk _ (qx.new x6 hw2)
 have hx1 : w.heap.size <= p1 := by omega
 rintro r w4 ⟨⟨hsh, rfl⟩ | ⟨hsh, rfl⟩, x4⟩
 .have n1 : ((10 : Int) != 0) = true := rfl
  rw [if_pos (by omega)]
  simp (disch := omega) only [YB, Ys, Yu, aA, cY, bY, aP]
  refine eX (o1.ext x4 (fun h => h)) rfl (by simp [one]) (by simp) fun w5 o5 x5 s5 => ?_
  simp only [bM, aLd, aLc] at o5
  simp (disch := omega) only [n1, aG]
  exact fin st 0 10 w5 (fun r w' => aEc (.slice a L.length c) none r /\ aW w w' eT) o5 ((o2.ext x4 (fun h => h)).ext x5 (by omega)) ((x02.seq x4).new x5 hx1) fun w6 x6 => ⟨⟨_, rfl⟩, x6⟩
 .have n1 : ((0 : Int) != 0) = false := rfl
  rw [if_neg (by omega)]
  have hlt := GP L st m
  have hsh1 : m + 1 <= 40 := by omega
  have hp : 2 ^ m <= 2 ^ 16 := aLj (by omega) hm2
  simp (disch := omega) only [YB, Ys, Yu, aA, cY, bY, aP]
  refine eX (o1.ext x4 (fun h => h)) rfl (by simp [one]) (by simp) fun w5 o5 x5 s5 => ?_
  simp only [bM, aLd, aLc] at o5
  have x05 : aW w w5 eT := (x02.seq x4).new x5 hx1
  have o25 := (o2.ext x4 (fun h => h)).ext x5 (by omega)
  simp (disch := omega) only [n1, aE]
  refine (IV m (by omega) _).mono ?_
  rintro r w6 ⟨rfl, rfl⟩
  have hpow : ((2 ^ m : Nat) : Int) = (2 : Int) ^ m := by simp
  rw [<- hpow]
  generalize qD L st m = low at *
  rw [hf3] at *
  generalize hq : 2 ^ m = q at *
  have e3 : 2 * (q : Int) - 2 - (left : Int) = ((2 * q - 2 - left : Nat) : Int) := by omega
  by_cases hfr : low < 2 * q - 2 - left
  .have d1 : decide ((low : Int) < ((2 * q - 2 - left : Nat) : Int)) = true := by simp only [decide_eq_true_eq]; omega
   rw [if_pos hfr]
   have l5 := jL (off := 0) o5 (by simp)
   simp only [aLf, aLe, aLi] at l5
   simp (disch := omega) only [oN, aP, bK, aA, fE, e3, aS, d1, l5, aG]
   refine eX o25 rfl (by simp [one]) (by simp) fun w7 o7 x7 s7 => ?_
   refine pX o7 (by simp [bM]) ?_
   simp only [bM, aLd, aLc, aLf, aLe, aLi]
   exact ⟨rfl, x05.new x7 hw2⟩
  .have d1 : decide ((low : Int) < ((2 * q - 2 - left : Nat) : Int)) = false := by simp only [decide_eq_false_iff_not]; omega
   rw [if_neg hfr]
   have l5 := jL (off := 0) o5 (by simp)
   simp only [aLf, aLe, aLi] at l5
   simp (disch := omega) only [oN, aP, bK, aA, fE, e3, aS, d1, l5, aE]
   refine (XM (n := 1) (hs.ext x05 (bZ _)) (by omega) hsh hl).mono ?_
   rintro r w7 ⟨⟨hs3, rfl⟩ | ⟨hs3, rfl⟩, x7⟩
   .have n1 : ((10 : Int) != 0) = true := rfl
    rw [if_pos (by omega)]
    simp (disch := omega) only [YB, Ys, Yu, aA, cY, dQ]
    refine eX (o5.ext x7 (fun h => h)) rfl (by simp [one]) (by simp) fun w8 o8 x8 s8 => ?_
    simp only [bM, aLd, aLc] at o8
    simp (disch := omega) only [n1, aG]
    exact fin _ 0 10 w8 (fun r w' => aEc (.slice a L.length c) none r /\ aW w w' eT) o8 ((o25.ext x7 (fun h => h)).ext x8 (by omega)) ((x05.seq x7).new x8 hx1) fun w6 x6 => ⟨⟨_, rfl⟩, x6⟩
   .rw [if_neg (by omega)]
    have hb1 := GP L (st + m) 1
    simp (disch := omega) only [YB, Ys, Yu, aA, cY, dQ]
    refine eX (o5.ext x7 (fun h => h)) rfl (by simp [one]) (by simp) fun w8 o8 x8 s8 => ?_
    simp only [bM, aLd, aLc] at o8
    have x08 : aW w w8 eT := (x05.seq x7).new x8 hx1
    have o28 := (o25.ext x7 (fun h => h)).ext x8 (by omega)
    have l8 := jL (off := 0) o8 (by simp)
    simp only [aLf, aLe, aLi] at l8
    by_cases hz : qD L (st + m) 1 = 0
    .have n2 : (((qD L (st + m) 1 : Nat) : Int) == 1) = false := by rw [hz] <;> rfl
     rw [if_pos hz]
     simp (disch := omega) only [n1, l8, aA, n2, aE]
     refine eX o28 rfl (by simp [one]) (by simp) fun w9 o9 x9 s9 => ?_
     refine pX o9 (by simp [bM]) ?_
     simp only [bM, aLd, aLc, aLf, aLe, aLi]
     exact ⟨rfl, x08.new x9 hw2⟩
    .have n2 : (((qD L (st + m) 1 : Nat) : Int) == 1) = true := by rw [show qD L (st + m) 1 = 1 from by omega] <;> rfl
     have e4 : (low : Int) + (q : Int) - ((2 * q - 2 - left : Nat) : Int) = ((low + q - (2 * q - 2 - left) : Nat) : Int) := by omega
     rw [if_neg hz]
     simp (disch := omega) only [n1, l8, aA, n2, e4, aG, aE]
     refine eX o28 rfl (by simp [one]) (by simp) fun w9 o9 x9 s9 => ?_
     refine pX o9 (by simp [bM]) ?_
     simp only [bM, aLd, aLc, aLf, aLe, aLi]
     exact ⟨rfl, x08.new x9 hw2⟩
theorem azQ (L : List Bool) (sym f st left : Nat) (ps : List Int) : rdC L sym (f + 1) st left ps = if left = 0 then .ok (ps, st) else match alY L st left with
 | none => .error 10
 | some (v, st1) =>
   if v = 1 then match noR L (L.length + 1) st1 with
     | none => .error 10
     | some (k, st2) => if sym < ps.length + 1 + k then .error 11 else rdC L sym f st2 left (ps ++ 0 :: List.replicate k 0)
   else if sym < ps.length + 1 then .error 11 else rdC L sym f st1 (left - (iU ((v : Int) - 1)).toNat) (ps ++ [(v : Int) - 1]) := by rw [rdC] <;> rfl
theorem aB1 (k : Nat) : (Builtin.zeroCells (Value.int .i64 0).cells k).toList = List.replicate k (Value.int .i64 0) := by
 apply aMw
 .rw [aMm, uS, aLV]; simp [Value.cells]
 .intro i h1 h2
  simp [Builtin.zeroCells, Value.cells, Nat.mod_one]
theorem aIB {n m base : Nat} {ty : TypeId} {w : aNE} {v : aNF} {l : List aNF} (h : sV w base 1 v n l) (hb : base <= w.heap.size) (hn : (n + m) * 8 <= 140737488355328) {K : aNF -> aNE -> Prop}
 (hk : ∀ v' w', sV w' base 1 v' (n + m) (l ++ List.replicate m (.int .i64 0)) -> aW w w' (fun y => base <= y) -> K v' w') : aD pg (lG .append #[42, 3] ty [v, .int .i64 m]) w K :=
 aCG (i := Tryz.t3) (S := fun y => base <= y) Tryz.underlying42 Tryz.underlying3 Bg rfl rfl rfl h (by decide) (by intro y hy; simp [Value.cells] at hy; subst hy; rfl) (fun b hbb => aMf hb hbb) (by omega) (by rw [show Tryz.t3.bytes = 8 from rfl]; omega) (by rw [show Tryz.t3.bytes = 8 from rfl]; omega)
  (fun v' w' o x => hk v' w' (by rw [<- aB1]; exact o) x)
def agY (w : aNE) (base : Nat) (o : Except Int (Nat × List Int × Nat)) (r : aNF) : Prop := match o with
 | .error e => r = .tuple #[.agg #[.int .i64 0, .slice none 0 0], .int .i64 0, .int .i64 e]
 | .ok (log, ps, used) => ∃ v, r = .tuple #[.agg #[.int .i64 log, v], .int .i64 used, .int .i64 0] /\ sV w base 1 v ps.length (ps.map (Value.int .i64))
theorem Uh {p6 : Nat} {w0 w : aNE} {e : Int} (o6 : eM w p6 [.int .i64 0, .slice none 0 0]) (hx : aW w0 w eT) (hp : w0.heap.size <= p6) {RR : aNF -> aNE -> Prop}
 (hR : ∀ w', aW w0 w' eT -> RR (.tuple #[.agg #[.int .i64 0, .slice none 0 0], .int .i64 0, .int .i64 e]) w') :
 aD pg (aR 100 (.pointer (some ⟨p6, 0, none⟩)) (.agg #[.int .i64 0, .slice none 0 0])) w fun _u w => An pg 100 (.pointer (some ⟨p6, 0, none⟩)) w fun r0 => RR (.tuple #[r0, .int .i64 0, .int .i64 e]) w := by
 refine wS o6 rfl (by simp [one]) (by simp) fun w6 o6 x6 s6 => ?_
 refine Qq o6 (by simp [bM]) ?_
 simp only [bM, aLd, aLc, aLf, aLe, aLi]
 exact hR _ (hx.new x6 hp)
theorem aGs {l : List UInt8} {log lo hi p6 pc sym : Nat} {w0 w : aNE} {res : Except Int (List Int × Nat)} (hlh : lo <= hi) (hlp : w0.heap.size <= p6) (hl : l.length <= 1000000) (h6 : p6 < lo) (hhp : hi < pc) (hsym : sym <= 1000000) (hlog : log <= 15)
 (o6 : eM w p6 [.int .i64 0, .slice none 0 0]) (oc : eM w pc [.int .i64 log, .slice none 0 0]) (hf : Fwd w lo hi l 4) (h4 : 4 <= 8 * l.length) (hx : aW w0 w eT)
 (hres : rdC (aZ l) sym ((aZ l).length + 1) 4 (2 ^ log) [] = res)
 {RR : aNF -> aNE -> Prop} (hE : ∀ e w', res = .error e -> aW w0 w' eT -> RR (.tuple #[.agg #[.int .i64 0, .slice none 0 0], .int .i64 0, .int .i64 e]) w')
 (hO : ∀ ps st v w', res = .ok (ps, st) -> sV w' w0.heap.size 1 v ps.length (ps.map (Value.int .i64)) -> aW w0 w' eT -> RR (.tuple #[.agg #[.int .i64 log, v], .int .i64 (((st + 7) / 8 : Nat)), .int .i64 0]) w') :
 DB RR (.int .i64 sym) (.pointer (some ⟨p6, 0, none⟩)) (.pointer (some ⟨hi, 0, none⟩)) (.pointer (some ⟨pc, 0, none⟩)) (.int .i64 (2 ^ log : Nat)) w := by
 have hbl := lY l
 have hp15 : 2 ^ log <= 2 ^ 15 := aLj (by omega) hlog
 unfold DB OH O3
 have lpc := oc.lt
 refine cS.rule (fun m (t : aNF) w' => ∃ (st left : Nat) (ps : List Int) (v : aNF), t = .int .i64 left /\ rdC (aZ l) sym m st left ps = res /\ (aZ l).length < m + st /\ st <= 8 * l.length /\ left <= 32768 /\ ps.length <= 1000000 /\
  eM w' p6 [.int .i64 0, .slice none 0 0] /\ eM w' pc [.int .i64 log, v] /\ sV w' (pc + 1) 1 v ps.length (ps.map (Value.int .i64)) /\ Fwd w' lo hi l st /\ aW w w' (fun y => y = hi ∨ pc <= y)) ((aZ l).length + 1)
  ⟨4, 2 ^ log, [], _, rfl, hres, by omega, h4, by omega, by simp, o6, oc, sV.nil _ _ _, hf, aW.refl _ _⟩ ?_
 rintro m t w1 ⟨st, left, ps, v, rfl, hr, hm, hst, hleft, hpl, o61, oc1, ov, hf1, x1⟩
 have z1 := x1.size
 have hx0 := hx.size
 have hx1 : ∀ {w' : aNE}, aW w w' (fun y => y = hi ∨ pc <= y) -> aW w0 w' eT := fun h => hx.trans h fun b hb hh => by omega
 obtain ⟨m, rfl⟩ : ∃ m', m = m' + 1 := ⟨m - 1, by omega⟩
 rw [azQ] at hr
 obtain ⟨av, cv, hv⟩ := ov.len
 unfold F3 No
 by_cases h0 : left = 0
 .have d1 : decide ((0 : Int) < (left : Int)) = false := by simp; omega
  rw [if_pos h0] at hr
  subst hv
  have lc := rE (off := 0) (kA oc1) (by simp)
  have lc' := rE (off := 0) oc1 (by simp)
  simp only [aLf, aLe, aLi] at lc lc'
  unfold Fs
  simp (disch := omega) only [aD, dE, d1, jJ, and_true, true_and, aA, lc, aE]
  refine (aFM (hf1.ext (aW.dr w1 eT) (fun _ _ _ h => h) hlh) (by omega)).mono ?_
  rintro r w2 ⟨rfl, rfl⟩
  simp (disch := omega) only [lc, true_and]
  refine wS (kA o61) rfl (by simp [one]) (by simp) fun w6 o6 x6 s6 => ?_
  refine Qq o6 (by simp [bM]) ?_
  simp only [bM, aLd, aLc, aLf, aLe, aLi]
  have x16 : aW w1 w6 (fun y => y = p6) := (aW.dr w1 _).seq x6
  have ov6 := ov.ext x16 (fun b hb h => by omega)
  refine hO ps st _ w6 hr.symm ⟨ov6.1, ?_⟩ ((hx1 x1).new x16 (by omega))
  rcases ov6.2 with h | ⟨b, c, rest, q1, q2, q3⟩
  .exact .inl h
  .exact .inr ⟨b, c, rest, q1, by omega, q3⟩
 .have d1 : decide ((0 : Int) < (left : Int)) = true := by simp; omega
  rw [if_neg h0] at hr
  simp (disch := omega) only [aD, dE, d1, aA, aG]
  unfold NN XF Ni
  refine (aIM hf1 hlh hst hl (by omega) hleft).mono ?_
  rintro r w2 ⟨hv2, x2⟩
  have x12 : aW w w2 (fun y => y = hi ∨ pc <= y) := x1.seq (x2.mono fun y _ h => .inl h)
  have o62 := o61.ext x2 (by omega)
  have oc2 := oc1.ext x2 (by omega)
  have ov2 := ov.ext x2 (fun b hb h => by omega)
  have z2 := x2.size
  cases hval : alY (aZ l) st left with
  | none =>
    rw [hval] at hr hv2
    obtain rfl := hv2
    have n1 : ((10 : Int) != 0) = true := rfl
    simp (disch := omega) only [aD, pT, pS, fY, aA, bL, aLa, dT, cY, n1, aG]
    exact Uh (RR := RR) (e := 10) o62 (hx1 x12) hlp fun w' h => hE _ _ hr.symm h
  | some y =>
    obtain ⟨x, st1⟩ := y
    rw [hval] at hr hv2
    simp only at hr
    obtain ⟨rfl, hf2⟩ := hv2
    obtain ⟨b1, b2, b3⟩ := avS hval (by omega)
    have n1 : ((0 : Int) != 0) = false := rfl
    simp (disch := omega) only [aD, pT, pS, fY, aA, bL, aLa, dT, cY, n1, aE, fE, aP, dQ]
    refine (aBt _ _).mono ?_
    rintro r w3 ⟨rfl, rfl⟩
    have c1 := oc2.cell (off := 1)
    simp only [aK7, aK8] at c1
    have hpp : iU ((x : Int) - 1) <= left := by unfold iU; split <;> omega
    have hpn := sT (p := (x : Int) - 1) (by omega)
    obtain ⟨pq, hpq⟩ : ∃ pq : Nat, iU ((x : Int) - 1) = pq := ⟨(iU ((x : Int) - 1)).toNat, by omega⟩
    rw [hpq] at hr hpp ⊢
    rw [aK9] at hr
    have e1 : (left : Int) - (pq : Int) = ((left - pq : Nat) : Int) := by omega
    simp (disch := omega) only [fE, e1, aP, aA, c1, aH]
    refine XO (cells := #[.int .i64 ((x : Int) - 1)]) (by decide) (by decide) (by kernel_rfl) fun w4 o4 x4 s4 => ?_
    have z4 := x4.size
    refine Te (m := 1) (news := [.int .i64 ((x : Int) - 1)]) (ov2.ext x4 (fun _ _ h => h)) (o4.cl (off := 0) (l := [.int .i64 ((x : Int) - 1)]) (n := 1) rfl (fun i hi => by rw [aLa])) (by simp [one]) (by omega) (by omega) fun v5 w5 o5 x5 => ?_
    have z5 := x5.size
    obtain ⟨av5, cv5, rfl⟩ := o5.len
    have oc5 := (oc2.ext x4 (fun h => h)).ext x5 (by omega)
    refine apS oc5 rfl (by simp) fun w6 oc6 x6 s6 => ?_
    simp only [aLd, aLc] at oc6
    have z6 := x6.size
    have ov6 := o5.ext x6 (fun b hb h => by omega)
    have x26 : aW w3 w6 (fun y => pc <= y) := ((x4.mono fun _ _ h => h.elim).seq (x5.mono fun y _ h => by omega)).seq (x6.mono fun y _ h => by omega)
    have x16 : aW w w6 (fun y => y = hi ∨ pc <= y) := x12.seq (x26.mono fun y _ h => .inr h)
    have o66 := o62.ext x26 (by omega)
    have hf6 := hf2.ext x26 (fun b _ _ => by omega) hlh
    have hsz : pc < w6.heap.size := oc6.lt
    rw [show (ps.map (Value.int .i64) ++ [Value.int .i64 ((x : Int) - 1)]) = (ps ++ [(x : Int) - 1]).map (Value.int .i64) from by simp] at ov6
    have hwl : IntKind.i64.wrap (left : Int) = left := aP (by omega) (by omega)
    have tail : ∀ (ps' : List Int) (st' left' : Nat) (a : Option Addr) (cc : Nat) (w' : aNE), (if sym < ps'.length then .error 11 else rdC (aZ l) sym m st' left' ps') = res -> ps'.length <= 10000000 -> left' <= 32768 -> st < st' -> st' <= 8 * l.length →
        eM w' p6 [.int .i64 0, .slice none 0 0] -> eM w' pc [.int .i64 log, .slice a ps'.length cc] -> sV w' (pc + 1) 1 (.slice a ps'.length cc) ps'.length (ps'.map (Value.int .i64)) -> Fwd w' lo hi l st' -> aW w w' (fun y => y = hi ∨ pc <= y) →
        Bo (fun _ _ _ _ aX w'' => ∃ m', m' < m + 1 /\ ∃ (st left : Nat) (ps : List Int) (v : aNF), aX = .int .i64 left /\ rdC (aZ l) sym m' st left ps = res /\ (aZ l).length < m' + st /\ st <= 8 * l.length /\ left <= 32768 /\ ps.length <= 1000000 /\
         eM w'' p6 [.int .i64 0, .slice none 0 0] /\ eM w'' pc [.int .i64 log, v] /\ sV w'' (pc + 1) 1 v ps.length (ps.map (Value.int .i64)) /\ Fwd w'' lo hi l st /\ aW w w'' (fun y => y = hi ∨ pc <= y)) RR
         (.int .i64 sym) (.pointer (some ⟨p6, 0, none⟩)) (.pointer (some ⟨hi, 0, none⟩)) (.pointer (some ⟨pc, 0, none⟩)) (.int .i64 left') w' := by
     intro ps' st' left' a cc w' q1 q2 q3 q4 q5 q6 q7 q8 q9 q10
     have c1 := q7.cell (off := 1)
     simp only [aK7, aK8] at c1
     unfold Bo
     by_cases hgt : sym < ps'.length
     .have d1 : decide ((sym : Int) < (ps'.length : Int)) = true := by simp; omega
      rw [if_pos hgt] at q1
      simp (disch := omega) only [aD, bL, aLa, fY, aA, dT, c1, aH, gB, dE, d1, jM, bE, if_true, aG, cK]
      exact Uh (RR := RR) (e := 11) q6 (hx1 q10) hlp fun w' h => hE _ _ q1.symm h
     .have d1 : decide ((sym : Int) < (ps'.length : Int)) = false := by simp; omega
      have d2 : decide ((left' : Int) < 0) = false := by simp
      rw [if_neg hgt] at q1
      simp (disch := omega) only [aD, bL, aLa, fY, aA, dT, c1, aH, gB, dE, d1, dI, bE, aLb, if_false, bJ, aS, d2, aE]
      exact ⟨m, by omega, st', left', ps', _, rfl, q1, by omega, q5, q3, by omega, q6, q7, q8, q9, q10⟩
    by_cases h1 : x = 1
    .subst h1
     have n2 : (((1 : Nat) : Int) - 1 == 0) = true := rfl
     obtain rfl : pq = 0 := by
      have : iU (((1 : Nat) : Int) - 1) = 0 := rfl
      omega
     rw [if_pos rfl] at hr
     simp (disch := omega) only [n2, aG]
     refine (aFY hf6 hlh (by omega) hl).mono ?_
     rintro r w7 ⟨hv7, x7⟩
     have x17 : aW w w7 (fun y => y = hi ∨ pc <= y) := x16.seq (x7.mono fun y _ h => .inl h)
     have o67 := o66.ext x7 (by omega)
     have oc7 := oc6.ext x7 (by omega)
     have ov7 := ov6.ext x7 (fun b hb h => by omega)
     have z7 := x7.size
     cases hno : noR (aZ l) ((aZ l).length + 1) st1 with
     | none =>
       rw [hno] at hr hv7
       obtain rfl := hv7
       have n1 : ((10 : Int) != 0) = true := rfl
       simp (disch := omega) only [pT, pS, aA, cY, n1, aG]
       exact Uh (RR := RR) (e := 10) o67 (hx1 x17) hlp fun w' h => hE _ _ hr.symm h
     | some y =>
       obtain ⟨k, st2⟩ := y
       rw [hno] at hr hv7
       simp only at hr
       obtain ⟨rfl, hf7⟩ := hv7
       obtain ⟨k1, k2, k3⟩ := aBQ hno
       have n1 : ((0 : Int) != 0) = false := rfl
       by_cases hgt : sym < k
       .have d1 : decide ((sym : Int) < (k : Int)) = true := by simp; omega
        rw [if_pos (by omega)] at hr
        simp (disch := omega) only [pT, pS, aA, cY, n1, aE, dE, d1, aG]
        exact Uh (RR := RR) (e := 11) o67 (hx1 x17) hlp fun w' h => hE _ _ hr.symm h
       .have d1 : decide ((sym : Int) < (k : Int)) = false := by simp; omega
        have c7 := oc7.cell (off := 1)
        simp only [aK7, aK8] at c7
        simp (disch := omega) only [pT, pS, aA, cY, n1, aE, dE, d1, c7, aH]
        refine aIB (m := k) ov7 (by omega) (by omega) fun v8 w8 o8 x8 => ?_
        obtain ⟨av8, cv8, rfl⟩ := o8.len
        have z8 := x8.size
        refine apS (oc7.ext x8 (by omega)) rfl (by simp) fun w9 oc9 x9 s9 => ?_
        simp only [aLd, aLc] at oc9
        have z9 := x9.size
        have x79 : aW w7 w9 (fun y => pc <= y) := (x8.mono fun y _ h => by omega).seq (x9.mono fun y _ h => by omega)
        have ov9 := o8.ext x9 (fun b hb h => by omega)
        have hlk : ps.length + 1 + k = (ps ++ 0 :: List.replicate k 0).length := by simp; omega
        have hmk : List.map (Value.int .i64) (ps ++ [((1 : Nat) : Int) - 1]) ++ List.replicate k (Value.int .i64 0) = (ps ++ 0 :: List.replicate k 0).map (Value.int .i64) := by simp
        rw [hmk, hlk] at ov9
        rw [hlk] at hr oc9
        refine tail _ st2 left _ _ w9 hr (by rw [<- hlk]; omega) hleft (by omega) (by omega) (o67.ext x79 (by omega)) oc9 ov9 (hf7.ext x79 (fun b _ _ => by omega) hlh) (x17.seq (x79.mono fun y _ h => .inr h))
    .have n2 : ((x : Int) - 1 == 0) = false := beq_eq_false_iff_ne.2 (by omega)
     rw [if_neg h1] at hr
     simp (disch := omega) only [n2, aE]
     rw [show ps.length + 1 = (ps ++ [(x : Int) - 1]).length from by simp] at hr ov6 oc6
     exact tail _ st1 _ _ _ w6 hr (by simp; omega) (by omega) b1 (by omega) o66 oc6 ov6 hf6 x16
theorem aDT {bv : aNF} {l : List UInt8} {most : Int} {sym : Nat} {w : aNE} (hb : Bs w bv l) (hl : l.length <= 1000000) (hsym : sym <= 1000000) :
 aT pg ID #[bv, .int .i64 most, .int .i64 sym] w (fun r w' => agY w' w.heap.size (CG (aZ l) most sym) r /\ aW w w' eT) := by
 refine aoH ?_
 obtain ⟨RR, hRR⟩ : ∃ RR : aNF -> aNE -> Prop, RR = fun r w' => agY w' w.heap.size (CG (aZ l) most sym) r /\ aW w w' eT := ⟨_, rfl⟩
 rw [<- hRR]
 have hbl := lY l
 unfold asG Ld Kk
 refine BX fun w1 o1 x1 s1 => ?_
 refine (aBU (hb.ext x1 (bZ _)) (by omega)).mono ?_
 rintro r w2 ⟨hi, rfl, hi1, hi2, hf2, x2⟩
 have z1 := x1.size
 have z2 := x2.size
 simp (disch := omega) only [aD, fY, aA]
 refine (XL (n := 4) hf2 hi1 (by omega) (by omega) hl).mono ?_
 rintro r w3 (⟨hsh, rfl, hf3, x3⟩ | ⟨hsh, rfl, hf3, x3⟩)
 .have n1 : ((10 : Int) != 0) = true := rfl
  have hrl : CG (aZ l) most sym = .error 10 := by unfold CG; rw [if_pos (by omega)]
  rw [hrl] at hRR
  simp (disch := omega) only [pT, pS, aA, cY, n1, aG]
  exact Uh (RR := RR) (e := 10) ((o1.ext x2 (fun h => h)).ext x3 (fun h => h)) ((x1.seq x2).seq x3) (aLm _) fun w' h => by rw [hRR]; exact ⟨rfl, h⟩
 .have n1 : ((0 : Int) != 0) = false := rfl
  have hnum : wM (((aZ l).drop 0).take 4) = qD (aZ l) 0 4 := rfl
  have hlt := GP (aZ l) 0 4
  have hrl : CG (aZ l) most sym = (if most < ((qD (aZ l) 0 4 + 5 : Nat) : Int) ∨ 15 < qD (aZ l) 0 4 + 5 then .error 12 else match rdC (aZ l) sym ((aZ l).length + 1) 4 (2 ^ (qD (aZ l) 0 4 + 5)) [] with
   | .error e => .error e
   | .ok (ps, st) => .ok (qD (aZ l) 0 4 + 5, ps, (st + 7) / 8)) := by unfold CG; rw [if_neg (by omega)] <;> rfl
  rw [hrl] at hRR
  rw [hnum]
  generalize qD (aZ l) 0 4 = x at *
  have e1 : (x : Int) + 5 = ((x + 5 : Nat) : Int) := by omega
  have x03 : aW w w3 eT := (x1.seq x2).trans x3 fun b hb h => by omega
  have o13 := (o1.ext x2 (fun h => h)).ext x3 (by omega)
  simp (disch := omega) only [pT, pS, aA, cY, n1, aE, bY, aP, bK, e1, iI]
  refine BX fun w4 o4 x4 s4 => ?_
  refine wS o4 rfl (by simp [one]) (by simp) fun w5 o5 x5 s5 => ?_
  simp only [bM, aLd, aLc] at o5
  have z3 := x3.size
  have z4 := x4.size
  have x05 : aW w w5 eT := (x03.seq x4).new x5 (by omega)
  have x35 : aW w3 w5 eT := x4.new x5 (by omega)
  have o15 := o13.ext x35 (fun h => h)
  have c5 := o5.cell (off := 0)
  simp only [aK7, aK8] at c5
  by_cases hmo : most < ((x + 5 : Nat) : Int)
  .have d1 : decide (most < ((x + 5 : Nat) : Int)) = true := by simpa using hmo
   rw [if_pos (.inl hmo)] at hRR
   simp (disch := omega) only [bW, aA, bO, c5, aH, dE, d1, jM, bE, if_true, aG, cK]
   exact Uh (RR := RR) (e := 12) o15 x05 (aLm _) fun w' h => by rw [hRR]; exact ⟨rfl, h⟩
  have d1 : decide (most < ((x + 5 : Nat) : Int)) = false := by simpa using hmo
  by_cases h15 : 15 < x + 5
  .have d2 : decide ((15 : Int) < ((x + 5 : Nat) : Int)) = true := by simp; omega
   rw [if_pos (.inr h15)] at hRR
   simp (disch := omega) only [bW, aA, bO, c5, aH, dE, d1, dI, bE, aLb, if_false, bJ, d2, pE, aK9, aG]
   exact Uh (RR := RR) (e := 12) o15 x05 (aLm _) fun w' h => by rw [hRR]; exact ⟨rfl, h⟩
  have d2 : decide ((15 : Int) < ((x + 5 : Nat) : Int)) = false := by simp; omega
  rw [if_neg (by omega)] at hRR
  have hsh := aFx (n := x + 5) (by omega)
  simp (disch := omega) only [bW, aA, bO, c5, aH, dE, d1, dI, bE, aLb, if_false, bJ, d2, pE, aK9, hsh, aE]
  have hl5 := o5.lt
  refine aGs (l := l) (w0 := w) (log := x + 5) (res := rdC (aZ l) sym ((aZ l).length + 1) 4 (2 ^ (x + 5)) []) (lo := w1.heap.size) hi1 (aLm _) hl (by omega) (by omega) hsym (by omega) o15 o5 (hf3.ext x35 (fun _ _ _ h => h) hi1) (by omega) x05 rfl ?_ ?_
  .intro e w' he hx
   rw [hRR, he]
   exact ⟨rfl, hx⟩
  .intro ps st v w' he ho hx
   rw [hRR, he]
   exact ⟨⟨v, rfl, ho⟩, hx⟩
def Q5 (L : List Bool) (v st1 : Nat) : Option (Nat × Nat) := if v = 1 then noR L (L.length + 1) st1 else some (0, st1)
theorem aIv {L : List Bool} {sym f st left : Nat} {ps : List Int} (h0 : left ≠ 0) : rdC L sym (f + 1) st left ps = match alY L st left with
 | none => .error 10
 | some (v, st1) => match Q5 L v st1 with
   | none => .error 10
   | some (k, st2) => if sym < ps.length + 1 + k then .error 11 else rdC L sym f st2 (left - (iU ((v : Int) - 1)).toNat) (ps ++ ((v : Int) - 1) :: List.replicate k 0) := by
 rw [azQ, if_neg h0]
 cases alY L st left with
 | none => rfl
 | some x =>
   obtain ⟨v, st1⟩ := x
   simp only
   unfold Q5
   by_cases h : v = 1
   .subst h
    rw [if_pos rfl, if_pos rfl]
    have : iU (((1 : Nat) : Int) - 1) = 0 := rfl
    rw [this] <;> rfl
   .rw [if_neg h, if_neg h]
    rfl
theorem aqA {p6 : Nat} {w0 w : aNE} {e : Int} (o6 : eM w p6 [.int .i64 0, .slice none 0 0]) (hx : aW w0 w eT) (hp : w0.heap.size <= p6) {RR : aNF -> aNE -> Prop}
 (hR : ∀ w', aW w0 w' eT -> RR (.tuple #[.agg #[.int .i64 0, .slice none 0 0], .int .i64 0, .int .i64 e]) w') :
 aD pg (aR 128 (.pointer (some ⟨p6, 0, none⟩)) (.agg #[.int .i64 0, .slice none 0 0])) w fun _u w => An pg 128 (.pointer (some ⟨p6, 0, none⟩)) w fun r0 => RR (.tuple #[r0, .int .i64 0, .int .i64 e]) w := by
 refine sG o6 rfl (by simp [one]) (by simp) fun w6 o6 x6 s6 => ?_
 refine Hn o6 (by simp [bM]) ?_
 simp only [bM, aLd, aLc, aLf, aLe, aLi]
 exact hR _ (hx.new x6 hp)
structure RdS (w : aNE) (p6 pf pc log st : Nat) (bv : aNF) (L : List Bool) (ps : List Int) (v : aNF) : Prop where
 o6 : eM w p6 [.int .i64 0, .slice none 0 0]
 of : eM w pf [bv, .int .i64 st]
 oc : eM w pc [.int .i64 log, v]
 os : sV w (pc + 1) 1 v ps.length (ps.map (Value.int .i64))
 bl : Bl w bv L
 at' : AtI bv 0 pf
 h6 : p6 < pf
 hf : pf < pc
theorem RdS.ext {w w' : aNE} {p6 pf pc log st : Nat} {bv : aNF} {L : List Bool} {ps : List Int} {v : aNF} (h : RdS w p6 pf pc log st bv L ps v) (hx : aW w w' eT) : RdS w' p6 pf pc log st bv L ps v :=
 ⟨h.o6.ext hx (fun h => h), h.of.ext hx (fun h => h), h.oc.ext hx (fun h => h), h.os.ext hx (fun _ _ h => h), h.bl.ext hx (bZ _), h.at', h.h6, h.hf⟩
theorem RdS.setF {w w' : aNE} {p6 pf pc log st st' : Nat} {bv : aNF} {L : List Bool} {ps : List Int} {v : aNF} (h : RdS w p6 pf pc log st bv L ps v) (hx : aW w w' (fun y => y = pf)) (o : eM w' pf [bv, .int .i64 st']) : RdS w' p6 pf pc log st' bv L ps v := by
 have h6 := h.h6
 have hf := h.hf
 exact ⟨h.o6.ext hx (by omega), o, h.oc.ext hx (by omega), h.os.ext hx (fun _ _ h => by omega), h.bl.ext hx (h.at' _ fun b _ hb => by omega), h.at', h.h6, h.hf⟩
theorem aHG {w : aNE} {p6 pf pc log st : Nat} {bv : aNF} {L : List Bool} {ps : List Int} {v : aNF} (h : RdS w p6 pf pc log st bv L ps v) (p : Int) (hl : ps.length <= 100000000) {K : aNE -> Prop}
 (hK : ∀ w' v', RdS w' p6 pf pc log st bv L (ps ++ [p]) v' -> aW w w' (fun y => pc <= y) -> K w') :
 aD pg (cV 42 1 [(0, .int .i64 p)]) w fun t64 w => aD pg (lG .append #[42, 42] 42 [v, t64]) w fun t65 w => aD pg (aK 128 (.pointer (some ⟨pc, 0, none⟩)) 1) w fun t66 w => aD pg (aR 42 t66 t65) w fun _ w => K w := by
 have lpc := h.oc.lt
 have h6 := h.h6
 have hf := h.hf
 refine XO (cells := #[.int .i64 p]) (by decide) (by decide) (by kernel_rfl) fun w4 o4 x4 s4 => ?_
 have z4 := x4.size
 refine Te (m := 1) (news := [.int .i64 p]) (h.os.ext x4 (fun _ _ h => h)) (o4.cl (off := 0) (l := [.int .i64 p]) (n := 1) rfl (fun i hi => by rw [aLa])) (by simp [one]) (by omega) (by omega) fun v5 w5 o5 x5 => ?_
 have z5 := x5.size
 obtain ⟨av5, cv5, rfl⟩ := o5.len
 have oc5 := (h.oc.ext x4 (fun h => h)).ext x5 (by omega)
 simp (disch := omega) only [aD, aN, aLa, aA]
 refine apS oc5 rfl (by simp) fun w6 oc6 x6 s6 => ?_
 simp only [aLd, aLc] at oc6
 have ov6 := o5.ext x6 (fun b hb h => by omega)
 have x26 : aW w w6 (fun y => pc <= y) := ((x4.mono fun _ _ h => h.elim).seq (x5.mono fun y _ h => by omega)).seq (x6.mono fun y _ h => by omega)
 rw [show (ps.map (Value.int .i64) ++ [Value.int .i64 p]) = (ps ++ [p]).map (Value.int .i64) from by simp, show ps.length + 1 = (ps ++ [p]).length from by simp] at ov6
 rw [show ps.length + 1 = (ps ++ [p]).length from by simp] at oc6
 exact hK w6 _ ⟨h.o6.ext x26 (by omega), h.of.ext x26 (by omega), oc6, ov6, h.bl.ext x26 (h.at' _ fun b _ hb => by omega), h.at', h6, hf⟩ x26
theorem aFV {w : aNE} {p6 pf pc log st sym left : Nat} {bv : aNF} {L : List Bool} {ps : List Int} {v : aNF} (h : RdS w p6 pf pc log st bv L ps v) {x : Nat} (hx3 : x <= 3) (hl : ps.length <= 90000000) {kn : aNF -> aNF -> aNF -> aNF -> aNF -> aNF -> aNE -> Prop}
 (hK : ∀ w' v', RdS w' p6 pf pc log st bv L (ps ++ List.replicate x 0) v' -> aW w w' (fun y => pc <= y) -> kn (.int .i64 sym) (.pointer (some ⟨p6, 0, none⟩)) (.pointer (some ⟨pf, 0, none⟩)) (.pointer (some ⟨pc, 0, none⟩)) (.int .i64 left) (.bool (((x : Nat) : Int) == 3)) w') :
 IY kn (.int .i64 sym) (.pointer (some ⟨p6, 0, none⟩)) (.pointer (some ⟨pf, 0, none⟩)) (.int .u64 x) (.pointer (some ⟨pc, 0, none⟩)) (.int .i64 left) w := by
 unfold IY Ry QR QG Q2
 refine cS.rule (fun m (t : aNF) w' => ∃ (i : Nat) (v' : aNF), m = x - i /\ t = .int .i64 i /\ i <= x /\ RdS w' p6 pf pc log st bv L (ps ++ List.replicate i 0) v' /\ aW w w' (fun y => pc <= y)) x
  ⟨0, v, rfl, rfl, by omega, by simpa using h, aW.refl _ _⟩ ?_
 rintro m t w1 ⟨i, v', rfl, rfl, hi, h1, x1⟩
 unfold IF
 by_cases hlt : i < x
 .have d1 : decide ((i : Int) < (x : Int)) = true := by simp; omega
  have c1 := h1.oc.cell (off := 1)
  simp only [aK7, aK8] at c1
  simp (disch := omega) only [aD, bY, aP, aN, aLa, bK, aA, dT, aS, d1, c1, aH, aG]
  refine aHG h1 0 (by simp; omega) fun w2 v2 h2 x2 => ?_
  refine ⟨x - (i + 1), by omega, i + 1, v2, rfl, rfl, by omega, ?_, x1.seq x2⟩
  rw [aLF, <- aM3] at h2
  exact h2
 .have d1 : decide ((i : Int) < (x : Int)) = false := by simp; omega
  obtain rfl : i = x := by omega
  unfold IZ
  simp (disch := omega) only [aD, bY, aP, aN, aLa, bK, aA, dT, dQ, aS, d1, aE]
  exact hK _ _ h1 x1
theorem aCT {w0 w : aNE} {p6 pf pc log st sym left x : Nat} {bv : aNF} {L : List Bool} {ps : List Int} {v : aNF} (h : RdS w p6 pf pc log st bv L ps v) (hl : ps.length <= 1000001) (hL : L.length <= 8000000) (hst : st <= L.length) (hx : aW w0 w eT) (hp : w0.heap.size <= p6) (hsym : sym <= 1000000)
 {kn : aNF -> aNF -> aNF -> aNF -> aNF -> aNE -> Prop} {RR : aNF -> aNE -> Prop}
 (hE : ∀ w', Q5 L x st = none -> aW w0 w' eT -> RR (.tuple #[.agg #[.int .i64 0, .slice none 0 0], .int .i64 0, .int .i64 10]) w')
 (hB : ∀ k st2 w', Q5 L x st = some (k, st2) -> sym < ps.length + k -> aW w0 w' eT -> RR (.tuple #[.agg #[.int .i64 0, .slice none 0 0], .int .i64 0, .int .i64 11]) w')
 (hK : ∀ k st2 w' v', Q5 L x st = some (k, st2) -> ¬ sym < ps.length + k -> RdS w' p6 pf pc log st2 bv L (ps ++ List.replicate k 0) v' -> aW w0 w' eT -> kn (.int .i64 sym) (.pointer (some ⟨p6, 0, none⟩)) (.pointer (some ⟨pf, 0, none⟩)) (.pointer (some ⟨pc, 0, none⟩)) (.int .i64 left) w') :
 BG kn RR (.int .i64 sym) (.pointer (some ⟨p6, 0, none⟩)) (.pointer (some ⟨pf, 0, none⟩)) (.pointer (some ⟨pc, 0, none⟩)) (.int .i64 left) (.int .i64 x) w := by
 have h6 := h.h6
 have hf := h.hf
 unfold BG MP
 simp (disch := omega) only [aD, dQ, aA]
 unfold Ps Pq Nq
 refine cS.rule (fun m (t : aNF) w' => ∃ (k0 st' : Nat) (bt : Bool) (v' : aNF), t = .bool bt /\ RdS w' p6 pf pc log st' bv L (ps ++ List.replicate k0 0) v' /\ aW w0 w' eT /\ st' <= L.length /\ k0 <= 3 * st' /\
  (bt = true -> Q5 L x st = (match noR L m st' with | none => none | some (k, s) => some (k0 + k, s)) /\ L.length < 2 * m + st') /\ (bt = false -> Q5 L x st = some (k0, st'))) (L.length + 1)
  ⟨0, st, _, v, rfl, by simpa using h, hx, hst, by omega, ?_, ?_⟩ ?_
 .intro hb
  have hx1 : x = 1 := by simp at hb; omega
  subst hx1
  refine ⟨?_, by omega⟩
  unfold Q5
  rw [if_pos rfl]
  cases noR L (L.length + 1) st with
  | none => rfl
  | some y => simp
 .intro hb
  have hx1 : x ≠ 1 := by
   intro h; subst h; simp at hb
  unfold Q5
  rw [if_neg hx1]
 rintro m t w1 ⟨k0, st', bt, v', rfl, h1, x1, hst', hk0, ht, hfa⟩
 unfold FZ OK
 cases bt with
 | false =>
   have hb := hfa rfl
   obtain ⟨av, cv, hv⟩ := h1.os.len
   have c1 := h1.oc.cell (off := 1)
   subst hv
   simp only [aK7, aK8, aLh, aLV] at c1
   have hlen : ((ps ++ List.replicate k0 0).length : Int) = ((ps.length + k0 : Nat) : Int) := by simp
   unfold IH
   by_cases hgt : sym < ps.length + k0
   .have d1 : decide ((sym : Int) < ((ps.length + k0 : Nat) : Int)) = true := by simp only [decide_eq_true_eq]; omega
    simp (disch := omega) only [aD, aN, aLa, dK, aA, dT, c1, aH, gB, dE, d1, jM, bE, if_true, aG, cK, aE]
    exact aqA (RR := RR) (e := 11) h1.o6 x1 hp fun w' h => hB _ _ _ hb hgt h
   .have d1 : decide ((sym : Int) < ((ps.length + k0 : Nat) : Int)) = false := by simp only [decide_eq_false_iff_not]; omega
    have d2 : decide ((left : Int) < 0) = false := by simp
    simp (disch := omega) only [aD, aN, aLa, dK, aA, dT, c1, aH, gB, dE, d1, dI, bE, aLb, if_false, bJ, aS, d2, aE]
    exact hK _ _ _ _ hb hgt h1 x1
 | true =>
   obtain ⟨hb, hm⟩ := ht rfl
   obtain ⟨m, rfl⟩ : ∃ m', m = m' + 1 := ⟨m - 1, by omega⟩
   rw [aC9] at hb
   have lf := jL (off := 0) h1.of (by simp)
   simp only [aLf, aLe, aLi] at lf
   unfold PN Xc Nh
   simp (disch := omega) only [aD, lf, dK, aA, aG]
   refine (XM (n := 2) h1.bl (by omega) hst' (by omega)).mono ?_
   rintro r w2 ⟨⟨hsh, rfl⟩ | ⟨hsh, rfl⟩, x2⟩
   .have n1 : ((10 : Int) != 0) = true := rfl
    rw [if_pos (by omega)] at hb
    obtain ⟨bn, bc, hbv, _⟩ := GG h1.bl
    simp (disch := omega) only [YB, Ys, Yu, aA, cY]
    refine eX (h1.ext x2).of rfl (by subst hbv; simp [one]) (by simp) fun w3 o3 x3 s3 => ?_
    simp (disch := omega) only [n1, aG]
    exact aqA (RR := RR) (e := 10) ((h1.ext x2).o6.ext x3 (by omega)) ((x1.seq x2).new x3 (by omega)) hp fun w' h => hE _ hb h
   .have n1 : ((0 : Int) != 0) = false := rfl
    rw [if_neg (by omega)] at hb
    obtain ⟨bn, bc, hbv, _⟩ := GG h1.bl
    have hlt := GP L st' 2
    simp (disch := omega) only [YB, Ys, Yu, aA, cY]
    refine eX (h1.ext x2).of rfl (by subst hbv; simp [one]) (by simp) fun w3 o3 x3 s3 => ?_
    simp only [bM, aLd, aLc] at o3
    have h3 := (h1.ext x2).setF x3 o3
    have x03 : aW w0 w3 eT := (x1.seq x2).new x3 (by omega)
    have z03 := x03.size
    simp (disch := omega) only [n1, aE]
    refine aFV h3 (by omega) (by simp; omega) fun w4 v4 h4 x4 => ?_
    have hpc := h3.hf
    have x04 : aW w0 w4 eT := x03.trans x4 fun b hb h => by omega
    rw [aLF, List.replicate_append_replicate] at h4
    refine ⟨m, by omega, k0 + qD L st' 2, st' + 2, _, v4, rfl, h4, x04, hsh, by omega, ?_, ?_⟩
    .intro hq
     have h3' : qD L st' 2 = 3 := by simp at hq; omega
     rw [if_neg (by omega)] at hb
     refine ⟨?_, by omega⟩
     rw [hb, h3']
     cases noR L m (st' + 2) with
     | none => rfl
     | some y =>
       obtain ⟨k, s⟩ := y
       simp; omega
    .intro hq
     have h3' : qD L st' 2 ≠ 3 := by
      intro h; rw [h] at hq; simp at hq
     rw [if_pos (by omega)] at hb
     exact hb
theorem aBO {log p6 pf pc sym : Nat} {w0 w : aNE} {bv v : aNF} {L : List Bool} {res : Except Int (List Int × Nat)} (hlp : w0.heap.size <= p6) (hl : L.length <= 8000000) (hsym : sym <= 1000000) (hlog : log <= 15)
 (h : RdS w p6 pf pc log 4 bv L [] v) (h4 : 4 <= L.length) (hx : aW w0 w eT)
 (hres : rdC L sym (L.length + 1) 4 (2 ^ log) [] = res)
 {RR : aNF -> aNE -> Prop} (hE : ∀ e w', res = .error e -> aW w0 w' eT -> RR (.tuple #[.agg #[.int .i64 0, .slice none 0 0], .int .i64 0, .int .i64 e]) w')
 (hO : ∀ ps st v w', res = .ok (ps, st) -> sV w' w0.heap.size 1 v ps.length (ps.map (Value.int .i64)) -> aW w0 w' eT -> RR (.tuple #[.agg #[.int .i64 log, v], .int .i64 (((st + 7) / 8 : Nat)), .int .i64 0]) w') :
 EU RR (.int .i64 sym) (.pointer (some ⟨p6, 0, none⟩)) (.pointer (some ⟨pf, 0, none⟩)) (.pointer (some ⟨pc, 0, none⟩)) (.int .i64 (2 ^ log : Nat)) w := by
 have hp15 : 2 ^ log <= 2 ^ 15 := aLj (by omega) hlog
 have h6 := h.h6
 have hf := h.hf
 unfold EU MT NU
 refine cS.rule (fun m (t : aNF) w' => ∃ (st left : Nat) (ps : List Int) (v : aNF), t = .int .i64 left /\ rdC L sym m st left ps = res /\ L.length < m + st /\ st <= L.length /\ left <= 32768 /\ ps.length <= 1000000 /\
  RdS w' p6 pf pc log st bv L ps v /\ aW w0 w' eT) (L.length + 1)
  ⟨4, 2 ^ log, [], v, rfl, hres, by omega, h4, by omega, by simp, h, hx⟩ ?_
 rintro m t w1 ⟨st, left, ps, v, rfl, hr, hm, hst, hleft, hpl, h1, x1⟩
 have hx0 := x1.size
 obtain ⟨m, rfl⟩ : ∃ m', m = m' + 1 := ⟨m - 1, by omega⟩
 obtain ⟨bn, bc, hbv, _⟩ := GG h1.bl
 unfold Gc M6
 by_cases h0 : left = 0
 .have d1 : decide ((0 : Int) < (left : Int)) = false := by simp; omega
  rw [azQ, if_pos h0] at hr
  obtain ⟨av, cv, hv⟩ := h1.os.len
  subst hv hbv
  have lc := pW (off := 0) (kA h1.oc) (by simp)
  have lc' := pW (off := 0) h1.oc (by simp)
  have lf := jL (off := 0) (kA h1.of) (by simp)
  have lf' := jL (off := 0) h1.of (by simp)
  simp only [aLf, aLe, aLi] at lc lc' lf lf'
  unfold IW
  simp (disch := omega) only [aD, dE, d1, jJ, and_true, true_and, aA, lc, lf, aE]
  refine (aFF (by omega)).mono ?_
  rintro r w2 ⟨rfl, x2⟩
  have x12 : aW w1 w2 eT := (aW.dr w1 eT).seq x2
  have h2 := h1.ext x12
  have lc2 := pW (off := 0) h2.oc (by simp)
  simp only [aLf, aLe, aLi] at lc2
  simp (disch := omega) only [lc2, true_and]
  refine sG h2.o6 rfl (by simp [one]) (by simp) fun w6 o6 x6 s6 => ?_
  refine Hn o6 (by simp [bM]) ?_
  simp only [bM, aLd, aLc, aLf, aLe, aLi]
  have ov6 := h2.os.ext x6 (fun b hb h => by omega)
  refine hO ps st _ w6 hr.symm ⟨ov6.1, ?_⟩ ((x1.seq x12).new x6 (by omega))
  rcases ov6.2 with h | ⟨b, c, rest, q1, q2, q3⟩
  .exact .inl h
  .exact .inr ⟨b, c, rest, q1, by omega, q3⟩
 .have d1 : decide ((0 : Int) < (left : Int)) = true := by simp; omega
  rw [aIv h0] at hr
  have lf := jL (off := 0) h1.of (by simp)
  simp only [aLf, aLe, aLi] at lf
  unfold Nb WO O0
  simp (disch := omega) only [aD, dE, d1, dK, aA, aN, aLa, fE, aP, dT, lf, aG]
  refine (aFv h1.bl hst (by omega) (by omega) hleft).mono ?_
  rintro r w2 ⟨hv2, x2⟩
  have h2 := h1.ext x2
  cases hval : alY L st left with
  | none =>
    rw [hval] at hr hv2
    obtain ⟨st', rfl⟩ := hv2
    have n1 : ((10 : Int) != 0) = true := rfl
    simp (disch := omega) only [YB, Ys, Yu, aA, cY, fE, aP, dQ]
    refine eX h2.of rfl (by subst hbv; simp [one]) (by simp) fun w3 o3 x3 s3 => ?_
    simp (disch := omega) only [n1, aG]
    exact aqA (RR := RR) (e := 10) (h2.o6.ext x3 (by omega)) ((x1.seq x2).new x3 (by omega)) hlp fun w' h => hE _ _ hr.symm h
  | some y =>
    obtain ⟨x, st1⟩ := y
    rw [hval] at hr hv2
    simp only at hr
    obtain rfl := hv2
    obtain ⟨b1, b2, b3⟩ := avS hval (by omega)
    have n1 : ((0 : Int) != 0) = false := rfl
    simp (disch := omega) only [YB, Ys, Yu, aA, cY, fE, aP, dQ]
    refine eX h2.of rfl (by subst hbv; simp [one]) (by simp) fun w3 o3 x3 s3 => ?_
    simp only [bM, aLd, aLc] at o3
    have h3 := h2.setF x3 o3
    have x03 : aW w0 w3 eT := (x1.seq x2).new x3 (by omega)
    have c3 := h3.oc.cell (off := 1)
    simp only [aK7, aK8] at c3
    simp (disch := omega) only [n1, c3, aH, aA, aE]
    refine aHG h3 ((x : Int) - 1) (by omega) fun w4 v4 h4 x4 => ?_
    have z03 := x03.size
    have hpc := h3.hf
    have x04 : aW w0 w4 eT := x03.trans x4 fun b hb h => by omega
    have hpn := sT (p := (x : Int) - 1) (by omega)
    have hfin : ∀ (left' : Nat), left' = left - (iU ((x : Int) - 1)).toNat -> BG (fun _ _ _ _ aX w'' => ∃ m', m' < m + 1 /\ ∃ (st left : Nat) (ps : List Int) (v : aNF), aX = .int .i64 left /\ rdC L sym m' st left ps = res /\ L.length < m' + st /\ st <= L.length /\ left <= 32768 /\ ps.length <= 1000000 /\
        RdS w'' p6 pf pc log st bv L ps v /\ aW w0 w'' eT) RR (.int .i64 sym) (.pointer (some ⟨p6, 0, none⟩)) (.pointer (some ⟨pf, 0, none⟩)) (.pointer (some ⟨pc, 0, none⟩)) (.int .i64 left') (.int .i64 x) w4 := by
     intro left' hl'
     have hlen1 : (ps ++ [(x : Int) - 1]).length = ps.length + 1 := by simp
     refine aCT (left := left') h4 (by omega) hl b2 x04 hlp hsym ?_ ?_ ?_
     .intro w' hbe hx
      rw [hbe] at hr
      exact hE _ _ hr.symm hx
     .intro k st2 w' hbe hgt hx
      rw [hbe] at hr
      simp only at hr
      rw [if_pos (by omega)] at hr
      exact hE _ _ hr.symm hx
     .intro k st2 w' v' hbe hgt h5 hx
      rw [hbe] at hr
      simp only at hr
      rw [if_neg (by omega), <- hl'] at hr
      have hb2 : st1 <= st2 /\ st2 <= L.length := by
       unfold Q5 at hbe
       split at hbe
       .obtain ⟨q1, q2, _⟩ := aBQ hbe; omega
       .obtain ⟨rfl, rfl⟩ := aMV (aLA hbe); omega
      rw [aLF, List.singleton_append] at h5
      exact ⟨m, by omega, st2, left', _, v', rfl, hr, by omega, hb2.2, by omega, by simp; omega, h5, hx⟩
    by_cases hx0 : x = 0
    .subst hx0
     have n2 : (((0 : Nat) : Int) == 0) = true := rfl
     have e1 : (left : Int) - 1 = ((left - 1 : Nat) : Int) := by omega
     simp (disch := omega) only [n2, e1, aG]
     exact hfin _ rfl
    .have n2 : ((x : Int) == 0) = false := beq_eq_false_iff_ne.2 (by omega)
     have e0 : (x : Int) - 1 = ((x - 1 : Nat) : Int) := by omega
     have e1 : (left : Int) - ((x : Int) - 1) = ((left - (x - 1) : Nat) : Int) := by omega
     simp (disch := omega) only [n2, e1, aE]
     refine hfin _ ?_
     unfold iU
     rw [if_neg (by omega), e0, aK9]
theorem aEJ {s : ByteArray} {most : Int} {sym : Nat} {w : aNE} (hl : s.size <= 1000000) (hsym : sym <= 1000000) :
 aT pg Mf #[.string s, .int .i64 most, .int .i64 sym] w (fun r w' => agY w' w.heap.size (CG (aZ (fZ s)) most sym) r /\ aW w w' eT) := by
 refine atP ?_
 obtain ⟨RR, hRR⟩ : ∃ RR : aNF -> aNE -> Prop, RR = fun r w' => agY w' w.heap.size (CG (aZ (fZ s)) most sym) r /\ aW w w' eT := ⟨_, rfl⟩
 rw [<- hRR]
 have hll := gM s
 have hbl := lY (fZ s)
 unfold awH Pp MX
 refine wW fun w1 o1 x1 s1 => ?_
 refine (awC hl).mono ?_
 rintro r w2 ⟨ob2, x2⟩
 have hbl2 : Bl w2 r (aZ (fZ s)) := ob2.sl
 have hat := sV.atI ob2
 obtain ⟨bn, bc, rfl, _⟩ := GG hbl2
 have z1 := x1.size
 have z2 := x2.size
 simp (disch := omega) only [aD, fC, dK, aA]
 refine Br fun w3 o3 x3 s3 => ?_
 refine eX o3 rfl (by simp [one]) (by simp) fun w4 o4 x4 s4 => ?_
 simp only [bM, aLd, aLc] at o4
 have z3 := x3.size
 have z4 := x4.size
 have x24 : aW w2 w4 eT := x3.new x4 (by omega)
 have lf := jL (off := 0) o4 (by simp)
 simp only [aLf, aLe, aLi] at lf
 have hbl4 := hbl2.ext x24 (bZ _)
 have e0 : (0 : Int) = ((0 : Nat) : Int) := rfl
 rw [e0] at lf
 simp (disch := omega) only [lf, aA]
 refine (XM (st := 0) (n := 4) hbl4 (by omega) (by omega) (by omega)).mono ?_
 rintro r w5 ⟨⟨hsh, rfl⟩ | ⟨hsh, rfl⟩, x5⟩
 .have n1 : ((10 : Int) != 0) = true := rfl
  have hrl : CG (aZ (fZ s)) most sym = .error 10 := by unfold CG; rw [if_pos (by omega)]
  rw [hrl] at hRR
  simp (disch := omega) only [YB, Ys, Yu, aA, cY, bY, aP, bK, eH]
  refine eX (o4.ext x5 (fun h => h)) rfl (by simp [one]) (by simp) fun w6 o6 x6 s6 => ?_
  simp (disch := omega) only [n1, aG]
  exact aqA (RR := RR) (e := 10) ((((o1.ext x2 (fun h => h)).ext x24 (fun h => h)).ext x5 (fun h => h)).ext x6 (by omega)) ((((x1.seq x2).seq x24).seq x5).new x6 (by omega)) (aLm _) fun w' h => by rw [hRR]; exact ⟨rfl, h⟩
 .have n1 : ((0 : Int) != 0) = false := rfl
  have hlt := GP (aZ (fZ s)) 0 4
  have hrl : CG (aZ (fZ s)) most sym = (if most < ((qD (aZ (fZ s)) 0 4 + 5 : Nat) : Int) ∨ 15 < qD (aZ (fZ s)) 0 4 + 5 then .error 12 else match rdC (aZ (fZ s)) sym ((aZ (fZ s)).length + 1) 4 (2 ^ (qD (aZ (fZ s)) 0 4 + 5)) [] with
   | .error e => .error e
   | .ok (ps, st) => .ok (qD (aZ (fZ s)) 0 4 + 5, ps, (st + 7) / 8)) := by unfold CG; rw [if_neg (by omega)] <;> rfl
  rw [hrl] at hRR
  generalize qD (aZ (fZ s)) 0 4 = x at *
  have e1 : (x : Int) + 5 = ((x + 5 : Nat) : Int) := by omega
  have z5 := x5.size
  simp (disch := omega) only [aLa, YB, Ys, Yu, aA, cY, bY, aP, bK, eH]
  refine eX (o4.ext x5 (fun h => h)) rfl (by simp [one]) (by simp) fun w6 o6 x6 s6 => ?_
  simp only [bM, aLd, aLc] at o6
  have z6 := x6.size
  have x06 : aW w w6 eT := (((x1.seq x2).seq x24).seq x5).new x6 (by omega)
  have o16 := ((((o1.ext x2 (fun h => h)).ext x24 (fun h => h)).ext x5 (fun h => h)).ext x6 (by omega))
  have hbl6 : Bl w6 _ _ := (hbl4.ext x5 (bZ _)).ext x6 (hat _ fun b hb hh => by omega)
  simp (disch := omega) only [n1, e1, aE]
  refine wW fun w7 o7 x7 s7 => ?_
  refine sG o7 rfl (by simp [one]) (by simp) fun w8 o8 x8 s8 => ?_
  simp only [bM, aLd, aLc] at o8
  have x68 : aW w6 w8 eT := x7.new x8 (by omega)
  have x08 : aW w w8 eT := x06.seq x68
  have o18 := o16.ext x68 (fun h => h)
  have c8 := o8.cell (off := 0)
  simp only [aK7, aK8] at c8
  by_cases hmo : most < ((x + 5 : Nat) : Int)
  .have d1 : decide (most < ((x + 5 : Nat) : Int)) = true := by simpa using hmo
   rw [if_pos (.inl hmo)] at hRR
   simp (disch := omega) only [bB, aA, bO, c8, aH, dE, d1, jM, bE, if_true, aG, cK]
   exact aqA (RR := RR) (e := 12) o18 x08 (aLm _) fun w' h => by rw [hRR]; exact ⟨rfl, h⟩
  have d1 : decide (most < ((x + 5 : Nat) : Int)) = false := by simpa using hmo
  by_cases h15 : 15 < x + 5
  .have d2 : decide ((15 : Int) < ((x + 5 : Nat) : Int)) = true := by simp; omega
   rw [if_pos (.inr h15)] at hRR
   simp (disch := omega) only [bB, aA, bO, c8, aH, dE, d1, dI, bE, aLb, if_false, bJ, d2, aG]
   exact aqA (RR := RR) (e := 12) o18 x08 (aLm _) fun w' h => by rw [hRR]; exact ⟨rfl, h⟩
  have d2 : decide ((15 : Int) < ((x + 5 : Nat) : Int)) = false := by simp; omega
  rw [if_neg (by omega)] at hRR
  simp (disch := omega) only [bB, aA, bO, c8, aH, dE, d1, dI, bE, aLb, if_false, bJ, d2, aE]
  refine (IV (x + 5) (by omega) _).mono ?_
  rintro r w9 ⟨rfl, rfl⟩
  have hpow : ((2 ^ (x + 5) : Nat) : Int) = (2 : Int) ^ (x + 5) := by simp
  rw [<- hpow]
  have hS : RdS w9 w.heap.size w2.heap.size w6.heap.size (x + 5) 4 (.slice bn (aZ (fZ s)).length bc) (aZ (fZ s)) [] (.slice none 0 0) :=
   ⟨o18, o6.ext x68 (fun h => h), o8, sV.nil _ _ _, hbl6.ext x68 (bZ _), fun M hM => hat M fun b _ hb => hM b (by omega) (by omega), by omega, by omega⟩
  refine aBO (w0 := w) (res := rdC (aZ (fZ s)) sym ((aZ (fZ s)).length + 1) 4 (2 ^ (x + 5)) []) (aLm _) (by omega) hsym (by omega) hS (by omega) x08 rfl ?_ ?_
  .intro e w' he hx
   rw [hRR, he]
   exact ⟨rfl, hx⟩
  .intro ps st v w' he ho hx
   rw [hRR, he]
   exact ⟨⟨v, rfl, ho⟩, hx⟩
end Go.Proofs.YtgpimhlgaokobaaGreat
namespace Go.Pu
open Go Go.En
theorem azE {L : List Bool} {most : Int} {sym log used : Nat} {ps : List Int} (h : CG L most sym = .ok (log, ps, used)) : (ps.length <= 256 -> May log ps) /\ (log : Int) <= most /\ ps.length <= sym := by
 unfold CG at h
 split at h
 .cases h
 .simp only at h
  split at h
  .cases h
  .rename_i h1 h2
   have hpow : ((2 ^ (qD L 0 4 + 5) : Nat) : Int) = (2 : Int) ^ (qD L 0 4 + 5) := by simp
   have hp := aLC (qD L 0 4 + 5)
   cases hr : rdC L sym (L.length + 1) 4 (2 ^ (qD L 0 4 + 5)) [] with
   | error e => rw [hr] at h; cases h
   | ok x =>
     obtain ⟨p, st⟩ := x
     rw [hr] at h
     cases h
     have e0 : Fm [] = 0 := rfl
     obtain ⟨q1, q2, q3, q4, q5⟩ := aoL (tot := (2 : Int) ^ (qD L 0 4 + 5)) hr (by simp) (by rw [e0, hpow]; omega) (fun h => by omega)
     exact ⟨fun hs => ⟨by omega, by omega, q5, hs, q4, q1, q2⟩, by omega, q3⟩
theorem aBC {L : List Bool} {sym : Nat} {e : Int} : ∀ {f st left : Nat} {ps : List Int}, rdC L sym f st left ps = .error e -> e = 10 ∨ e = 11
 | 0, st, left, ps, h => by cases h; exact .inl rfl
 | f + 1, st, left, ps, h => by
   rw [rdC] at h
   split at h
   .cases h
   .split at h
    .cases h; exact .inl rfl
    .split at h
     .split at h
      .cases h; exact .inl rfl
      .split at h
       .cases h; exact .inr rfl
       .exact aBC h
     .split at h
      .cases h; exact .inr rfl
      .exact aBC h
theorem apN {L : List Bool} {most : Int} {sym : Nat} {e : Int} (h : CG L most sym = .error e) : e ≠ 0 := by
 unfold CG at h
 split at h
 .cases h; decide
 .simp only at h
  split at h
  .cases h; decide
  .split at h
   .rename_i hr
    cases h
    rcases aBC hr with h | h <;> omega
   .cases h
theorem azJ {L : List Bool} {sym : Nat} {out : List Int} {stE : Nat} : ∀ {f st left : Nat} {ps : List Int}, rdC L sym f st left ps = .ok (out, stE) -> st <= L.length -> stE <= L.length
 | 0, st, left, ps, h, _ => by cases h
 | f + 1, st, left, ps, h, hst => by
   rw [rdC] at h
   split at h
   .cases h; exact hst
   .rename_i h0
    cases hv : alY L st left with
    | none => rw [hv] at h; cases h
    | some x =>
      obtain ⟨v, st1⟩ := x
      obtain ⟨v1, v2, v3⟩ := avS hv (by omega)
      rw [hv] at h
      simp only at h
      split at h
      .cases hn : noR L (L.length + 1) st1 with
       | none => rw [hn] at h; cases h
       | some y =>
         obtain ⟨k, st2⟩ := y
         rw [hn] at h
         simp only at h
         split at h
         .cases h
         .exact azJ h (aBQ hn).2.1
      .split at h
       .cases h
       .exact azJ h v2
theorem axB {L : List Bool} {most : Int} {sym log used : Nat} {ps : List Int} (h : CG L most sym = .ok (log, ps, used)) : 8 * used <= L.length + 7 := by
 unfold CG at h
 split at h
 .cases h
 .simp only at h
  split at h
  .cases h
  .cases hr : rdC L sym (L.length + 1) 4 (2 ^ (qD L 0 4 + 5)) [] with
   | error e => rw [hr] at h; cases h
   | ok x =>
     obtain ⟨p, st⟩ := x
     rw [hr] at h
     cases h
     have := azJ hr (by omega)
     omega
def VK (b : List Nat) (i : Nat) : Nat := if i % 2 = 0 then b.getD (i / 2) 0 / 16 else b.getD (i / 2) 0 % 16
def mQ (b : List Nat) (n : Nat) : List Nat := (List.range n).map (VK b)
theorem BQ (b : List Nat) (n : Nat) : (mQ b n).length = n := by simp [mQ]
theorem ahL (b : List Nat) (n : Nat) : mQ b (n + 1) = mQ b n ++ [VK b n] := by
 unfold mQ; rw [aNo, aLz] <;> rfl
theorem aDj {b : List Nat} (h : ∀ x ∈ b, x < 256) (i : Nat) : VK b i < 16 := by
 unfold VK
 have : b.getD (i / 2) 0 < 256 := by
  rcases aLv (i / 2) b.length with hi | hi
  .exact h _ (tG hi)
  .rw [aLl, aLo hi]; decide
 split <;> omega
theorem aeD {b : List Nat} (h : ∀ x ∈ b, x < 256) (n : Nat) : ∀ x ∈ mQ b n, x < 16 := fun x hx => by
 obtain ⟨i, _, rfl⟩ := aMl.1 hx
 exact aDj h i
def Cu (m : List Nat) : List Nat := (List.range ((m.length + 1) / 2)).map fun j => m.getD (2 * j) 0 * 16 + m.getD (2 * j + 1) 0
theorem Ck (m : List Nat) : (Cu m).length = (m.length + 1) / 2 := by simp [Cu]
theorem aqK {m : List Nat} {j : Nat} (h : j < (m.length + 1) / 2) : (Cu m).getD j 0 = m.getD (2 * j) 0 * 16 + m.getD (2 * j + 1) 0 := by
 rw [aLl]
 unfold Cu
 rw [aLD, aMb h] <;> rfl
theorem ajQ {m : List Nat} (h : ∀ x ∈ m, x < 16) (i : Nat) : m.getD i 0 < 16 := by
 rcases aLv i m.length with hi | hi
 .exact h _ (tG hi)
 .rw [aLl, aLo hi]; decide
theorem aCO {m : List Nat} (h : ∀ x ∈ m, x < 16) : mQ (Cu m) m.length = m := by
 apply aMk
 intro i
 rcases aLv i m.length with hi | hi
 .unfold mQ
  rw [aLD, aMb hi]
  have hp := aqK (m := m) (j := i / 2) (by omega)
  have e : m[i]? = some (m.getD i 0) := by rw [aLl, aLg hi] <;> rfl
  rw [e]
  simp only [aLZ, Option.some.injEq]
  unfold VK
  rw [hp]
  have h1 := ajQ h (2 * (i / 2))
  have h2 := ajQ h (2 * (i / 2) + 1)
  split
  .rw [show 2 * (i / 2) = i from by omega] at *; omega
  .rw [show 2 * (i / 2) + 1 = i from by omega] at *; omega
 .rw [aLo (by rw [BQ]; exact hi), aLo hi]
theorem axN {m : List Nat} {k d : Nat} (h : gQ (m ++ [k]) = d) (hd : d ≠ 0) : tX m = some k := by
 obtain ⟨h1, h2, h3, h4, h5, h6⟩ := vZ h hd
 rw [aNi] at h5
 have hk0 : k ≠ 0 := fun e => h5 (by rw [e])
 have hkd : k <= d := h1 k (by simp)
 rw [CF, oY] at h6
 have e0 : dV [] = 0 := rfl
 have ek : F8 k = 2 ^ (k - 1) := by unfold F8; rw [if_neg hk0]
 rw [e0, ek] at h6
 have hp : 2 ^ (k - 1) <= 2 ^ (d - 1) := aLj (by omega) (by omega)
 obtain ⟨e, rfl⟩ : ∃ e, d = e + 1 := ⟨d - 1, by omega⟩
 rw [aL9] at hp
 have hpe : 2 ^ (e + 1) = 2 ^ e + 2 ^ e := by rw [aLM]; omega
 have hpk := aLC (k - 1)
 have hpe0 := aLC e
 have hbl : bl (dV m) = e + 1 := aGE (by omega) (by omega)
 have hleft : 2 ^ (e + 1) - dV m = 2 ^ (k - 1) := by omega
 unfold tX
 rw [hbl, hleft, aNh, if_pos]
 .congr 1; omega
 .simp at h3 h4
  exact ⟨rR.2 fun w hw => aMf (h1 w (aMp _ hw)) h2, by omega, by omega, by omega, h2, rfl⟩
end Go.Pu
namespace Go.Proofs.YtgpimhlgaokobaaGreat
open Go Go.En Go.Pu
set_option maxRecDepth 4000
abbrev nV (m : List Nat) : List UInt8 := m.map UInt8.ofNat
theorem XU {m : List Nat} (h : ∀ x ∈ m, x < 256) : bT (nV m) = m := by
 unfold bT nV
 rw [aNC]
 conv => rhs; rw [<- List.map_id m]
 apply aLN
 intro x hx
 show (UInt8.ofNat x).toNat = x
 exact aMx (h x hx)
theorem awM {x : Nat} (h : x < 256) : sU (UInt8.ofNat x) = .int .u8 (x : Nat) := by
 unfold sU; rw [aMx h]
theorem aAE (l : List UInt8) : nV (bT l) = l := by
 unfold nV bT
 rw [aNC]
 conv => rhs; rw [<- List.map_id l]
 apply aLN
 intro x _
 show UInt8.ofNat x.toNat = x
 simp
theorem aKD {x : Nat} (h : x < 256) : VF .u8 (x : Int) 15 = ((x % 16 : Nat) : Int) := by
 have : ∀ k : Fin 256, VF .u8 (k.val : Int) 15 = ((k.val % 16 : Nat) : Int) := by decide +kernel
 exact this ⟨x, h⟩
theorem asL {base i c : Nat} {bv t15 t16 v' : aNF} {cells : List aNF} {w : aNE} (o : sV w base 1 v' i cells) (hb : base <= w.heap.size) (hi : i <= 100000) (hc : c < 256) {kn : aNF -> aNF -> aNF -> aNF -> aNE -> Prop}
 (hK : ∀ v2 w2, sV w2 base 1 v2 (i + 1) (cells ++ [.int .u8 (c % 16 : Nat)]) -> aW w w2 (fun y => base <= y) -> kn bv v2 t15 t16 w2) : wB kn bv v' (.int .u8 c) t15 t16 w := by
 unfold wB
 have e6 := aKD (x := c) hc
 obtain ⟨av, cv, rfl⟩ := o.len
 simp (disch := omega) only [aD, wK, e6, aA]
 refine pC (cells := #[.int .u8 (c % 16 : Nat)]) (by decide) (by decide) (by kernel_rfl) fun w5 o5 x5 s5 => ?_
 have z5 := x5.size
 refine mJ (m := 1) (news := [.int .u8 (c % 16 : Nat)]) (o.ext x5 (fun _ _ h => h)) (o5.cl (off := 0) (l := [.int .u8 (c % 16 : Nat)]) (n := 1) rfl (fun i hi => by rw [aLa])) (by simp [one]) (by omega) (by omega) fun v6 w6 o6 x6 => ?_
 exact hK v6 w6 o6 ((x5.mono fun _ _ h => h.elim).seq x6)
theorem aHt {v : aNF} {l : List UInt8} {n : Nat} {w : aNE} (h : Bs w v l) (hl : l.length <= 100000) (hn : n <= 100000) :
 aT pg Cj #[v, .int .i64 n] w (fun r w' => ((l.length < (n + 1) / 2 /\ r = .tuple #[.slice none 0 0, .int .i64 10]) ∨
  ((n + 1) / 2 <= l.length /\ ∃ v', r = .tuple #[v', .int .i64 0] /\ sV w' w.heap.size 1 v' n ((nV (mQ (bT l) n)).map sU))) /\ aW w w' eT) := by
 refine X1 ?_
 obtain ⟨a, n', c, rfl, hn', hc, hh⟩ := id h
 rw [aLk] at hn'
 subst hn'
 have e1 : (n : Int) + 1 = ((n + 1 : Nat) : Int) := by omega
 have e2 : ((n + 1 : Nat) : Int).tdiv 2 = (((n + 1) / 2 : Nat) : Int) := by rw [aLr (by omega)]; omega
 unfold VU DP Ed
 by_cases hsh : l.length < (n + 1) / 2
 .have d1 : decide ((l.length : Int) < (((n + 1) / 2 : Nat) : Int)) = true := by simp only [decide_eq_true_eq]; omega
  simp (disch := omega) only [aD, aQ, bK, e1, aP, and_true, aA, oR, e2, aS, d1, aG]
  exact ⟨.inl hsh, aW.refl _ _⟩
 have d1 : decide ((l.length : Int) < (((n + 1) / 2 : Nat) : Int)) = false := by simp only [decide_eq_false_iff_not]; omega
 simp (disch := omega) only [aD, aQ, bK, e1, aP, and_true, aA, oR, e2, aS, d1, aE]
 unfold Ei Eo D1 DM Ea
 refine cS.rule (fun m (t : aNF × aNF) w' => ∃ (i : Nat) (v' : aNF), m = n - i /\ t = (v', .int .i64 i) /\ i <= n /\ sV w' w.heap.size 1 v' i ((nV (mQ (bT l) i)).map sU) /\ aW w w' eT) n
  ⟨0, _, rfl, rfl, by omega, sV.nil _ _ _, aW.refl _ _⟩ ?_
 rintro m t w1 ⟨i, v', rfl, rfl, hi, o1, x1⟩
 unfold A4 Fg
 by_cases hlt : i < n
 .have d2 : decide ((i : Int) < (n : Int)) = true := by simp; omega
  obtain ⟨b, off, rfl, hcell⟩ := slA (h.ext x1 (bZ _)) (by omega)
  have e3 : (i : Int).tdiv 2 = ((i / 2 : Nat) : Int) := by rw [aLr (by omega)]; omega
  have e4 : (i : Int).tmod 2 = ((i % 2 : Nat) : Int) := by rw [aLB (by omega)]; omega
  have hi2 : i / 2 < l.length := by omega
  have g1 := hcell (i / 2) hi2
  rw [aLD, aLg hi2] at g1
  simp only [aLZ, sU] at g1
  have hgd := aCy hi2
  have hs := ahL (bT l) i
  have hf : VK (bT l) i = if i % 2 = 0 then (bT l).getD (i / 2) 0 / 16 else (bT l).getD (i / 2) 0 % 16 := rfl
  rw [hgd] at hf
  have hx : (l[i / 2]).toNat < 256 := aLO _
  have hf16 := aDj (Qb l) i
  generalize (l[i / 2]).toNat = x at *
  generalize VK (bT l) i = y at *
  have z1 := x1.size
  have hy : sU (UInt8.ofNat y) = .int .u8 (y : Nat) := awM (by omega)
  have hcells : ∀ c : Nat, c % 16 = y -> ((nV (mQ (bT l) i)).map sU ++ [.int .u8 (c % 16 : Nat)]) = (nV (mQ (bT l) (i + 1))).map sU := fun c hc => by
   rw [hs, hc]
   simp only [nV, aLz, aMn, aNs, hy]
  unfold Ff Fz Qz G4
  by_cases hev : i % 2 = 0
  .have n2 : (((i % 2 : Nat) : Int) == 0) = true := by rw [hev] <;> rfl
   rw [if_pos hev] at hf
   have e5 : (x : Int).fdiv (2 ^ (min 4 IntKind.u8.bits)) = ((x / 16 : Nat) : Int) := by
    rw [show min 4 IntKind.u8.bits = 4 from rfl, aMI _ (by omega)]; omega
   have t4 : (4 : Int).toNat = 4 := rfl
   simp (disch := omega) only [aD, aS, d2, oR, e3, aP, rD, e4, aA, dQ, n2, aG, dA, aK9, gS, g1, aH, sR, t4, e5]
   refine asL (c := x / 16) o1 (by omega) (by omega) (by omega) fun v2 w2 o2 x2 => ?_
   rw [hcells _ (by omega)] at o2
   unfold xB
   simp (disch := omega) only [aD, bK, aP, aA]
   exact ⟨n - (i + 1), by omega, i + 1, _, rfl, rfl, by omega, o2, x1.trans x2 fun b hb h => by omega⟩
  .have n2 : (((i % 2 : Nat) : Int) == 0) = false := beq_eq_false_iff_ne.2 (by omega)
   rw [if_neg hev] at hf
   simp (disch := omega) only [aD, aS, d2, oR, e3, aP, rD, e4, aA, dQ, n2, aE, dA, aK9, gS, g1, aH, aG]
   refine asL (c := x) o1 (by omega) (by omega) (by omega) fun v2 w2 o2 x2 => ?_
   rw [hcells _ (by omega)] at o2
   unfold xB
   simp (disch := omega) only [aD, bK, aP, aA]
   exact ⟨n - (i + 1), by omega, i + 1, _, rfl, rfl, by omega, o2, x1.trans x2 fun b hb h => by omega⟩
 .have d2 : decide ((i : Int) < (n : Int)) = false := by simp; omega
  obtain rfl : i = n := by omega
  unfold AW
  simp (disch := omega) only [aD, aS, d2, aA, aE]
  exact ⟨.inr ⟨by omega, v', rfl, o1⟩, x1⟩
def Po (w : aNE) (base : Nat) (h : Nat) (rest : List UInt8) (r : aNF) : Prop :=
 if rest.length < (h - 127 + 1) / 2 then r = .tuple #[.slice none 0 0, .int .i64 0, .int .i64 10]
 else match tX (mQ (bT rest) (h - 127)) with
  | none => r = .tuple #[.slice none 0 0, .int .i64 0, .int .i64 11]
  | some k => ∃ v, r = .tuple #[v, .int .i64 (1 + (h - 127 + 1) / 2 : Nat), .int .i64 0] /\ sV w base 1 v (h - 127 + 1) ((nV (mQ (bT rest) (h - 127)) ++ [UInt8.ofNat k]).map sU)
theorem aBP {v : aNF} {h : Nat} {rest : List UInt8} {l : List UInt8} {w : aNE} (hb : Bs w v l) (hle : l = UInt8.ofNat h :: rest) (hh : 128 <= h) (hh2 : h < 256) (hl : rest.length <= 10000) :
 aT pg BF #[v] w (fun r w' => Po w' w.heap.size h rest r /\ aW w w' eT) := by
 refine FB ?_
 obtain ⟨RR, hRR⟩ : ∃ RR : aNF -> aNE -> Prop, RR = fun r w' => Po w' w.heap.size h rest r /\ aW w w' eT := ⟨_, rfl⟩
 rw [<- hRR]
 have key : ∀ r w', Po w' w.heap.size h rest r -> aW w w' eT -> RR r w' := fun r w' h1 h2 => by rw [hRR]; exact ⟨h1, h2⟩
 have hll : l.length = rest.length + 1 := by rw [hle] <;> rfl
 obtain ⟨b, off, c, rfl, hc, hcell⟩ := O6 hb (by omega)
 have g0 := hcell 0 (by omega)
 have hl0 : (l[0]'(by omega)).toNat = h := by
  subst hle
  exact aMx hh2
 rw [hl0] at g0
 have hsub := hb.drop' (k := 1) (by omega)
 rw [<- aMS] at hsub
 have hdr : l.drop 1 = rest := by rw [hle] <;> rfl
 rw [hdr, hll] at hsub
 have n0 : ((l.length : Int) == 0) = false := beq_eq_false_iff_ne.2 (by omega)
 have d1 : decide ((128 : Int) <= (h : Int)) = true := by simp; omega
 have e1 : (h : Int) - 128 = ((h - 128 : Nat) : Int) := by omega
 have e2 : ((h - 128 : Nat) : Int) + 2 = ((h - 126 : Nat) : Int) := by omega
 have e3 : ((h - 126 : Nat) : Int).tdiv 2 = (((h - 127 + 1) / 2 : Nat) : Int) := by rw [aLr (by omega)]; omega
 have e4 : ((h - 128 : Nat) : Int) + 1 = ((h - 127 : Nat) : Int) := by omega
 have t0 : (0 : Int).toNat = 0 := rfl
 have t1 : (1 : Int).toNat = 1 := rfl
 unfold Md Aa Ai
 simp (disch := omega) only [aD, aQ, dA, t0, eE, t1, aA, gS, dQ, n0, g0, aH, dF, aP, nF, d1, fE, e1, bK, e4, e2, oR, e3, aS, aG, aE]
 rw [hll]
 refine (aHt hsub (by omega) (by omega)).mono ?_
 rintro r w1 ⟨⟨hsh, rfl⟩ | ⟨hsh, v1, rfl, o1⟩, x1⟩
 .have n1 : ((10 : Int) != 0) = true := rfl
  unfold qF
  simp (disch := omega) only [pT, pS, aD, bK, aP, aA, cY, n1, aG]
  refine key _ _ ?_ x1
  unfold Po
  rw [if_pos hsh]
 .have n1 : ((0 : Int) != 0) = false := rfl
  have hlt : ∀ x ∈ mQ (bT rest) (h - 127), x < 256 := fun x hx => by have := aeD (Qb rest) _ x hx; omega
  have hbs : Bs w1 v1 (nV (mQ (bT rest) (h - 127))) := o1.sl
  have z1 := x1.size
  obtain ⟨av, cv, rfl⟩ := o1.len
  unfold qF
  simp (disch := omega) only [pT, pS, aD, bK, aP, aA, cY, n1, aE]
  refine (aET hbs (by simp [BQ]; omega)).mono ?_
  rintro r w2 ⟨hwo, x2⟩
  rw [XU hlt] at hwo
  cases hw : tX (mQ (bT rest) (h - 127)) with
  | none =>
    rw [hw] at hwo
    obtain rfl := hwo
    have n2 : ((11 : Int) != 0) = true := rfl
    simp (disch := omega) only [pT, pS, aA, cY, n2, aG]
    refine key _ _ ?_ (x1.seq x2)
    unfold Po
    rw [if_neg (by omega), hw]
  | some k =>
    rw [hw] at hwo
    obtain ⟨v2, rfl, o2⟩ := hwo
    have e5 : (1 : Int) + (((h - 127 + 1) / 2 : Nat) : Int) = ((1 + (h - 127 + 1) / 2 : Nat) : Int) := by omega
    have hlen : (nV (mQ (bT rest) (h - 127))).length = h - 127 := by simp [BQ]
    rw [hlen] at o2
    simp (disch := omega) only [pT, pS, e5, aA, cY, n1, aE]
    refine key _ _ ?_ (x1.seq x2)
    unfold Po
    rw [if_neg (by omega), hw]
    refine ⟨v2, rfl, o2.1, ?_⟩
    rcases o2.2 with h | ⟨b, c, rest', q1, q2, q3⟩
    .exact .inl h
    .exact .inr ⟨b, c, rest', q1, by omega, q3⟩
def qS (L : List T3) (s : Nat) : Nat := match L[s]? with | some e => e.1.toNat | none => 0
def stN (L : List T3) (B : List Bool) : Nat -> Nat -> Nat -> Nat -> List Nat -> Option (List Nat)
 | 0, _, _, _, _ => none
 | f + 1, a, b, left, out =>
   if left < lB L a then (if 255 < out.length + 2 then none else some (out ++ [qS L a, qS L b]))
   else stN L B f b (vI L a (qH (B.take left) (lB L a))).toNat (left - lB L a) (out ++ [qS L a])
structure Vld (L : List T3) : Prop where
 low : Low L
 sy : ∀ e ∈ L, 0 <= e.1 /\ e.1 < 256
 nx : ∀ s : Nat, s < L.length -> ∀ x : Nat, x < 2 ^ lB L s -> 0 <= vI L s x /\ (vI L s x).toNat < L.length
 len : L.length <= 32768
theorem adI {log : Nat} {ps : List Int} (hm : May log ps) : Vld (xC log ps) := by
 have hl := xJ log ps
 have h15 := hm.log15
 have hp : 2 ^ log <= 2 ^ 15 := aLj (by omega) h15
 refine ⟨aDO hm, aFP hm, fun s hs x hx => ?_, by omega⟩
 rw [hl] at hs ⊢
 obtain ⟨sy, hsy, h1, h2, h3, h4, h5⟩ := axQ hm (Og hm 0) hs
 have hat := aAu (ps := ps) hs
 have hb : lB (xC log ps) s = log + 1 - bl (kAt ps (rH 0 log ps) s) := by
  unfold lB
  rw [if_pos (by omega), aK9, hat]; simp [UU, GN]
 have hn : vI (xC log ps) s x = ((kAt ps (rH 0 log ps) s * 2 ^ (log + 1 - bl (kAt ps (rH 0 log ps) s)) : Nat) : Int) - 2 ^ log + x := by
  unfold vI
  rw [if_pos (by omega), aK9, hat]; simp [UU, GN]
 rw [hb] at hx
 rw [hn]
 have hk : kAt ps (rH 0 log ps) s < 2 ^ (log + 1) := by rw [h4, aLM]; omega
 have hk1 : 1 <= kAt ps (rH 0 log ps) s := by rw [h4]; omega
 obtain ⟨q1, q2, q3, q4⟩ := aBN hk1 hk
 generalize kAt ps (rH 0 log ps) s = k at *
 generalize log + 1 - bl k = n at *
 rw [aL0, aNl, aLM] at q2
 have hpow : ((2 ^ log : Nat) : Int) = (2 : Int) ^ log := by simp
 rw [<- hpow]
 generalize k * 2 ^ n = q at *
 generalize 2 ^ n = r at *
 generalize 2 ^ log = N at *
 omega
abbrev u8s (m : List Nat) : List aNF := m.map fun (x : Nat) => Value.int .u8 x
theorem WB {m : List Nat} (h : ∀ x ∈ m, x < 256) : (nV m).map sU = u8s m := by
 show List.map sU (m.map UInt8.ofNat) = _
 rw [aNC]
 exact aLN fun x hx => awM (h x hx)
theorem Pk {L : List T3} (h : Vld L) (s : Nat) : qS L s < 256 := by
 unfold qS
 cases hs : L[s]? with
 | none => simp
 | some e => have := h.sy e (aMg hs); simp only; omega
theorem aEv {L : List T3} {B : List Bool} (h : Vld L) : ∀ {f a b left : Nat} {out m : List Nat}, stN L B f a b left out = some m -> (∀ x ∈ out, x < 256) -> (∀ x ∈ m, x < 256) /\ m.length <= 255
 | 0, _, _, _, _, _, e, _ => by cases e
 | f + 1, a, b, left, out, m, e, ho => by
   rw [stN] at e
   split at e
   .split at e
    .cases e
    .cases e
     refine ⟨fun x hx => ?_, by rw [aLh]; simp; omega⟩
     rcases aLQ.1 hx with hx | hx
     .exact ho x hx
     .simp only [aL2, List.not_mem_nil, or_false] at hx
      rcases hx with rfl | rfl
      .exact Pk h a
      .exact Pk h b
   .refine aEv h e fun x hx => ?_
    rcases aLQ.1 hx with hx | hx
    .exact ho x hx
    .rw [aMX.1 hx]; exact Pk h a
theorem aCl {base px i x : Nat} {v : aNF} {cells : List aNF} {w : aNE} (o : OSS w (fun b => base <= b /\ b ≠ px) 1 v i cells) (hb : base <= w.heap.size) (hp : px < w.heap.size) (hi : i <= 100000) {K : aNF -> aNE -> Prop}
 (hK : ∀ v2 w2, OSS w2 (fun b => base <= b /\ b ≠ px) 1 v2 (i + 1) (cells ++ [.int .u8 x]) -> aW w w2 (fun y => base <= y /\ y ≠ px) -> K v2 w2) :
 aD pg (cV 22 1 [(0, .int .u8 x)]) w fun t w => aD pg (lG .append #[22, 22] 22 [v, t]) w fun t' w => K t' w := by
 refine pC (cells := #[.int .u8 x]) (by decide) (by decide) (by kernel_rfl) fun w5 o5 x5 s5 => ?_
 have z5 := x5.size
 refine zA (m := 1) (news := [.int .u8 x]) (i := Tryz.t5) Tryz.underlying22 Tryz.underlying22 Sr rfl rfl rfl (o.ext x5 (fun _ _ h => h)) (o5.cl (off := 0) (l := [.int .u8 x]) (n := 1) rfl (fun i hi => by rw [aLa])) (by simp [one]) (fun b hb => ⟨by omega, by omega⟩) (by omega) (by rw [show Tryz.t5.bytes = 1 from rfl]; omega) (by decide) fun v6 w6 o6 x6 => ?_
 exact hK v6 w6 o6 ((x5.mono fun _ _ h => h.elim).seq x6)
theorem aBB {L : List T3} (h : Vld L) {s : Nat} (hs : s < L.length) : ∃ bs : Int, L[s] = ((qS L s : Int), (lB L s : Int), bs) := by
 have hsome : L[s]? = some L[s] := aLg hs
 obtain ⟨n, hn, hn2, _, _⟩ := h.low _ (aLW hs)
 have hsy := h.sy _ (aLW hs)
 refine ⟨L[s].2.2, ?_⟩
 have e1 : lB L s = n := by unfold lB; simp [hsome, hn]
 have e2 : ((qS L s : Nat) : Int) = L[s].1 := by unfold qS; simp only [hsome]; omega
 rw [e1, e2, <- hn]
def two (i a b : Nat) : List aNF := if i % 2 = 0 then [.int .i64 a, .int .i64 b] else [.int .i64 b, .int .i64 a]
theorem aBI (i a b : Nat) : (two i a b)[i % 2]? = some (.int .i64 a) := by
 unfold two
 rcases aMJ i with h | h <;> rw [h] <;> simp
theorem aIF (i a b : Nat) : (two i a b)[(i + 1) % 2]? = some (.int .i64 b) := by
 unfold two
 rcases aMJ i with h | h
 .rw [h, show (i + 1) % 2 = 1 from by omega]; simp
 .rw [h, show (i + 1) % 2 = 0 from by omega]; simp
theorem aIl (i a b c : Nat) : (two i a b).set (i % 2) (.int .i64 c) = two (i + 1) b c := by
 unfold two
 rcases aMJ i with h | h
 .rw [h, show (i + 1) % 2 = 1 from by omega]; simp
 .rw [h, show (i + 1) % 2 = 0 from by omega]; simp
theorem aIQ (i a b : Nat) : (two i a b).length = 2 := by unfold two; split <;> rfl
theorem aBl {p8 p9 b hi lo log : Nat} {L : List T3} {l : List UInt8} {a0 b0 left0 : Nat} {w : aNE} (hv : Vld L) (hl : l.length <= 100000)
 (o8 : eM w p8 [.int .i64 log, .slice (some ⟨b, 0, none⟩) L.length L.length]) (ob : eM w b (fe .u8 L)) (o9 : eM w p9 (two 0 a0 b0)) (hbw : Bwd w lo hi l left0)
 (hne : p8 ≠ hi /\ b ≠ hi /\ p9 ≠ hi /\ p8 ≠ p9 /\ b ≠ p9 /\ lo <= hi /\ hi < p9) (ha : a0 < L.length) (hb : b0 < L.length) (hleft : left0 <= 8 * l.length) {G : Option (List Nat)} (hG : stN L (aZ l) 256 a0 b0 left0 [] = G)
 {R : aNF -> aNE -> Prop} (hR : ∀ v w' e, (match G with | none => v = .slice none 0 0 /\ e = 11 | some m => sV w' w.heap.size 1 v m.length (u8s m) /\ e = 0) -> aW w w' (fun y => y = p9 ∨ y = hi) -> R (.tuple #[v, .int .i64 e]) w') :
 A1 R (.pointer (some ⟨hi, 0, none⟩)) (.pointer (some ⟨p8, 0, none⟩)) (.pointer (some ⟨p9, 0, none⟩)) (.slice none 0 0) w := by
 obtain ⟨n1, n2, n3, n4, n5, n6, n7⟩ := hne
 have q8 := o8.lt
 have q9 := o9.lt
 have qb := ob.lt
 have qh := hbw.choose_spec.1.lt
 unfold A1 EL Gn FK F9
 refine cS.rule (fun m (t : aNF × aNF) w' => ∃ (i a b' left : Nat) (out : List Nat) (ov : aNF), m = 256 - i /\ t = (ov, .int .i64 i) /\ i <= 256 /\ out.length = i /\ a < L.length /\ b' < L.length /\ left <= 8 * l.length /\
  eM w' p9 (two i a b') /\ Bwd w' lo hi l left /\ stN L (aZ l) (256 - i) a b' left out = G /\ sV w' w.heap.size 1 ov i (u8s out) /\ aW w w' (fun y => y = p9 ∨ y = hi ∨ w.heap.size <= y)) 256
  ⟨0, a0, b0, left0, [], _, rfl, rfl, by omega, rfl, ha, hb, hleft, o9, hbw, hG, sV.nil _ _ _, aW.refl _ _⟩ ?_
 clear o9 hbw hG hleft ha hb
 rintro m t w1 ⟨i, a, b', left, out, ov, rfl, rfl, hi6, hol, ha, hb', hleft, o9, hbw, hG, oo, x1⟩
 have z1 := x1.size
 have x1n : ∀ w2, aW w1 w2 (fun y => y = p9 ∨ y = hi ∨ w.heap.size <= y) -> aW w w2 (fun y => y = p9 ∨ y = hi) := fun w2 x2 => (x1.seq x2).mono fun y hy h => by
  rcases h with h | h | h
  .exact .inl h
  .exact .inr h
  .omega
 have hos : ∀ {w2 : aNE}, aW w1 w2 (fun y => w.heap.size <= y) -> aW w w2 (fun y => y = p9 ∨ y = hi ∨ w.heap.size <= y) := fun x2 => x1.seq (x2.mono fun _ _ h => .inr (.inr h))
 unfold Be
 by_cases hlt : i < 256
 case neg =>
  have d1 : decide ((i : Int) < 256) = false := by simp; omega
  obtain rfl : i = 256 := by omega
  obtain ⟨ao, co, rfl⟩ := oo.len
  have d2 : decide ((256 : Int) <= ((256 : Nat) : Int)) = true := by decide
  unfold wP
  simp (disch := omega) only [aD, aS, d1, cU, aLa, rD, jJ, Result.ok.injEq, Next.value.injEq, and_true, bK, aP, true_and, aA, gA, aQ, nF, d2, aG, aE]
  refine hR _ _ 11 ?_ (x1n _ (aW.refl _ _))
  rw [<- hG]
  exact ⟨rfl, rfl⟩
 have d1 : decide ((i : Int) < 256) = true := by simp; omega
 have e1 : (i : Int).tmod 2 = ((i % 2 : Nat) : Int) := by rw [aLB (by omega)]; simp
 have e2 : ((i : Int) + 1).tmod 2 = (((i + 1) % 2 : Nat) : Int) := by rw [aLB (by omega)]; omega
 have hj := aNb i (show 0 < 2 by omega)
 have hj1 := aNb (i + 1) (show 0 < 2 by omega)
 have tj : ((i % 2 : Nat) : Int).toNat = i % 2 := aK9 _
 have tj1 : (((i + 1) % 2 : Nat) : Int).toNat = (i + 1) % 2 := aK9 _
 have ta : (a : Int).toNat = a := aK9 _
 have tb : (b' : Int).toNat = b' := aK9 _
 obtain ⟨bs, hea⟩ := aBB hv ha
 obtain ⟨bs2, heb⟩ := aBB hv hb'
 have hta := aBV (k := .u8) ha
 have htb := WR .u8 L b' hb'
 rw [hea] at hta
 rw [heb] at htb
 have hbl := aAq hv.low a
 have hsa := Pk hv a
 have hsb := Pk hv b'
 have ho8 : ∀ {w2 : aNE}, aW w w2 (fun y => y = p9 ∨ y = hi ∨ w.heap.size <= y) -> eM w2 p8 [.int .i64 log, .slice (some ⟨b, 0, none⟩) L.length L.length] := fun x => o8.ext x (by omega)
 have hob : ∀ {w2 : aNE}, aW w w2 (fun y => y = p9 ∨ y = hi ∨ w.heap.size <= y) -> eM w2 b (fe .u8 L) := fun x => ob.ext x (by omega)
 have hent : ∀ {w2 : aNE}, eM w2 b (fe .u8 L) -> (aL 115 (.pointer (some ⟨b, a * 3, none⟩))).run pg w2 = .ok (.value (.agg #[.int .u8 (qS L a), .int .i64 (lB L a), .int .i64 bs])) w2 := fun o => by
  have := Zw (off := a * 3) o (by rw [pY]; omega)
  rw [hta] at this
  exact this
 have x1d : aW w (dr w1) (fun y => y = p9 ∨ y = hi ∨ w.heap.size <= y) := x1.seq (aW.dr _ _)
 have c8 := (ho8 x1d).cell (off := 1)
 have c9 := (kA o9).cell (off := i % 2)
 rw [aBI] at c9
 simp only [aK7, aK8] at c8
 have l1 := hent (hob x1d)
 simp (disch := omega) only [aD, aS, d1, cU, aLa, rD, e1, jJ, Result.ok.injEq, Next.value.injEq, and_true, bK, aP, true_and, aA, oI, bO, gA, tj, c8, aH, c9, gW, ta, l1, aG]
 refine aiO fun w2 o2 x2 s2 => ?_
 have x12 : aW w1 w2 eT := (aW.dr _ _).seq x2
 have xw2 := x1.seq (x12.mono fun _ _ h => h.elim)
 have c8' := (ho8 xw2).cell (off := 1)
 have c9' := (o9.ext x12 (fun h => h)).cell (off := i % 2)
 rw [aBI] at c9'
 simp only [aK7, aK8] at c8'
 have l1' := hent (hob xw2)
 simp (disch := omega) only [l1', c9', aH, c8', and_true, eK, gR, aLa, Result.ok.injEq, Next.value.injEq, aA, bO, true_and, gS]
 refine ZB o2 rfl (by simp [one]) (by simp) fun w3 o3 x3 s3 => ?_
 simp only [bM, aLd, aLc] at o3
 have hsz2 : (dr w1).heap.size = w1.heap.size := rfl
 rw [hsz2] at o3 x3
 simp only [hsz2]
 have x13 : aW w1 w3 eT := x12.new x3 (aLm _)
 have z3 := o3.lt
 have k0 := o3.cell (off := 0)
 simp only [aK7, aK8] at k0
 simp (disch := omega) only [k0, aH, aA]
 have os3 := (oo.ne (p := w1.heap.size) (aLm _)).ext x13 (fun _ _ h => h)
 refine aCl os3 (by omega) (by omega) (by omega) fun v4 w4 o4 x4 => ?_
 have x14 : aW w1 w4 (fun y => w.heap.size <= y) := (x13.mono fun _ _ h => h.elim).seq (x4.mono fun _ _ h => h.1)
 have z4 := x14.size
 have z34 := x4.size
 have hob4 : u8s out ++ [.int .u8 (qS L a : Nat)] = u8s (out ++ [qS L a]) := by show _ = List.map _ (out ++ [qS L a]); rw [aLz] <;> rfl
 rw [hob4] at o4
 have o34 := o3.ext x4 (by omega)
 have hbw4 : Bwd (dr w4) lo hi l left := (hbw.ext x14 (fun b h1 h2 => by omega) n6).ext (aW.dr _ eT) (fun _ _ _ h => h) n6
 refine (apQ hbw4).mono ?_
 rintro r w5 ⟨rfl, rfl⟩
 have k1 := (kA o34).cell (off := 1)
 simp only [aK7, aK8] at k1
 have xw4 := hos x14
 have xw5 : aW w (dr (dr w4)) (fun y => y = p9 ∨ y = hi ∨ w.heap.size <= y) := (xw4.seq (aW.dr _ _)).seq (aW.dr _ _)
 have x15 : aW w1 (dr (dr w4)) (fun y => w.heap.size <= y) := (x14.seq (aW.dr _ _)).seq (aW.dr _ _)
 have c8 := (ho8 xw5).cell (off := 1)
 simp only [aK7, aK8] at c8
 have o9d := o9.ext x15 (by omega)
 obtain ⟨f, hf⟩ : ∃ f, 256 - i = f + 1 := ⟨255 - i, by omega⟩
 rw [hf, stN] at hG
 by_cases hsh : left < lB L a
 .have d3 : decide ((left : Int) < ((lB L a : Nat) : Int)) = true := by simp only [decide_eq_true_eq]; omega
  rw [if_pos hsh] at hG
  have c9 := o9d.cell (off := (i + 1) % 2)
  rw [aIF] at c9
  have m0 := (hob xw5).cell (off := b' * 3)
  rw [htb.1] at m0
  simp (disch := omega) only [k1, aH, Result.ok.injEq, Next.value.injEq, and_true, c8, e2, tj1, c9, aA, true_and, gW, tb, aLa, eK, gS, m0, aS, d3, aG]
  have o5 := (o4.ext (aW.dr w4 eT) (fun _ _ h => h)).ext (aW.dr (dr w4) eT) (fun _ _ h => h)
  have hszd : (dr (dr w4)).heap.size = w4.heap.size := rfl
  refine aCl o5 (by rw [hszd]; omega) (by rw [hszd]; omega) (by omega) fun v6 w6 o6 x6 => ?_
  have hob6 : u8s (out ++ [qS L a]) ++ [.int .u8 (qS L b' : Nat)] = u8s (out ++ [qS L a, qS L b']) := by show List.map _ (out ++ [qS L a]) ++ _ = List.map _ (out ++ [qS L a, qS L b']); rw [aLz, aLz, aLF] <;> rfl
  rw [hob6] at o6
  have o6l := o6.osl
  obtain ⟨a6, c6, rfl⟩ := o6.len
  unfold wP
  have x16 : aW w1 w6 (fun y => y = p9 ∨ y = hi ∨ w.heap.size <= y) := (x15.mono fun _ _ h => .inr (.inr h)).seq (x6.mono fun _ _ h => .inr (.inr h.1))
  by_cases h255 : 255 < out.length + 2
  .rw [if_pos h255] at hG
   have d4 : decide ((256 : Int) <= ((i + 1 + 1 : Nat) : Int)) = true := by simp only [decide_eq_true_eq]; omega
   simp (disch := omega) only [aD, aQ, aA, nF, d4, aG]
   refine hR _ _ 11 ?_ (x1n _ x16)
   rw [<- hG]; exact ⟨rfl, rfl⟩
  .rw [if_neg h255] at hG
   have d4 : decide ((256 : Int) <= ((i + 1 + 1 : Nat) : Int)) = false := by simp only [decide_eq_false_iff_not]; omega
   simp (disch := omega) only [aD, aQ, aA, nF, d4, aE]
   refine hR _ _ 0 ?_ (x1n _ x16)
   rw [<- hG]
   refine ⟨?_, rfl⟩
   rw [show (out ++ [qS L a, qS L b']).length = i + 1 + 1 from by rw [aLh]; simp; omega]
   exact o6l
 .have d3 : decide ((left : Int) < ((lB L a : Nat) : Int)) = false := by simp only [decide_eq_false_iff_not]; omega
  rw [if_neg hsh] at hG
  have c9 := o9d.cell (off := i % 2)
  rw [aBI] at c9
  have l8 := QZ (off := 0) (ho8 xw5) (by simp)
  simp only [aLf, aLe, aLi] at l8
  simp (disch := omega) only [k1, aH, Result.ok.injEq, Next.value.injEq, and_true, l8, c9, aA, true_and, aS, d3, aE]
  have hbw5 : Bwd (dr (dr w4)) lo hi l left := hbw4.ext (aW.dr _ eT) (fun _ _ _ h => h) n6
  have hszd : (dr (dr w4)).heap.size = w4.heap.size := rfl
  refine (aGf (base := 0) (b := b) (L := L) (s := a) ⟨rfl, aM4 _, hob xw5⟩ hv.low (by have := hv.len; omega) hbw5 n6 (by omega) n2 (by omega) (by omega) (by omega)).mono ?_
  rintro r w6 ⟨rfl, hbw6, x6⟩
  have tl : (left : Int).toNat = left := aK9 _
  rw [tl]
  have hln := tC ((aZ l).take left) (lB L a)
  obtain ⟨g1, g2⟩ := hv.nx a ha _ hln
  obtain ⟨c, hc⟩ : ∃ c : Nat, vI L a (qH ((aZ l).take left) (lB L a)) = c := ⟨_, (Int.toNat_of_nonneg g1).symm⟩
  rw [hc] at g2 hG ⊢
  rw [aK9] at g2 hG
  have o96 := o9d.ext x6 (by omega)
  refine pD o96 rfl (by rw [aIQ]; omega) fun w7 o7 x7 s7 => ?_
  rw [aIl] at o7
  have x17 : aW w1 w7 (fun y => y = p9 ∨ y = hi ∨ w.heap.size <= y) := ((x15.mono fun _ _ h => .inr (.inr h)).seq (x6.mono fun _ _ h => .inr (.inl h))).seq (x7.mono fun _ _ h => .inl h)
  have hbw7 := hbw6.ext x7 (fun b h1 h2 => by omega) n6
  have o47 := ((o4.ext (aW.dr w4 eT) (fun _ _ h => h)).ext (aW.dr (dr w4) eT) (fun _ _ h => h)).ext x6 (fun b h hh => by omega) |>.ext x7 (fun b h hh => by omega)
  refine ⟨f, by omega, i + 1, b', c, left - lB L a, out ++ [qS L a], v4, by omega, rfl, by omega, by rw [aLh, hol] <;> rfl, hb', g2, by omega, o7, ?_, ?_, o47.osl, x1.seq x17⟩
  .rw [show ((left - lB L a : Nat) : Int) = (left : Int) - (lB L a : Nat) from by omega]; exact hbw7
  .rw [show 256 - (i + 1) = f from by omega]; exact hG
def vT (l : List UInt8) : Except Int (List Nat) := match CG (aZ l) 6 12 with
 | .error e => .error e
 | .ok (lg, ps, n) => match Yf (l.drop n) with
   | none => .error 11
   | some k => if k < 2 * lg then .error 11 else
     match stN (xC lg ps) (aZ (l.drop n)) 256 (qH ((aZ (l.drop n)).take k) lg) (qH ((aZ (l.drop n)).take (k - lg)) lg) (k - 2 * lg) [] with
     | none => .error 11
     | some m => .ok m
def aJg (w : aNE) (base : Nat) (o : Except Int (List Nat)) (r : aNF) : Prop := match o with
 | .error e => r = .tuple #[.slice none 0 0, .int .i64 e]
 | .ok m => ∃ v, r = .tuple #[v, .int .i64 0] /\ sV w base 1 v m.length ((nV m).map sU)
theorem axY {l : List UInt8} {m : List Nat} (h : vT l = .ok m) : (∀ x ∈ m, x < 256) /\ m.length <= 255 := by
 unfold vT at h
 split at h
 .cases h
 .rename_i lg ps n hr
  obtain ⟨h1, h2, h3⟩ := azE hr
  have hm := h1 (by omega)
  split at h
  .cases h
  .split at h
   .cases h
   .split at h
    .cases h
    .rename_i hs
     cases h
     exact aEv (adI hm) hs (by simp)
theorem aG1 {p8 p9 b hi lo log k : Nat} {L : List T3} {l : List UInt8} {w : aNE} (hl : l.length <= 100000) (hlog : log <= 15) (hlen : L.length = 2 ^ log)
 (o8 : eM w p8 [.int .i64 log, .slice (some ⟨b, 0, none⟩) L.length L.length]) (o9 : eM w p9 [.int .i64 0, .int .i64 0]) (hbw : Bwd w lo hi l k)
 (hne : p8 ≠ hi /\ p9 ≠ hi /\ p8 ≠ p9 /\ lo <= hi /\ hi < p9) (hk : k <= 8 * l.length) {R : aNF -> aNE -> Prop}
 (hR : ∀ w', eM w' p9 (two 0 (qH ((aZ l).take k) log) (qH ((aZ l).take (k - log)) log)) -> Bwd w' lo hi l ((k : Int) - log - log) -> aW w w' (fun y => y = p9 ∨ y = hi) →
  AV R (.pointer (some ⟨hi, 0, none⟩)) (.pointer (some ⟨p8, 0, none⟩)) (.pointer (some ⟨p9, 0, none⟩)) w') :
 zO R (.pointer (some ⟨hi, 0, none⟩)) (.pointer (some ⟨p8, 0, none⟩)) (.pointer (some ⟨p9, 0, none⟩)) w := by
 obtain ⟨n1, n3, n4, n6, n7⟩ := hne
 have q9 := o9.lt
 have qh := hbw.choose_spec.1.lt
 have hp : 2 ^ log <= 2 ^ 15 := aLj (by omega) hlog
 unfold zO Eb D3 D6 D2
 have hla := tC ((aZ l).take k) log
 have hlb := tC ((aZ l).take (k - log)) log
 obtain ⟨a, ha⟩ : ∃ a, qH ((aZ l).take k) log = a := ⟨_, rfl⟩
 obtain ⟨b', hb'⟩ : ∃ a, qH ((aZ l).take (k - log)) log = a := ⟨_, rfl⟩
 rw [ha, hb'] at hR
 refine cS.rule (fun m (t : aNF) w' => ∃ (i : Nat), m = 2 - i /\ t = .int .i64 i /\ i <= 2 /\ eM w' p9 (if i = 0 then [.int .i64 0, .int .i64 0] else if i = 1 then [.int .i64 a, .int .i64 0] else [.int .i64 a, .int .i64 b']) /\ Bwd w' lo hi l ((k : Int) - i * log) /\ aW w w' (fun y => y = p9 ∨ y = hi)) 2
  ⟨0, rfl, rfl, by omega, o9, by simpa using hbw, aW.refl _ _⟩ ?_
 rintro m t w1 ⟨i, rfl, rfl, hi2, o9, hbw, x1⟩
 have z1 := x1.size
 unfold zZ
 have hcase : i = 0 ∨ i = 1 ∨ i = 2 := by omega
 have o81 := o8.ext x1 (by omega)
 have l8 := QZ (off := 0) o81 (by simp)
 simp only [aLf, aLe, aLi] at l8
 rcases hcase with rfl | rfl | rfl
 .have d1 : decide (((0 : Nat) : Int) < 2) = true := rfl
  simp (disch := omega) only [aD, aS, d1, oI, aK9, aLa, bK, aP, aA, l8, aG]
  refine (axZ hbw n6 (by omega) (by omega) (by omega) (by omega) (by omega)).mono ?_
  rintro r w2 ⟨rfl, hbw2, x2⟩
  rw [show ((k : Int) - ((0 : Nat) : Int) * (log : Nat)).toNat = k from by omega, ha]
  refine pD (o9.ext x2 (by omega)) rfl (by simp) fun w3 o3 x3 s3 => ?_
  refine ⟨1, by omega, 1, rfl, rfl, by omega, o3, ?_, (x1.seq (x2.mono fun _ _ h => .inr h)).seq (x3.mono fun _ _ h => .inl h)⟩
  have := hbw2.ext x3 (fun b h1 h2 => by omega) n6
  rwa [show (k : Int) - ((0 : Nat) : Int) * (log : Nat) - (log : Nat) = (k : Int) - ((1 : Nat) : Int) * (log : Nat) from by omega] at this
 .have d1 : decide (((1 : Nat) : Int) < 2) = true := rfl
  have t1 : ((1 : Nat) : Int).toNat = 1 := rfl
  simp (disch := omega) only [aD, aS, d1, oI, aK9, aLa, bK, aP, aA, l8, aG]
  refine (axZ hbw n6 (by omega) (by omega) (by omega) (by omega) (by omega)).mono ?_
  rintro r w2 ⟨rfl, hbw2, x2⟩
  rw [show ((k : Int) - ((1 : Nat) : Int) * (log : Nat)).toNat = k - log from by omega, hb']
  refine pD (o9.ext x2 (by omega)) rfl (by simp) fun w3 o3 x3 s3 => ?_
  refine ⟨0, by omega, 2, rfl, rfl, by omega, o3, ?_, (x1.seq (x2.mono fun _ _ h => .inr h)).seq (x3.mono fun _ _ h => .inl h)⟩
  have := hbw2.ext x3 (fun b h1 h2 => by omega) n6
  rwa [show (k : Int) - ((1 : Nat) : Int) * (log : Nat) - (log : Nat) = (k : Int) - ((2 : Nat) : Int) * (log : Nat) from by omega] at this
 .have d1 : decide (((2 : Nat) : Int) < 2) = false := rfl
  simp (disch := omega) only [aD, aS, d1, bK, aP, aA, aE]
  refine hR w1 o9 ?_ x1
  rwa [show (k : Int) - ((2 : Nat) : Int) * (log : Nat) = (k : Int) - (log : Nat) - (log : Nat) from by omega] at hbw
theorem aHO {v : aNF} {l : List UInt8} {w : aNE} (h : Bs w v l) (hl : l.length <= 1000) :
 aT pg BW #[v] w (fun r w' => aJg w' w.heap.size (vT l) r /\ aW w w' eT) := by
 refine YE ?_
 obtain ⟨RR, hRR⟩ : ∃ RR : aNF -> aNE -> Prop, RR = fun r w' => aJg w' w.heap.size (vT l) r /\ aW w w' eT := ⟨_, rfl⟩
 rw [<- hRR]
 have key : ∀ r w', aJg w' w.heap.size (vT l) r -> aW w w' eT -> RR r w' := fun r w' h1 h2 => by rw [hRR]; exact ⟨h1, h2⟩
 obtain ⟨av, nv, cv, hvv, hnv, hcv, _⟩ := id h
 rw [aLk] at hnv
 subst hnv
 have hv' := hvv
 subst hv'
 unfold Xi D9 Em Eu O4 Ee
 refine (aDT (most := 6) (sym := 12) h (by omega) (by omega)).mono ?_
 rintro r w1 ⟨hr, x1⟩
 unfold vT at key
 cases hrd : CG (aZ l) 6 12 with
 | error e =>
   rw [hrd] at hr key
   have he := apN hrd
   obtain rfl := hr
   have n1 : (e != 0) = true := by simp [he]
   simp (disch := omega) only [aD, YB, Ys, Yu, nH, aA, cY, eE]
   refine BX fun w2 o2 x2 s2 => ?_
   refine wS o2 rfl (by simp [one]) (by simp) fun w3 o3 x3 s3 => ?_
   simp (disch := omega) only [n1, aG]
   exact key _ _ rfl (x1.seq (x2.new x3 (by omega)))
 | ok x =>
   obtain ⟨lg, ps, n⟩ := x
   rw [hrd] at hr key
   simp only at key
   obtain ⟨hmay, hlg6, hps12⟩ := azE hrd
   have hm := hmay (by omega)
   have hused := axB hrd
   rw [lY] at hused
   obtain ⟨pv, rfl, op⟩ := hr
   obtain ⟨pa, pc, rfl⟩ := op.len
   have n1 : ((0 : Int) != 0) = false := rfl
   simp (disch := omega) only [aD, YB, Ys, Yu, nH, aA, cY, eE, aK9]
   refine BX fun w2 o2 x2 s2 => ?_
   refine wS o2 rfl (by simp [one]) (by simp) fun w3 o3 x3 s3 => ?_
   simp only [bM, aLd, aLc] at o3
   have x13 : aW w1 w3 eT := x2.new x3 (by omega)
   have x03 := x1.seq x13
   have hb3 := h.ext x03 (bZ _)
   have hdr := hb3.drop' (k := n) (by omega)
   rw [<- aMS] at hdr
   have hdr : Bs w3 _ (l.drop n) := hdr
   have tn : (n : Int).toNat = n := aK9 _
   have hdl : (l.drop n).length <= 1000 := by rw [aLs]; omega
   simp (disch := omega) only [n1, aE]
   generalize l.drop n = l' at *
   cases he : Yf l' with
   | none =>
     rw [he] at key
     refine (Uy hdr he (by omega)).mono ?_
     rintro r w4 ⟨rfl, rfl⟩
     have n2 : ((11 : Int) != 0) = true := rfl
     simp (disch := omega) only [pT, pS, aA, cY, n2, aG]
     exact key _ _ rfl x03
   | some k =>
     rw [he] at key
     simp only at key
     have hk := Ij he
     refine (Wa hdr he (by omega)).mono ?_
     rintro r w4 ⟨hi, rfl, hlh, hhi, hbw, x4⟩
     have o34 := o3.ext x4 (fun h => h)
     have l3 := rE (off := 0) o34 (by simp)
     simp only [aLf, aLe, aLi] at l3
     simp (disch := omega) only [pT, pS, aA, cY, n1, aE, l3]
     have op4 := (op.ext x13 (fun _ _ h => h)).ext x4 (fun _ _ h => h)
     refine (aIn hm op4.sl).mono ?_
     rintro r w5 ⟨b, tv, rfl, ⟨rfl, hb5, ob⟩, x5⟩
     simp (disch := omega) only [pT, pS, aA, cY]
     refine MI fun w6 o6 x6 s6 => ?_
     refine I2 o6 rfl (by simp [one]) (by simp) fun w7 o7 x7 s7 => ?_
     simp only [bM, aLd, aLc] at o7
     simp (disch := omega) only [n1, aE]
     refine aEI fun w8 o8 x8 s8 => ?_
     refine aCP o8 rfl (by simp [one]) (by simp) fun w9 o9 x9 s9 => ?_
     simp only [bM, aLd, aLc] at o9
     have x57 : aW w5 w7 eT := x6.new x7 (by omega)
     have x79 : aW w7 w9 eT := x8.new x9 (by omega)
     have x59 := x57.seq x79
     have x49 := x5.seq x59
     have x39 := x4.seq x49
     have z4 := x4.size
     have z5 := x5.size
     have z57 := x57.size
     have z79 := x79.size
     have qb := ob.lt
     have q6 := o7.lt
     have o79 := o7.ext x79 (fun h => h)
     have hN : (xC lg ps).length = 2 ^ lg := xJ lg ps
     have h15 := hm.log15
     have hv := adI hm
     have hla := tC ((aZ l').take k) lg
     have hlb := tC ((aZ l').take (k - lg)) lg
     have ob9 := ob.ext x59 (fun h => h)
     rw [<- hN] at hla hlb
     generalize xC lg ps = L at *
     refine aG1 (L := L) (l := l') (k := k) (by omega) h15 hN o79 o9 (hbw.ext x49 (fun _ _ _ h => h) hlh) (by omega) (by omega) fun w10 o10 hbw10 x10 => ?_
     have x010 : aW w w10 eT := (x03.seq x39).trans x10 fun y hy h => by have := x03.size; omega
     unfold AV Gx
     refine (apQ hbw10).mono ?_
     rintro r w11 ⟨rfl, rfl⟩
     by_cases hlt : k < 2 * lg
     .rw [if_pos hlt] at key
      have d1 : decide ((k : Int) - (lg : Nat) - (lg : Nat) < 0) = true := by simp only [decide_eq_true_eq]; omega
      simp (disch := omega) only [aD, aS, d1, aA, aG]
      exact key _ _ rfl x010
     .rw [if_neg hlt] at key
      have d1 : decide ((k : Int) - (lg : Nat) - (lg : Nat) < 0) = false := by simp only [decide_eq_false_iff_not]; omega
      simp (disch := omega) only [aD, aS, d1, aA, aE]
      have z10 := x10.size
      refine aBl (left0 := k - 2 * lg) (L := L) (l := l') (G := stN L (aZ l') 256 (qH ((aZ l').take k) lg) (qH ((aZ l').take (k - lg)) lg) (k - 2 * lg) []) hv (by omega) (o79.ext x10 (by omega)) (ob9.ext x10 (by omega)) o10
       (by rw [show ((k - 2 * lg : Nat) : Int) = (k : Int) - (lg : Nat) - (lg : Nat) from by omega]; exact hbw10) (by omega) hla hlb (by omega) rfl fun v' w12 e hG x12 => ?_
      have x012 : aW w w12 eT := x010.trans x12 fun y hy h => by have := x03.size; omega
      refine key _ _ ?_ x012
      cases hs : stN L (aZ l') 256 (qH ((aZ l').take k) lg) (qH ((aZ l').take (k - lg)) lg) (k - 2 * lg) [] with
      | none =>
        rw [hs] at hG
        obtain ⟨rfl, rfl⟩ := hG
        exact rfl
      | some m =>
        rw [hs] at hG
        obtain ⟨om, rfl⟩ := hG
        refine ⟨v', rfl, ?_⟩
        rw [WB (aEv hv hs (by simp)).1]
        exact om.lower (by have := x03.size; omega)
theorem aGU {k : IntKind} {L : List T3} {rest : List aNF} {i : Nat} (h : i < L.length) : ((fe k L ++ rest).drop (i * 3)).take 3 = [.int k L[i].1, .int .i64 L[i].2.1, .int .i64 L[i].2.2] := by
 have hl := pY k L
 rw [List.drop_append_of_le_length (by omega), aMT (by rw [aLs]; omega), aBV h]
def zF (o : Except Int (List Nat)) (r : aNF) : Prop := match o with
 | .error e => r = .tuple #[.string ⟨#[]⟩, .int .i64 e]
 | .ok m => r = .tuple #[.string ⟨(nV m).toArray⟩, .int .i64 0]
theorem aIU {w : aNE} {lo hi : Nat} {b : aNF} {B : List Bool} {left n : Nat} (hl : left <= B.length) (hn : n <= left)
 (h : RB w lo hi b ((B.take left).take ((B.take left).length - min n (B.take left).length)) (0 + (n - min n (B.take left).length))) : RB w lo hi b (B.take (left - n)) 0 := by
 have e : (B.take left).length = left := by rw [aLn]; omega
 rw [e, show 0 + (n - min n left) = 0 from by omega, aNv, show min (left - min n left) left = left - n from by omega] at h
 exact h
theorem avI {p7 p8 b lo hi log cc : Nat} {L : List T3} {l : List UInt8} {a0 b0 left0 : Nat} {bv : aNF} {rest : List aNF} {w w0 : aNE} (hv : Vld L) (hl : l.length <= 100000)
 (o8 : eM w p8 [.int .i64 log, .slice (some ⟨b, 0, none⟩) L.length cc]) (ob : eM w b (fe .i64 L ++ rest)) (o7 : eM w p7 bv.cells.toList) (hrb : RB w lo hi bv ((aZ l).take left0) 0)
 (hne : p8 ≠ p7 /\ b ≠ p7 /\ hi <= p7 /\ w0.heap.size <= p7) (ha : a0 < L.length) (hb : b0 < L.length) (hleft : left0 <= 8 * l.length) {G : Option (List Nat)} (hG : stN L (aZ l) 256 a0 b0 left0 [] = G) (x0 : aW w0 w eT)
 {R : aNF -> aNE -> Prop} (hR : ∀ r w', zF (match G with | none => .error 11 | some m => .ok m) r -> aW w0 w' eT -> R r w') :
 Dw R (.pointer (some ⟨p7, 0, none⟩)) (.pointer (some ⟨p8, 0, none⟩)) (.int .i64 a0) (.int .i64 b0) (.slice none 0 0) w := by
 obtain ⟨n1, n2, n3, n4⟩ := hne
 have q8 := o8.lt
 have q7 := o7.lt
 have qb := ob.lt
 unfold Dw Kz Kl
 refine cS.rule (fun m (t : aNF × aNF × aNF) w' => ∃ (i a b' left : Nat) (out : List Nat) (ov bv : aNF), m = 256 - i /\ t = (.int .i64 a, .int .i64 b', ov) /\ i <= 256 /\ out.length = i /\ a < L.length /\ b' < L.length /\ left <= 8 * l.length /\
  eM w' p7 bv.cells.toList /\ RB w' lo hi bv ((aZ l).take left) 0 /\ stN L (aZ l) (256 - i) a b' left out = G /\ sV w' w.heap.size 1 ov i (u8s out) /\ (∀ x ∈ out, x < 256) /\ aW w w' (fun y => y = p7 ∨ w.heap.size <= y)) 256
  ⟨0, a0, b0, left0, [], _, bv, rfl, rfl, by omega, rfl, ha, hb, hleft, o7, hrb, hG, sV.nil _ _ _, by simp, aW.refl _ _⟩ ?_
 clear o7 hrb hG hleft ha hb
 rintro m t w1 ⟨i, a, b', left, out, ov, bv, rfl, rfl, hi6, hol, ha, hb', hleft, o7, hrb, hG, oo, hout, x1⟩
 have z1 := x1.size
 have x0n : ∀ {w2 : aNE}, aW w w2 (fun y => y = p7 ∨ w.heap.size <= y) -> aW w0 w2 eT := fun x2 => x0.trans x2 fun y hy h => by have := x0.size; omega
 have hrb' := hrb
 obtain ⟨v, rfl, hs, hat⟩ := hrb
 obtain ⟨a', c', rfl, hc⟩ := GG hs
 simp only [Value.cells] at o7
 obtain ⟨ao, co, rfl⟩ := oo.len
 unfold Dm
 by_cases hlt : i < 256
 case neg =>
  have d1 : decide ((i : Int) < 256) = false := by simp; omega
  obtain rfl : i = 256 := by omega
  unfold DC
  simp (disch := omega) only [aD, aQ, bN, aLa, jJ, and_true, aA, bG, aS, d1, aE]
  refine hR _ _ ?_ (x0n x1)
  rw [<- hG]
  exact rfl
 have d1 : decide ((i : Int) < 256) = true := by simp; omega
 have ta : (a : Int).toNat = a := aK9 _
 have tb : (b' : Int).toNat = b' := aK9 _
 obtain ⟨bs, hea⟩ := aBB hv ha
 obtain ⟨bs2, heb⟩ := aBB hv hb'
 have hta := aGU (k := .i64) (rest := rest) ha
 have htb := WR .i64 L b' hb'
 have hfl := pY .i64 L
 rw [hea] at hta
 rw [heb] at htb
 have hbl := aAq hv.low a
 have hsa := Pk hv a
 have hsb := Pk hv b'
 have ho8 : ∀ {w2 : aNE}, aW w w2 (fun y => y = p7 ∨ w.heap.size <= y) -> eM w2 p8 [.int .i64 log, .slice (some ⟨b, 0, none⟩) L.length cc] := fun x => o8.ext x (by omega)
 have hob : ∀ {w2 : aNE}, aW w w2 (fun y => y = p7 ∨ w.heap.size <= y) -> eM w2 b (fe .i64 L ++ rest) := fun x => ob.ext x (by omega)
 have hos : ∀ {w2 : aNE}, aW w1 w2 (fun y => w.heap.size <= y) -> aW w w2 (fun y => y = p7 ∨ w.heap.size <= y) := fun x2 => x1.seq (x2.mono fun _ _ h => .inr h)
 have c8 := (ho8 x1).cell (off := 1)
 simp only [aK7, aK8] at c8
 have l1 := Vg (off := a * 3) (hob x1) (by rw [aLh, hfl]; omega)
 rw [hta] at l1
 have ew : IntKind.u8.wrap (qS L a : Nat) = (qS L a : Nat) := xK (by omega) (by omega)
 have ewb : IntKind.u8.wrap (qS L b' : Nat) = (qS L b' : Nat) := xK (by omega) (by omega)
 simp (disch := omega) only [aD, aQ, bN, aLa, jJ, and_true, aA, bG, aS, d1, c8, aH, bU, ta, l1, aG]
 refine Wi fun w2 o2 x2 s2 => ?_
 refine Vx o2 rfl (by simp [one]) (by simp) fun w3 o3 x3 s3 => ?_
 simp only [bM, aLd, aLc] at o3
 have x13 : aW w1 w3 eT := x2.new x3 (aLm _)
 have z3 := o3.lt
 have k0 := o3.cell (off := 0)
 simp only [aK7, aK8] at k0
 simp (disch := omega) only [bV, cP, aLa, Result.ok.injEq, Next.value.injEq, and_true, aA, bO, true_and, k0, aH, eS, ew]
 have os3 := (oo.ne (p := w1.heap.size) (aLm _)).ext x13 (fun _ _ h => h)
 refine aCl os3 (by omega) (by omega) (by omega) fun v4 w4 o4 x4 => ?_
 have x14 : aW w1 w4 (fun y => w.heap.size <= y) := (x13.mono fun _ _ h => h.elim).seq (x4.mono fun _ _ h => h.1)
 have z4 := x14.size
 have z34 := x4.size
 have hob4 : u8s out ++ [.int .u8 (qS L a : Nat)] = u8s (out ++ [qS L a]) := by show _ = List.map _ (out ++ [qS L a]); rw [aLz] <;> rfl
 rw [hob4] at o4
 have o34 := o3.ext x4 (by omega)
 have o74 := o7.ext x14 (by omega)
 have l7 := fM (off := 0) (kA o74) (by simp)
 simp only [aLf, aLe, aLi] at l7
 have hrb4 := (hrb'.ext x14 (fun b h1 h2 => by omega)).ext (aW.dr _ eT) (fun _ _ _ h => h)
 have hBl : (aZ l).length = 8 * l.length := lY l
 have htl : ((aZ l).take left).length = left := by rw [aLn]; omega
 simp (disch := omega) only [l7, aA, true_and]
 refine (arC hrb4 (by omega) (by omega)).mono ?_
 rintro r w5 ⟨rfl, x5⟩
 have x45 : aW w4 w5 eT := (aW.dr _ _).seq x5
 have x15 : aW w1 w5 (fun y => w.heap.size <= y) := x14.seq (x45.mono fun _ _ h => h.elim)
 have xw5 := hos x15
 have z5 := x45.size
 rw [htl, show ((left : Nat) : Int) - ((0 : Nat) : Int) = left from by omega]
 have k1d := (kA o34).cell (off := 1)
 have k1 := (o34.ext x45 (fun h => h)).cell (off := 1)
 simp only [aK7, aK8] at k1 k1d
 have c85 := (ho8 xw5).cell (off := 1)
 simp only [aK7, aK8] at c85
 have o45 := o4.ext x45 (fun _ _ h => h)
 have o75 := o74.ext x45 (fun h => h)
 obtain ⟨f, hf⟩ : ∃ f, 256 - i = f + 1 := ⟨255 - i, by omega⟩
 rw [hf, stN] at hG
 by_cases hsh : left < lB L a
 .have d3 : decide ((left : Int) < ((lB L a : Nat) : Int)) = true := by simp only [decide_eq_true_eq]; omega
  rw [if_pos hsh] at hG
  have m0 := (hob xw5).cell (off := b' * 3)
  rw [aLy (by omega), htb.1] at m0
  simp (disch := omega) only [k1, aH, k1d, Result.ok.injEq, Next.value.injEq, and_true, c85, aA, bU, tb, aLa, bV, bO, m0, eS, ewb, aS, d3, aG, true_and]
  refine aCl o45 (by omega) (by omega) (by omega) fun v6 w6 o6 x6 => ?_
  have hob6 : u8s (out ++ [qS L a]) ++ [.int .u8 (qS L b' : Nat)] = u8s (out ++ [qS L a, qS L b']) := by show List.map _ (out ++ [qS L a]) ++ _ = List.map _ (out ++ [qS L a, qS L b']); rw [aLz, aLz, aLF] <;> rfl
  rw [hob6] at o6
  have o6l := o6.osl
  have hm2 : ∀ x ∈ out ++ [qS L a, qS L b'], x < 256 := fun x hx => by
   rcases aLQ.1 hx with hx | hx
   .exact hout x hx
   .simp only [aL2, List.not_mem_nil, or_false] at hx
    rcases hx with rfl | rfl
    .exact hsa
    .exact hsb
  rw [<- WB hm2] at o6l
  have hb6 : Bs w6 v6 (nV (out ++ [qS L a, qS L b'])) := o6l.sl
  obtain ⟨a6, c6, rfl⟩ := o6.len
  have x16 : aW w w6 (fun y => y = p7 ∨ w.heap.size <= y) := xw5.seq (x6.mono fun _ _ h => .inr h.1)
  by_cases h255 : 255 < out.length + 2
  .rw [if_pos h255] at hG
   have d4 : decide ((255 : Int) < ((i + 1 + 1 : Nat) : Int)) = true := by simp only [decide_eq_true_eq]; omega
   simp (disch := omega) only [aQ, aA, dE, d4, aG]
   refine hR _ _ ?_ (x0n x16)
   rw [<- hG]; exact rfl
  .rw [if_neg h255] at hG
   have d4 : decide ((255 : Int) < ((i + 1 + 1 : Nat) : Int)) = false := by simp only [decide_eq_false_iff_not]; omega
   have hcv := iH hb6
   simp (disch := omega) only [aQ, aA, dE, d4, hcv, aE]
   refine hR _ _ ?_ (x0n x16)
   rw [<- hG]; exact rfl
 .have d3 : decide ((left : Int) < ((lB L a : Nat) : Int)) = false := by simp only [decide_eq_false_iff_not]; omega
  rw [if_neg hsh] at hG
  have l8 := vL (off := 0) (ho8 xw5) (by simp)
  have l75 := fM (off := 0) o75 (by simp)
  simp only [aLf, aLe, aLi] at l8 l75
  simp (disch := omega) only [k1, aH, k1d, Result.ok.injEq, Next.value.injEq, and_true, l8, aA, l75, aS, d3, aE, true_and]
  have hrb5 := hrb4.ext x5 (fun _ _ _ h => h)
  refine (aEf (b := b) (L := L) (s := a) ⟨cc, rest, rfl, hob xw5⟩ hv.low (by have := hv.len; omega) hrb5 (by omega) (by omega) (by omega)).mono ?_
  rintro r w6 ⟨bv6, rfl, hrb6, x6⟩
  have hrb6 := aIU (by omega) (by omega) hrb6
  have hln := tC ((aZ l).take left) (lB L a)
  obtain ⟨g1, g2⟩ := hv.nx a ha _ hln
  obtain ⟨c, hc⟩ : ∃ c : Nat, vI L a (qH ((aZ l).take left) (lB L a)) = c := ⟨_, (Int.toNat_of_nonneg g1).symm⟩
  rw [hc] at g2 hG ⊢
  rw [aK9] at g2 hG
  have hrb6' := hrb6
  obtain ⟨v6, rfl, hs6, hat6⟩ := hrb6
  obtain ⟨a6, c6, rfl, hc6⟩ := GG hs6
  simp (disch := omega) only [pT, pS, aA]
  refine cL (o75.ext x6 (fun h => h)) rfl (by simp [one]) (by simp) fun w7 o7' x7 s7 => ?_
  simp only [bM, aLd, aLc] at o7'
  have x17 : aW w w7 (fun y => y = p7 ∨ w.heap.size <= y) := (xw5.seq (x6.mono fun _ _ h => h.elim)).seq (x7.mono fun _ _ h => .inl h)
  have o47 := (o45.ext x6 (fun _ _ h => h)).ext x7 (fun b h hh => by omega)
  refine ⟨f, by omega, i + 1, b', c, left - lB L a, out ++ [qS L a], v4, .agg #[.slice a6 ((aZ l).take (left - lB L a)).length c6, .int .i64 (0 : Nat)], by omega, rfl, by omega, by rw [aLh, hol] <;> rfl, hb', g2, by omega, o7', hrb6'.ext x7 (fun b h1 h2 => by omega), ?_, o47.osl, ?_, x17⟩
  .rw [show 256 - (i + 1) = f from by omega]; exact hG
  .intro x hx
   rcases aLQ.1 hx with hx | hx
   .exact hout x hx
   .rw [aMX.1 hx]; exact hsa
theorem aE9 {l : List UInt8} {left : Int} {n : Nat} (h1 : left <= 8 * l.length) :
 ((aZ l).take left.toNat).take (((aZ l).take left.toNat).length - min n ((aZ l).take left.toNat).length) = (aZ l).take (left - n).toNat /\
 (-left).toNat + (n - min n ((aZ l).take left.toNat).length) = (-(left - n)).toNat := by
 have hlen : ((aZ l).take left.toNat).length = left.toNat := by rw [aLn, lY]; omega
 rw [hlen]
 constructor
 .rw [aNv]; congr 1; omega
 .omega
theorem aDh {x : ByteArray} {w : aNE} (hl : x.size <= 1000) :
 aT pg FC #[.string x] w (fun r w' => zF (vT (fZ x)) r /\ aW w w' eT) := by
 refine agN ?_
 obtain ⟨RR, hRR⟩ : ∃ RR : aNF -> aNE -> Prop, RR = fun r w' => zF (vT (fZ x)) r /\ aW w w' eT := ⟨_, rfl⟩
 rw [<- hRR]
 have key : ∀ r w', zF (vT (fZ x)) r -> aW w w' eT -> RR r w' := fun r w' h1 h2 => by rw [hRR]; exact ⟨h1, h2⟩
 have hll := gM x
 unfold alC Kv KB
 refine (aEJ (s := x) (most := 6) (sym := 12) (by omega) (by omega)).mono ?_
 rintro r w1 ⟨hr, x1⟩
 unfold vT at key
 cases hrd : CG (aZ (fZ x)) 6 12 with
 | error e =>
   rw [hrd] at hr key
   have he := apN hrd
   obtain rfl := hr
   have n1 : (e != 0) = true := by simp [he]
   simp (disch := omega) only [aD, YB, Ys, Yu, aA, cY, jY]
   refine wW fun w2 o2 x2 s2 => ?_
   refine sG o2 rfl (by simp [one]) (by simp) fun w3 o3 x3 s3 => ?_
   simp (disch := omega) only [n1, aG]
   exact key _ _ rfl (x1.seq (x2.new x3 (by omega)))
 | ok z =>
   obtain ⟨lg, ps, n⟩ := z
   rw [hrd] at hr key
   simp only at key
   obtain ⟨hmay, hlg6, hps12⟩ := azE hrd
   have hm := hmay (by omega)
   have hused := axB hrd
   rw [lY] at hused
   obtain ⟨pv, rfl, op⟩ := hr
   obtain ⟨pa, pc, rfl⟩ := op.len
   have n1 : ((0 : Int) != 0) = false := rfl
   simp (disch := omega) only [aD, YB, Ys, Yu, aA, cY, jY, aK9]
   refine wW fun w2 o2 x2 s2 => ?_
   refine sG o2 rfl (by simp [one]) (by simp) fun w3 o3 x3 s3 => ?_
   simp only [bM, aLd, aLc] at o3
   have x13 : aW w1 w3 eT := x2.new x3 (by omega)
   have x03 := x1.seq x13
   have tn : (n : Int).toNat = n := aK9 _
   have hle : fZ (x.extract n x.size) = (fZ x).drop n := by
    rw [Bz, aLH (by rw [aLs]; omega)]
   have hsz' : (x.extract n x.size).size = (fZ x).length - n := by rw [<- gM, hle, aLs]
   simp (disch := omega) only [n1, aE]
   generalize x.extract n x.size = y at *
   have hdl : ((fZ x).drop n).length <= 1000 := by rw [aLs]; omega
   rw [<- hle] at key hdl
   cases he : Yf (fZ y) with
   | none =>
     rw [he] at key
     refine (ayG he (by omega)).mono ?_
     rintro r w4 ⟨rfl, x4⟩
     have n2 : ((11 : Int) != 0) = true := rfl
     simp (disch := omega) only [pT, pS, aA, cY]
     refine jU fun w5 o5 x5 s5 => ?_
     refine cL o5 rfl (by simp [one]) (by simp) fun w6 o6 x6 s6 => ?_
     simp (disch := omega) only [n2, aG]
     exact key _ _ rfl ((x03.seq x4).seq (x5.new x6 (by omega)))
   | some k =>
     rw [he] at key
     simp only at key
     have hk := Ij he
     refine (aAC he (by omega)).mono ?_
     rintro r w4 ⟨bv, hi, rfl, hhi, hrb, x4⟩
     generalize fZ y = l' at *
     have hrb' := hrb
     obtain ⟨v4, rfl, hs4, hat4⟩ := hrb
     obtain ⟨a4, c4, rfl, hc4⟩ := GG hs4
     simp (disch := omega) only [pT, pS, aA, cY]
     refine jU fun w5 o5 x5 s5 => ?_
     refine cL o5 rfl (by simp [one]) (by simp) fun w6 o6 x6 s6 => ?_
     simp only [bM, aLd, aLc] at o6
     have x46 : aW w4 w6 eT := x5.new x6 (by omega)
     have x36 := x4.seq x46
     have l3 := pW (off := 0) (o3.ext x36 (fun h => h)) (by simp)
     simp only [aLf, aLe, aLi] at l3
     simp (disch := omega) only [n1, l3, aA, aE]
     have op6 := (op.ext x13 (fun _ _ h => h)).ext x36 (fun _ _ h => h)
     refine (aEM hm op6.sl).mono ?_
     rintro r w7 ⟨b, cc, rest, rfl, hb7, ob, x7⟩
     simp (disch := omega) only [pT, pS, aA, cY]
     refine BL fun w8 o8 x8 s8 => ?_
     refine Az o8 rfl (by simp [one]) (by simp) fun w9 o9 x9 s9 => ?_
     simp only [bM, aLd, aLc] at o9
     have x79 : aW w7 w9 eT := x8.new x9 (by omega)
     have x69 := x7.seq x79
     have z46 := x46.size
     have z4 := x4.size
     have z03 := x03.size
     have z7 := x7.size
     have z79 := x79.size
     have qb := ob.lt
     have q9 := o9.lt
     have q6 := o6.lt
     have o69 := o6.ext x69 (fun h => h)
     have ob9 := ob.ext x79 (fun h => h)
     have hrb9 := (hrb'.ext x46 (fun _ _ _ h => h)).ext x69 (fun _ _ _ h => h)
     have x09 := (x03.seq x36).seq x69
     have hN : (xC lg ps).length = 2 ^ lg := xJ lg ps
     have h15 := hm.log15
     have hv := adI hm
     have hla := tC ((aZ l').take k) lg
     have hlb := tC ((aZ l').take (k - lg)) lg
     rw [<- hN] at hla hlb o9
     generalize xC lg ps = L at *
     have hlen := hv.len
     have l9 := vL (off := 0) o9 (by simp)
     have l6 := fM (off := 0) o69 (by simp)
     simp only [aLf, aLe, aLi] at l9 l6
     simp (disch := omega) only [n1, l9, aA, l6, aE]
     have e0 : ((k : Int)).toNat = k := aK9 k
     have e00 : (-(k : Int)).toNat = 0 := by omega
     have h1 : (k : Int) <= 8 * l'.length := by omega
     have hrs := aE9 (n := lg) h1
     rw [e0, e00] at hrs
     have htk : ((aZ l').take k).length = k := by rw [aLn, lY]; omega
     refine (ayM hrb9 (by omega) (by omega) (by omega) (by omega)).mono ?_
     rintro r w10 ⟨bv10, rfl, hrb10, x10⟩
     rw [hrs.1, hrs.2] at hrb10
     have hrb10' := hrb10
     obtain ⟨v10, rfl, hs10, hat10⟩ := hrb10
     obtain ⟨a10, c10, rfl, hc10⟩ := GG hs10
     obtain ⟨a, ha⟩ : ∃ a, qH ((aZ l').take k) lg = a := ⟨_, rfl⟩
     obtain ⟨b', hb'⟩ : ∃ a, qH ((aZ l').take (k - lg)) lg = a := ⟨_, rfl⟩
     have ekl : ((k : Int) - lg).toNat = k - lg := by omega
     have htk2 : ((aZ l').take ((k : Int) - lg).toNat).length = k - lg := by rw [ekl, aLn, lY]; omega
     rw [ha] at key hla ⊢
     rw [hb'] at key hlb
     simp (disch := omega) only [pT, pS, aA]
     refine cL (o69.ext x10 (fun h => h)) rfl (by simp [one]) (by simp) fun w11 o11 x11 s11 => ?_
     simp only [bM, aLd, aLc] at o11
     have x911 : aW w9 w11 (fun y => y = w4.heap.size) := (x10.mono fun _ _ h => h.elim).seq x11
     have l11 := fM (off := 0) o11 (by simp)
     have l911 := vL (off := 0) (o9.ext x911 (by omega)) (by simp)
     simp only [aLf, aLe, aLi] at l11 l911
     simp (disch := omega) only [l911, aA, l11]
     have z10 := x10.size
     have z11 := x11.size
     have hrs2 := aE9 (l := l') (left := (k : Int) - lg) (n := lg) (by omega)
     refine (ayM (hrb10'.ext x11 (fun b h1 h2 => by omega)) (by omega) (by omega) (by omega) (by omega)).mono ?_
     rintro r w12 ⟨bv12, rfl, hrb12, x12⟩
     rw [hrs2.1, hrs2.2] at hrb12
     rw [ekl, hb']
     have hrb12' := hrb12
     obtain ⟨v12, rfl, hs12, hat12⟩ := hrb12
     obtain ⟨a12, c12, rfl, hc12⟩ := GG hs12
     simp (disch := omega) only [pT, pS, aA]
     refine cL (o11.ext x12 (fun h => h)) rfl (by simp [one]) (by simp) fun w13 o13 x13' s13 => ?_
     simp only [bM, aLd, aLc] at o13
     have x913 : aW w9 w13 (fun y => y = w4.heap.size) := (x911.seq (x12.mono fun _ _ h => h.elim)).seq x13'
     have l13 := fM (off := 0) o13 (by simp)
     simp only [aLf, aLe, aLi] at l13
     simp (disch := omega) only [l13, aA]
     have z12 := x12.size
     have z13 := x13'.size
     have hrb13 := hrb12'.ext x13' (fun b h1 h2 => by omega)
     have htk3 : ((aZ l').take ((k : Int) - lg - lg).toNat).length = ((k : Int) - lg - lg).toNat := by rw [aLn, lY]; omega
     refine (arC hrb13 (by omega) (by omega)).mono ?_
     rintro r w14 ⟨rfl, x14⟩
     rw [htk3, show ((((k : Int) - lg - lg).toNat : Nat) : Int) - ((-((k : Int) - lg - lg)).toNat : Nat) = (k : Int) - lg - lg from by omega]
     have x914 : aW w9 w14 (fun y => y = w4.heap.size) := x913.seq (x14.mono fun _ _ h => h.elim)
     have x014 : aW w w14 eT := x09.trans x914 fun y hy h => by omega
     by_cases hlt : k < 2 * lg
     .rw [if_pos hlt] at key
      have d1 : decide ((k : Int) - (lg : Nat) - (lg : Nat) < 0) = true := by simp only [decide_eq_true_eq]; omega
      simp (disch := omega) only [aS, d1, aA, aG]
      exact key _ _ rfl x014
     .rw [if_neg hlt] at key
      have d1 : decide ((k : Int) - (lg : Nat) - (lg : Nat) < 0) = false := by simp only [decide_eq_false_iff_not]; omega
      simp (disch := omega) only [aS, d1, aA, aE]
      have ek2 : ((k : Int) - lg - lg).toNat = k - 2 * lg := by omega
      have ek3 : (-((k : Int) - lg - lg)).toNat = 0 := by omega
      rw [ek2, ek3] at hrb13
      have z14 := x914.size
      refine avI (w0 := w) (left0 := k - 2 * lg) (L := L) (l := l') (bv := .agg #[.slice a12 ((aZ l').take ((k : Int) - lg - lg).toNat).length c12, .int .i64 ((-((k : Int) - lg - lg)).toNat : Nat)]) (G := stN L (aZ l') 256 a b' (k - 2 * lg) []) hv (by omega) (o9.ext x914 (by omega)) (ob9.ext x914 (by omega)) (o13.ext x14 (fun h => h))
       (by rw [ek2, ek3]; exact hrb13.ext x14 (fun _ _ _ h => h)) (by omega) hla hlb (by omega) rfl x014 fun r w' hG hx => ?_
      refine key _ _ ?_ hx
      cases hs : stN L (aZ l') 256 a b' (k - 2 * lg) [] with
      | none => rw [hs] at hG; exact hG
      | some m => rw [hs] at hG; exact hG
end Go.Proofs.YtgpimhlgaokobaaGreat
namespace Go.Pu
def aAL (ns : List Nat) (i last : Nat) : Prop := (last = 0 /\ ∀ j, j < i -> ns.getD j 0 = 0) ∨ (last < i /\ 0 < ns.getD last 0 /\ ∀ j, last < j -> j < i -> ns.getD j 0 = 0)
theorem aAL.step {ns : List Nat} {i last : Nat} (h : aAL ns i last) : aAL ns (i + 1) (if 0 < ns.getD i 0 then i else last) := by
 split
 .rename_i h0
  exact .inr ⟨by omega, h0, fun j h1 h2 => by omega⟩
 .rename_i h0
  rcases h with ⟨rfl, h⟩ | ⟨h1, h2, h3⟩
  .refine .inl ⟨rfl, fun j hj => ?_⟩
   rcases aLv j i with h' | h'
   .exact h j h'
   .have : j = i := by omega
    subst this; omega
  .refine .inr ⟨by omega, h2, fun j hj hj2 => ?_⟩
   rcases aLv j i with h' | h'
   .exact h3 j hj h'
   .have : j = i := by omega
    subst this; omega
theorem aAL.one {ns : List Nat} {i a b : Nat} (ha : aAL ns i a) (hb : aAL ns i b) : a = b := by
 rcases ha with ⟨rfl, h⟩ | ⟨h1, h2, h3⟩
 .rcases hb with ⟨rfl, _⟩ | ⟨k1, k2, _⟩
  .rfl
  .have := h b k1; omega
 .rcases hb with ⟨rfl, k⟩ | ⟨k1, k2, k3⟩
  .have := k a h1; omega
  .rcases aNw a b with h | h | h
   .have := h3 b h k1; omega
   .exact h
   .have := k3 a h h1; omega
theorem aBu {ns : List Nat} {i : Nat} (h : i < ns.length) : ns.getD i 0 = ns[i] := by rw [aLl, aLg h] <;> rfl
theorem aF4 {α : Type} {ns : List α} {i : Nat} (h : i < ns.length) : ns.take (i + 1) = ns.take i ++ [ns[i]] := by
 rw [aL6, aLg h] <;> rfl
theorem axU {ns : List Nat} {i : Nat} (h : i < ns.length) : ns.take (i + 1) = ns.take i ++ [ns.getD i 0] := by rw [aF4 h, aBu h]
end Go.Pu
namespace Go.Proofs.YtgpimhlgaokobaaGreat
open Go Go.En Go.Pu
set_option maxRecDepth 4000
def wrB (l : List Nat) : List Nat := (126 + l.length) :: Cu (l.take (l.length - 1))
theorem axO (l : List Nat) : (wrB l).length = 1 + (l.length - 1 + 1) / 2 := by
 unfold wrB
 rw [aLw, Ck, aLn, aL3 (by omega)]; omega
theorem aJJ {l : List Nat} (h : ∀ x ∈ l, x <= 11) (hl : l.length <= 129) : ∀ x ∈ wrB l, x < 256 := by
 intro x hx
 rcases aL2.1 hx with rfl | hx
 .omega
 .obtain ⟨i, hi, rfl⟩ := aMD hx
  have h16 : ∀ y ∈ l.take (l.length - 1), y < 16 := fun y hy => by have := h y (aMq hy); omega
  rw [Ck] at hi
  rw [<- aBu (by rw [Ck]; exact hi), aqK hi]
  have := ajQ h16 (2 * i)
  have := ajQ h16 (2 * i + 1)
  omega
theorem aG9 {l : List Nat} {d : Nat} (h : gQ l = d) (hd : d ≠ 0) (hl : l.length <= 129) : ∃ (m : List Nat) (k : Nat), l = m ++ [k] /\ m.length = l.length - 1 /\ tX (mQ (Cu m) m.length) = some k /\ mQ (Cu m) m.length = m /\ l.take (l.length - 1) = m := by
 obtain ⟨h1, h2, h3, h4, h5, h6⟩ := vZ h hd
 obtain ⟨m, k, rfl⟩ : ∃ m k, l = m ++ [k] := ⟨l.dropLast, l.getLast (by intro e; rw [e] at h3; simp at h3), (List.dropLast_concat_getLast _).symm⟩
 have hm16 : ∀ x ∈ m, x < 16 := fun x hx => by have := h1 x (aMp _ hx); omega
 have hp := aCO hm16
 refine ⟨m, k, rfl, by simp, by rw [hp]; exact axN h hd, hp, by simp⟩
theorem ayW {base i x : Nat} {l0 n4 v' i6 : aNF} {cells : List aNF} {w : aNE} (o : sV w base 1 v' i cells) (hb : base <= w.heap.size) (hi : i <= 100000) (hx : x < 256) {kn : aNF -> aNF -> aNF -> aNF -> aNE -> Prop}
 (hK : ∀ v2 w2, sV w2 base 1 v2 (i + 1) (cells ++ [.int .u8 x]) -> aW w w2 (fun y => base <= y) -> kn l0 n4 v2 i6 w2) : xS kn l0 n4 v' i6 (.int .u8 x) w := by
 unfold xS
 obtain ⟨av, cv, rfl⟩ := o.len
 refine pC (cells := #[.int .u8 x]) (by decide) (by decide) (by kernel_rfl) fun w5 o5 x5 s5 => ?_
 have z5 := x5.size
 refine mJ (m := 1) (news := [.int .u8 x]) (o.ext x5 (fun _ _ h => h)) (o5.cl (off := 0) (l := [.int .u8 x]) (n := 1) rfl (fun i hi => by rw [aLa])) (by simp [one]) (by omega) (by omega) fun v6 w6 o6 x6 => ?_
 exact hK v6 w6 o6 ((x5.mono fun _ _ h => h.elim).seq x6)
theorem aEn {v : aNF} {l : List UInt8} {w : aNE} (h : Bs w v l) (hl : l.length <= 100000) (hd : gQ (bT l) = 0 ∨ 129 < l.length) :
 aT pg Ak #[v] w (fun r w' => r = .tuple #[.slice none 0 0, .int .i64 (if gQ (bT l) = 0 then 1 else 12)] /\ w' = w) := by
 refine Ph ?_
 obtain ⟨a, n, c, rfl, hn, hc, hh⟩ := id h
 rw [aLk] at hn
 subst hn
 unfold Sf A2 A6
 refine (avO h hl).mono ?_
 rintro r w1 ⟨rfl, rfl⟩
 by_cases h0 : gQ (bT l) = 0
 .have n1 : (((gQ (bT l) : Nat) : Int) == 0) = true := by rw [h0] <;> rfl
  simp (disch := omega) only [aD, dQ, n1, aQ, aA, fE, aP, bK, eS, dE, and_true, aG]
  rw [if_pos h0]
 .have n1 : (((gQ (bT l) : Nat) : Int) == 0) = false := beq_eq_false_iff_ne.2 (by omega)
  have d1 : decide ((129 : Int) < (l.length : Int)) = true := by simp; omega
  simp (disch := omega) only [aD, dQ, n1, aQ, aA, fE, aP, bK, eS, dE, d1, aG, and_true, aE]
  rw [if_neg h0]
theorem aHE {v : aNF} {l : List UInt8} {d : Nat} {w : aNE} (h : Bs w v l) (hd : gQ (bT l) = d) (hd0 : d ≠ 0) (hl : l.length <= 129) :
 aT pg Ak #[v] w (fun r w' => ∃ v', r = .tuple #[v', .int .i64 0] /\ sV w' w.heap.size 1 v' (wrB (bT l)).length ((nV (wrB (bT l))).map sU) /\ aW w w' eT) := by
 refine Ph ?_
 obtain ⟨hall, hd11, hl2, hl256, hlast, hsum⟩ := vZ hd hd0
 have hnl := iQ l
 obtain ⟨b, off, c, rfl, hc, hcell⟩ := O6 h (by omega)
 unfold Sf A2 A6
 refine (avO h (by omega)).mono ?_
 rintro r w1 ⟨rfl, rfl⟩
 rw [hd]
 have n1 : ((d : Int) == 0) = false := beq_eq_false_iff_ne.2 (by omega)
 have d1 : decide ((129 : Int) < (l.length : Int)) = false := by simp; omega
 have e1 : (l.length : Int) - 1 = ((l.length - 1 : Nat) : Int) := by omega
 have e2 : (127 : Int) + ((l.length - 1 : Nat) : Int) = ((126 + l.length : Nat) : Int) := by omega
 have e8 : IntKind.u8.wrap ((126 + l.length : Nat) : Int) = ((126 + l.length : Nat) : Int) := xK (by omega) (by omega)
 simp (disch := omega) only [aD, dQ, n1, aQ, aA, fE, e1, aP, bK, e2, eS, e8, dE, d1, aE]
 refine pC (cells := #[.int .u8 (126 + l.length : Nat)]) (by decide) (by decide) (by kernel_rfl) fun w2 o2 x2 s2 => ?_
 obtain ⟨m, hm⟩ : ∃ m, m = (bT l).take (l.length - 1) := ⟨_, rfl⟩
 have hml : m.length = l.length - 1 := by rw [hm, aLn, hnl]; omega
 have hmg : ∀ i, i < l.length - 1 -> m.getD i 0 = (bT l).getD i 0 := fun i hi => by
  rw [hm, aLl, aLl, aLY hi]
 have hm11 : ∀ x ∈ m, x <= 11 := fun x hx => by rw [hm] at hx; have := hall x (aMq hx); omega
 have hm16 : ∀ x ∈ m, x < 16 := fun x hx => by have := hm11 x hx; omega
 have hwr : wrB (bT l) = (126 + l.length) :: Cu m := by unfold wrB; rw [hnl, hm]
 have hpl := Ck m
 have ho2 : sV w2 w1.heap.size 1 (.slice (some ⟨w1.heap.size, 0, none⟩) 1 1) (0 + 1) ((nV ((126 + l.length) :: (Cu m).take 0)).map sU) := by
  refine ⟨by simp, .inr ⟨_, 1, [], rfl, aLm _, ?_, rfl, aLm _⟩⟩
  simp only [nV, aLi, aMn, aNs, awM (show 126 + l.length < 256 by omega), aLX]
  exact o2
 unfold Fy EY Gg ET GV
 refine cS.rule (fun q (t : aNF × aNF) w' => ∃ (j : Nat) (v' : aNF), q = l.length - 1 + 1 - j /\ t = (v', .int .i64 (2 * j : Nat)) /\ j <= (m.length + 1) / 2 /\ sV w' w1.heap.size 1 v' (j + 1) ((nV ((126 + l.length) :: (Cu m).take j)).map sU) /\ aW w1 w' eT) (l.length - 1 + 1)
  ⟨0, _, rfl, rfl, by omega, ho2, x2⟩ ?_
 rintro q t w3 ⟨j, v', rfl, rfl, hj, o3, x3⟩
 have z3 := x3.size
 unfold BY Ix
 by_cases hlt : 2 * j < l.length - 1
 .have d2 : decide (((2 * j : Nat) : Int) < ((l.length - 1 : Nat) : Int)) = true := by simp only [decide_eq_true_eq]; omega
  obtain ⟨_, _, _, he, _, hcell3⟩ := O6 (h.ext x3 (bZ _)) (by omega)
  cases he
  have g1 := hcell3 (2 * j) (by omega)
  have hg1 := aCy (l := l) (i := 2 * j) (by omega)
  rw [<- hg1, <- hmg (2 * j) hlt] at g1
  have hs1 := axU (ns := Cu m) (i := j) (by omega)
  rw [aqK (by omega)] at hs1
  have hx11 : m.getD (2 * j) 0 <= 11 := hm11 _ (tG (by omega))
  have hy11 := ajQ hm16 (2 * j + 1)
  have e3 : ((2 * j : Nat) : Int) + 1 = ((2 * j + 1 : Nat) : Int) := by omega
  have hcells : ∀ z : Nat, z = m.getD (2 * j) 0 * 16 + m.getD (2 * j + 1) 0 -> z < 256 -> ((nV ((126 + l.length) :: (Cu m).take j)).map sU ++ [.int .u8 z]) = (nV ((126 + l.length) :: (Cu m).take (j + 1))).map sU := fun z hz hz2 => by
   rw [hs1, <- hz]
   simp only [nV, aLz, aMn, aNs, awM hz2, aMh]
  have hodd : ¬ 2 * j + 1 < l.length - 1 -> m.getD (2 * j + 1) 0 = 0 := fun h => by
   rw [aLl, aLo (by omega)] <;> rfl
  have g2 : 2 * j + 1 < l.length - 1 -> w3.cell? ⟨b, off + (2 * j + 1), none⟩ = some (.int .u8 (m.getD (2 * j + 1) 0 : Nat)) := fun h => by
   have := hcell3 (2 * j + 1) (by omega)
   rw [<- aCy (l := l) (i := 2 * j + 1) (by omega), <- hmg (2 * j + 1) h] at this
   exact this
  generalize m.getD (2 * j) 0 = x at *
  generalize m.getD (2 * j + 1) 0 = y at *
  have t4 : (4 : Int).toNat = 4 := rfl
  have e4 : IntKind.u8.wrap ((x : Int) * 2 ^ (min 4 IntKind.u8.bits)) = ((x * 16 : Nat) : Int) := by
   rw [show min 4 IntKind.u8.bits = 4 from rfl]
   have : (x : Int) * 2 ^ 4 = ((x * 16 : Nat) : Int) := by omega
   rw [this]
   exact xK (by omega) (by omega)
  unfold HS HV Ss Hv
  by_cases h2 : 2 * j + 1 < l.length - 1
  .have d3 : decide (((2 * j + 1 : Nat) : Int) < ((l.length - 1 : Nat) : Int)) = true := by simp only [decide_eq_true_eq]; omega
   have g2 := g2 h2
   have e5 := awV (a := x * 16) (b := y) (by omega) (by omega)
   have e6 : x * 16 ||| y = x * 16 + y := by
    rw [Nat.or_comm]
    have := ayX (x := y) (i := 4) (by omega) x
    rw [show x * 2 ^ 4 = x * 16 from rfl] at this
    rw [this]; omega
   rw [e6] at e5
   simp (disch := omega) only [aD, aS, d2, dA, aK9, bK, e3, aP, aA, gS, d3, aG, g1, aH, pE, t4, e4, g2, LA, e5]
   refine ayW (x := x * 16 + y) o3 (by omega) (by omega) (by omega) fun v4 w4 o4 x4 => ?_
   rw [hcells _ rfl (by omega)] at o4
   unfold yA
   have e7 : ((2 * j : Nat) : Int) + 2 = ((2 * (j + 1) : Nat) : Int) := by omega
   simp (disch := omega) only [aD, bK, e7, aP, aA]
   exact ⟨l.length - 1 + 1 - (j + 1), by omega, j + 1, _, rfl, rfl, by omega, o4, x3.trans x4 fun b hb h => by omega⟩
  .have d3 : decide (((2 * j + 1 : Nat) : Int) < ((l.length - 1 : Nat) : Int)) = false := by simp only [decide_eq_false_iff_not]; omega
   have hy0 := hodd h2
   simp (disch := omega) only [aD, aS, d2, dA, aK9, bK, e3, aP, aA, gS, d3, aE, g1, aH, pE, t4, e4, aG]
   refine ayW (x := x * 16) o3 (by omega) (by omega) (by omega) fun v4 w4 o4 x4 => ?_
   rw [hcells _ (by omega) (by omega)] at o4
   unfold yA
   have e7 : ((2 * j : Nat) : Int) + 2 = ((2 * (j + 1) : Nat) : Int) := by omega
   simp (disch := omega) only [aD, bK, e7, aP, aA]
   exact ⟨l.length - 1 + 1 - (j + 1), by omega, j + 1, _, rfl, rfl, by omega, o4, x3.trans x4 fun b hb h => by omega⟩
 .have d2 : decide (((2 * j : Nat) : Int) < ((l.length - 1 : Nat) : Int)) = false := by simp only [decide_eq_false_iff_not]; omega
  have hjE : j = (Cu m).length := by omega
  rw [aLH (by omega), <- hwr] at o3
  have hwl : (wrB (bT l)).length = j + 1 := by rw [hwr, aLw]; omega
  unfold Ca
  simp (disch := omega) only [aD, aS, d2, aA, aE]
  exact ⟨v', rfl, by rw [hwl]; exact o3, x3⟩
theorem Jt (x : ByteArray) : (bT (fZ x)).length = x.size := by rw [iQ, gM]
theorem afH {x : ByteArray} {i : Nat} (h : i < x.size) : (x[i]'h).toNat = (bT (fZ x)).getD i 0 := by
 rw [aCy (by rw [gM]; exact h), <- QE]
theorem axW {x : ByteArray} {w : aNE} (hl : x.size <= 100000) :
 aT pg CR #[.string x] w (fun r w' => r = .int .i64 (if rM 11 (bT (fZ x)) = true then (dV (bT (fZ x)) : Nat) else -1) /\ w' = w) := by
 refine arD ?_
 have hsz := Jt x
 obtain ⟨l, hlx⟩ : ∃ l, bT (fZ x) = l := ⟨_, rfl⟩
 rw [hlx] at hsz ⊢
 unfold arJ JF JL PB Pz Oz Px Nx
 refine cS.rule (fun m (t : aNF × aNF) w' => ∃ i : Nat, m = x.size - i /\ t = (.int .i64 (dV (l.take i) : Nat), .int .i64 i) /\ i <= x.size /\ rM 11 (l.take i) = true /\ w' = w) x.size
  ⟨0, rfl, by simp [dV], by omega, by simp [rM], rfl⟩ ?_
 rintro m t w1 ⟨i, rfl, rfl, hi, hle, rfl⟩
 unfold F2 Nv
 by_cases hlt : i < x.size
 .have d1 : decide ((i : Int) < (x.size : Int)) = true := by simp; omega
  have hg := afH hlt
  rw [hlx] at hg
  have ht := axU (ns := l) (i := i) (by omega)
  have hwl := HM (rR.1 hle)
  rw [aLn] at hwl
  have hsn : rM 11 (l.take (i + 1)) = (rM 11 (l.take i) && decide (l.getD i 0 <= 11)) := by rw [ht, axP]
  have hwn : dV (l.take (i + 1)) = dV (l.take i) + F8 (l.getD i 0) := by rw [ht, CF, oY] <;> rfl
  have hbad : rM 11 (l.take (i + 1)) = false -> rM 11 l = false := axG
  have hy : l.getD i 0 < 256 := by rw [<- hlx]; exact Qb _ _ (tG (by rw [Jt]; exact hlt))
  generalize l.getD i 0 = y at *
  unfold EZ
  by_cases h11 : 11 < y
  .have d2 : decide ((11 : Int) < (y : Int)) = true := by simp; omega
   have hf := hbad (by rw [hsn, hle, decide_eq_false (by omega)] <;> rfl)
   simp (disch := omega) only [aD, dU, jD, aK9, hg, bK, aP, aA, dF, fE, dE, d2, aG, aS, d1, and_true]
   rw [hf]; simp
  .have d2 : decide ((11 : Int) < (y : Int)) = false := by simp; omega
   have hle1 : rM 11 (l.take (i + 1)) = true := by rw [hsn, hle, decide_eq_true (by omega)] <;> rfl
   have hwp := aB0 (w := y) (by omega)
   by_cases h0 : 0 < y
   .have d3 : decide ((0 : Int) < (y : Int)) = true := by simp; omega
    have e1 : (y : Int) - 1 = ((y - 1 : Nat) : Int) := by omega
    have hpw : F8 y = 2 ^ (y - 1) := by unfold F8; rw [if_neg (by omega)]
    have hpow : ((2 ^ (y - 1) : Nat) : Int) = (2 : Int) ^ (y - 1) := by simp
    have e2 : ((dV (l.take i) : Nat) : Int) + ((2 ^ (y - 1) : Nat) : Int) = ((dV (l.take i) + 2 ^ (y - 1) : Nat) : Int) := by omega
    rw [hpw] at hwp hwn
    simp (disch := omega) only [aD, dU, jD, aK9, hg, bK, aP, aA, dF, fE, e1, dE, d3, aG, d2, aE, aS, d1]
    refine (IV (y - 1) (by omega) w1).mono ?_
    rintro r w2 ⟨rfl, rfl⟩
    rw [<- hpow]
    simp (disch := omega) only [bK, e2, aP, aA, and_true]
    exact ⟨x.size - (i + 1), by omega, i + 1, rfl, by rw [hwn] <;> rfl, by omega, hle1⟩
   .have d3 : decide ((0 : Int) < (y : Int)) = false := by simp; omega
    have hpw : F8 y = 0 := by unfold F8; rw [if_pos (by omega)]
    simp (disch := omega) only [aD, dU, jD, aK9, hg, bK, aP, aA, dF, fE, dE, d3, aE, d2, aS, d1, and_true, aG]
    exact ⟨x.size - (i + 1), by omega, i + 1, rfl, by rw [hwn, hpw] <;> rfl, by omega, hle1⟩
 .have d1 : decide ((i : Int) < (x.size : Int)) = false := by simp; omega
  obtain rfl : i = x.size := by omega
  rw [aLH (by omega)] at *
  unfold FT
  simp (disch := omega) only [aD, dU, aA, aS, d1, and_true, aE]
  rw [hle]; simp
theorem ayO (x : Int) (w : aNE) : aT pg Jr #[.int .i64 x] w (fun r w' => ((∃ d : Nat, d < 20 /\ x = (2 : Int) ^ d /\ r = .int .i64 d) ∨ ((∀ d : Nat, d < 20 -> x ≠ (2 : Int) ^ d) /\ r = .int .i64 (-1))) /\ w' = w) := by
 refine azD ?_
 unfold aA2 Ty Ul TI TF Ub TR TQ
 refine cS.rule (fun m (t : aNF) w' => ∃ d : Nat, m = 20 - d /\ t = .int .i64 d /\ d <= 20 /\ (∀ e : Nat, e < d -> x ≠ (2 : Int) ^ e) /\ w' = w) 20 ⟨0, rfl, rfl, by omega, fun e h => by omega, rfl⟩ ?_
 rintro m t w1 ⟨d, rfl, rfl, hd, hno, rfl⟩
 unfold MD
 by_cases hlt : d < 20
 .have d1 : decide ((d : Int) < 20) = true := by simp; omega
  simp (disch := omega) only [aD, aS, d1, bK, aP, aA, aG]
  refine (IV d (by omega) w1).mono ?_
  rintro r w2 ⟨rfl, rfl⟩
  by_cases he : (2 : Int) ^ d = x
  .have d2 : ((2 : Int) ^ d == x) = true := by simpa using he
   simp (disch := omega) only [dQ, d2, aA, and_true, aG]
   exact .inl ⟨d, hlt, he.symm, rfl⟩
  .have d2 : ((2 : Int) ^ d == x) = false := by simpa using he
   simp (disch := omega) only [dQ, d2, aA, and_true, aE]
   refine ⟨20 - (d + 1), by omega, d + 1, rfl, rfl, by omega, fun e h => ?_⟩
   rcases aLv e d with h' | h'
   .exact hno e h'
   .have : e = d := by omega
    subst this; exact fun h => he h.symm
 .have d1 : decide ((d : Int) < 20) = false := by simp; omega
  unfold Mm
  simp (disch := omega) only [aD, aS, d1, bK, aP, aA, and_true, aE]
  exact .inr (fun e h => hno e (by omega))
theorem aFm {s : Nat} (h0 : 0 < s) (hs : s < 2 ^ 20) {r : aNF} (h : (∃ d : Nat, d < 20 /\ (s : Int) = (2 : Int) ^ d /\ r = .int .i64 d) ∨ ((∀ d : Nat, d < 20 -> (s : Int) ≠ (2 : Int) ^ d) /\ r = .int .i64 (-1))) :
 (2 ^ s.log2 = s /\ r = .int .i64 (s.log2 : Nat)) ∨ (2 ^ s.log2 ≠ s /\ r = .int .i64 (-1)) := by
 rcases h with ⟨d, h1, h2, h3⟩ | ⟨h1, h2⟩
 .have : s = 2 ^ d := by
   have e : ((2 ^ d : Nat) : Int) = (2 : Int) ^ d := by simp
   omega
  subst this
  rw [aNh]
  exact .inl ⟨rfl, h3⟩
 .refine .inr ⟨fun he => ?_, h2⟩
  have hl : s.log2 < 20 := (Nat.log2_lt (by omega)).2 hs
  apply h1 _ hl
  have e : ((2 ^ s.log2 : Nat) : Int) = (2 : Int) ^ s.log2 := by simp
  rw [<- e, he]
theorem aaQ {x : ByteArray} {w : aNE} (hl : x.size <= 100000) :
 aT pg CV #[.string x] w (fun r w' => r = .int .i64 (gQ (bT (fZ x)) : Nat) /\ w' = w) := by
 refine aoI ?_
 have hsz := Jt x
 obtain ⟨l, hlx⟩ : ∃ l, bT (fZ x) = l := ⟨_, rfl⟩
 have hnl := hlx
 rw [hlx] at hsz ⊢
 have no : ¬ (rM 11 l = true /\ 2 <= l.length /\ l.length <= 256 /\ l.getLast? ≠ some 0 /\ 2 ^ (dV l).log2 = dV l /\ (dV l).log2 <= 11 /\ rM (dV l).log2 l = true) -> gQ l = 0 := fun h => by
  unfold gQ; rw [if_neg h]
 unfold arU Oy Ov
 by_cases h2 : x.size < 2
 .have d2 : decide ((x.size : Int) < 2) = true := by simp; omega
  have := no (by omega)
  simp (disch := omega) only [aD, dU, aA, aS, d2, jM, bE, if_true, aG, cK, and_true]
  rw [this] <;> rfl
 have d2 : decide ((x.size : Int) < 2) = false := by simp; omega
 by_cases h3 : 256 < x.size
 .have d3 : decide ((256 : Int) < (x.size : Int)) = true := by simp; omega
  have := no (by omega)
  simp (disch := omega) only [aD, dU, aA, aS, d2, dI, bE, aLb, if_false, bJ, dE, d3, jM, if_true, aG, cK, and_true]
  rw [this] <;> rfl
 have d3 : decide ((256 : Int) < (x.size : Int)) = false := by simp; omega
 have e1 : (x.size : Int) - 1 = ((x.size - 1 : Nat) : Int) := by omega
 have hg := afH (x := x) (i := x.size - 1) (by omega)
 rw [hlx] at hg
 have hlast : l.getLast? = some (l.getD (x.size - 1) 0) := by
  rw [aM2, hsz, aLl, aLg (by omega)] <;> rfl
 have hmem : l.getD (x.size - 1) 0 ∈ l := tG (by omega)
 generalize l.getD (x.size - 1) 0 = y at *
 by_cases h4 : y = 0
 .have d4 : ((y : Int) == 0) = true := by rw [h4] <;> rfl
  have := no (fun h => h.2.2.2.1 (by rw [hlast, h4]))
  simp (disch := omega) only [aD, dU, aA, aS, d2, dI, bE, aLb, if_false, bJ, dE, d3, fE, e1, aP, jD, aK9, hg, dQ, d4, and_true, aG]
  rw [this] <;> rfl
 have d4 : ((y : Int) == 0) = false := beq_eq_false_iff_ne.2 (by omega)
 have hwp := ajR hmem
 have hwx : 1 <= F8 y := by unfold F8; rw [if_neg h4]; exact Nat.one_le_two_pow
 have hlast' : l.getLast? ≠ some 0 := fun h => by rw [hlast] at h; exact h4 (aLA h)
 simp (disch := omega) only [aD, dU, aA, aS, d2, dI, bE, aLb, if_false, bJ, dE, d3, fE, e1, aP, jD, aK9, hg, dQ, d4, and_true, aE]
 refine (axW hl).mono ?_
 rintro r w1 ⟨rfl, rfl⟩
 rw [hnl]
 cases hok : rM 11 l with
 | false =>
   have := no (by rw [hok]; simp)
   simp only [aLb, if_false]
   refine (ayO (-1) w1).mono ?_
   rintro r w2 ⟨hlog, rfl⟩
   have hr : r = .int .i64 (-1) := by
    rcases hlog with ⟨d, _, h, _⟩ | ⟨_, h⟩
    .have : (0 : Int) < (2 : Int) ^ d := Int.pow_pos (by omega)
     omega
    .exact h
   subst hr
   have d5 : decide ((-1 : Int) < 1) = true := rfl
   simp (disch := omega) only [aS, d5, aA, jM, bE, if_true, aG, cK, and_true]
   rw [this] <;> rfl
 | true =>
   have hw := HM (rR.1 hok)
   simp only [if_true]
   refine (ayO _ w1).mono ?_
   rintro r w2 ⟨hlog, rfl⟩
   obtain ⟨s, hs⟩ : ∃ s, dV l = s := ⟨_, rfl⟩
   rw [hs] at no hw hwp hlog
   rcases aFm (by omega) (by omega) hlog with ⟨hp, rfl⟩ | ⟨hp, rfl⟩
   .have hlg : s.log2 < 20 := (Nat.log2_lt (by omega)).2 (by omega)
    by_cases h5 : s.log2 < 1
    .have d5 : decide (((s.log2 : Nat) : Int) < 1) = true := by simp; omega
     have hz : gQ l = 0 := by
      unfold gQ; rw [hs]
      split
      .omega
      .rfl
     simp (disch := omega) only [aS, d5, aA, jM, bE, if_true, aG, cK, and_true]
     rw [hz] <;> rfl
    have d5 : decide (((s.log2 : Nat) : Int) < 1) = false := by simp; omega
    by_cases h6 : 11 < s.log2
    .have d6 : decide ((11 : Int) < ((s.log2 : Nat) : Int)) = true := by simp; omega
     have := no (by omega)
     simp (disch := omega) only [aS, d5, aA, dI, bE, aLb, if_false, bJ, dE, d6, and_true, aG]
     rw [this] <;> rfl
    have d6 : decide ((11 : Int) < ((s.log2 : Nat) : Int)) = false := by simp; omega
    simp (disch := omega) only [aS, d5, aA, dI, bE, aLb, if_false, bJ, dE, d6, and_true, aE]
    unfold NX Ol M5 Pt Ng
    refine cS.rule (fun m (t : aNF) w' => ∃ i : Nat, m = x.size - i /\ t = .int .i64 i /\ i <= x.size /\ (∀ j, j < i -> l.getD j 0 <= s.log2) /\ w' = w2) x.size ⟨0, rfl, rfl, by omega, fun j h => by omega, rfl⟩ ?_
    rintro m t w3 ⟨i, rfl, rfl, hi, hle, rfl⟩
    unfold GQ
    by_cases hlt : i < x.size
    .have d7 : decide ((i : Int) < (x.size : Int)) = true := by simp; omega
     have hgi := afH hlt
     rw [hnl] at hgi
     have hz256 : l.getD i 0 < 256 := by rw [<- hnl]; exact Qb _ _ (tG (by rw [Jt]; exact hlt))
     have hzm : l.getD i 0 ∈ l := tG (by omega)
     generalize hzz : l.getD i 0 = z at *
     by_cases h8 : s.log2 < z
     .have d8 : decide (((s.log2 : Nat) : Int) < (z : Int)) = true := by simp; omega
      have := no (fun h => by have := rR.1 h.2.2.2.2.2.2 z hzm; omega)
      simp (disch := omega) only [aD, dU, jD, aK9, hgi, bK, aP, aA, dF, dE, d8, aG, aS, d7, and_true]
      rw [this] <;> rfl
     .have d8 : decide (((s.log2 : Nat) : Int) < (z : Int)) = false := by simp; omega
      simp (disch := omega) only [aD, dU, jD, aK9, hgi, bK, aP, aA, dF, dE, d8, aE, aS, d7, and_true, aG]
      refine ⟨x.size - (i + 1), by omega, i + 1, rfl, rfl, by omega, fun j hj => ?_⟩
      rcases aLv j i with h' | h'
      .exact hle j h'
      .have : j = i := by omega
       subst this; omega
    .have d7 : decide ((i : Int) < (x.size : Int)) = false := by simp; omega
     have hyes : gQ l = s.log2 := by
      unfold gQ
      rw [hs, if_pos ⟨hok, by omega, by omega, hlast', hp, by omega, rR.2 fun y hy => by
        obtain ⟨j, hj, rfl⟩ := aMD hy
        rw [<- aBu hj]; exact hle j (by omega)⟩]
     unfold Fo
     simp (disch := omega) only [aD, dU, bK, aP, aA, aS, d7, and_true, aE]
     rw [hyes]
   .have := no (fun h => hp h.2.2.2.2.1)
    have d5 : decide ((-1 : Int) < 1) = true := rfl
    simp (disch := omega) only [aS, d5, aA, jM, bE, if_true, aG, cK, and_true]
    rw [this] <;> rfl
theorem aI2 {base i x : Nat} {v : aNF} {cells : List aNF} {w : aNE} (o : sV w base 1 v i cells) (hb : base <= w.heap.size) (hi : i <= 100000) {K : aNF -> aNE -> Prop}
 (hK : ∀ v2 w2, sV w2 base 1 v2 (i + 1) (cells ++ [.int .u8 x]) -> aW w w2 (fun y => base <= y) -> K v2 w2) :
 aD pg (cV 22 1 [(0, .int .u8 x)]) w fun t w => aD pg (lG .append #[22, 22] 22 [v, t]) w fun t' w => K t' w := by
 refine pC (cells := #[.int .u8 x]) (by decide) (by decide) (by kernel_rfl) fun w5 o5 x5 s5 => ?_
 have z5 := x5.size
 refine mJ (m := 1) (news := [.int .u8 x]) (o.ext x5 (fun _ _ h => h)) (o5.cl (off := 0) (l := [.int .u8 x]) (n := 1) rfl (fun i hi => by rw [aLa])) (by simp [one]) (by omega) (by omega) fun v6 w6 o6 x6 => ?_
 exact hK v6 w6 o6 ((x5.mono fun _ _ h => h.elim).seq x6)
theorem aDn {x : ByteArray} {n : Nat} {w : aNE} (hl : x.size <= 10000) (hn : n <= 1000) :
 aT pg Fh #[.string x, .int .i64 n] w (fun r w' => ((x.size < (n + 1) / 2 /\ r = .tuple #[.string ⟨#[]⟩, .int .i64 10]) ∨
  ((n + 1) / 2 <= x.size /\ r = .tuple #[.string ⟨(nV (mQ (bT (fZ x)) n)).toArray⟩, .int .i64 0])) /\ aW w w' eT) := by
 refine aiK ?_
 have hsz := Jt x
 unfold afK HC Ib
 have e1 : (2 : Int) * (x.size : Int) = ((2 * x.size : Nat) : Int) := by omega
 by_cases hsh : x.size < (n + 1) / 2
 .have d1 : decide (((2 * x.size : Nat) : Int) < (n : Int)) = true := by simp only [decide_eq_true_eq]; omega
  simp (disch := omega) only [aD, dU, and_true, aA, oN, e1, aP, aS, d1, aG]
  exact ⟨.inl hsh, aW.refl _ _⟩
 have d1 : decide (((2 * x.size : Nat) : Int) < (n : Int)) = false := by simp only [decide_eq_false_iff_not]; omega
 simp (disch := omega) only [aD, dU, and_true, aA, oN, e1, aP, aS, d1, aE]
 unfold Lk KU LG JN JU
 have hlt := Qb (fZ x)
 refine cS.rule (fun m (t : aNF × aNF) w' => ∃ (i : Nat) (v' : aNF), m = n - i /\ t = (v', .int .i64 i) /\ i <= n /\ sV w' w.heap.size 1 v' i (u8s (mQ (bT (fZ x)) i)) /\ aW w w' eT) n
  ⟨0, _, rfl, rfl, by omega, sV.nil _ _ _, aW.refl _ _⟩ ?_
 rintro m t w1 ⟨i, v', rfl, rfl, hi, o1, x1⟩
 have z1 := x1.size
 unfold Da J5
 by_cases hlt2 : i < n
 .have d2 : decide ((i : Int) < (n : Int)) = true := by simp; omega
  have e3 : (i : Int).tdiv 2 = ((i / 2 : Nat) : Int) := by rw [aLr (by omega)]; omega
  have e4 : (i : Int).tmod 2 = ((i % 2 : Nat) : Int) := by rw [aLB (by omega)]; omega
  have hi2 : i / 2 < x.size := by omega
  have g1 := afH (x := x) (i := i / 2) hi2
  have t2 : ((i / 2 : Nat) : Int).toNat = i / 2 := aK9 _
  have hs := ahL (bT (fZ x)) i
  have hf : VK (bT (fZ x)) i = if i % 2 = 0 then (bT (fZ x)).getD (i / 2) 0 / 16 else (bT (fZ x)).getD (i / 2) 0 % 16 := rfl
  have hc : (bT (fZ x)).getD (i / 2) 0 < 256 := hlt _ (tG (by omega))
  have hcells : u8s (mQ (bT (fZ x)) i) ++ [.int .u8 (VK (bT (fZ x)) i : Nat)] = u8s (mQ (bT (fZ x)) (i + 1)) := by
   rw [hs]; show _ = List.map _ (_ ++ _); rw [aLz] <;> rfl
  generalize (bT (fZ x)).getD (i / 2) 0 = c at *
  generalize VK (bT (fZ x)) i = y at *
  by_cases hev : i % 2 = 0
  .have n2 : (((i % 2 : Nat) : Int) == 0) = true := by rw [hev] <;> rfl
   rw [if_pos hev] at hf
   have e5 : (c : Int).tdiv 16 = (y : Int) := by rw [aLr (by omega)]; omega
   have e6 : IntKind.u8.wrap (y : Int) = (y : Int) := xK (by omega) (by omega)
   simp (disch := omega) only [aD, aS, d2, rD, e4, oR, e3, aP, aA, jD, t2, g1, e5, e6, dQ, n2, aG]
   refine aI2 o1 (by omega) (by omega) fun v2 w2 o2 x2 => ?_
   rw [hcells] at o2
   unfold Ae
   simp (disch := omega) only [aD, bK, aP, aA]
   exact ⟨n - (i + 1), by omega, i + 1, _, rfl, rfl, by omega, o2, x1.trans x2 fun b hb h => by omega⟩
  .have n2 : (((i % 2 : Nat) : Int) == 0) = false := beq_eq_false_iff_ne.2 (by omega)
   rw [if_neg hev] at hf
   have e5 : (c : Int).tmod 16 = (y : Int) := by rw [aLB (by omega)]; omega
   have e6 : IntKind.u8.wrap (y : Int) = (y : Int) := xK (by omega) (by omega)
   simp (disch := omega) only [aD, aS, d2, rD, e4, oR, e3, aP, aA, jD, t2, g1, e5, dQ, n2, aE, aG]
   refine aI2 o1 (by omega) (by omega) fun v2 w2 o2 x2 => ?_
   rw [hcells] at o2
   unfold Ae
   simp (disch := omega) only [aD, bK, aP, aA]
   exact ⟨n - (i + 1), by omega, i + 1, _, rfl, rfl, by omega, o2, x1.trans x2 fun b hb h => by omega⟩
 .have d2 : decide ((i : Int) < (n : Int)) = false := by simp; omega
  obtain rfl : i = n := by omega
  unfold C2
  rw [<- WB fun y hy => by have := aeD hlt i y hy; omega] at o1
  have hb1 : Bs w1 v' (nV (mQ (bT (fZ x)) i)) := o1.sl
  have hcv := iH hb1
  simp (disch := omega) only [aD, aS, d2, rD, oR, aA, dQ, hcv, and_true, aE]
  exact ⟨.inr (by omega), x1⟩
def ayC (x : ByteArray) (o : Option Nat) (r : aNF) : Prop := match o with
 | none => r = .tuple #[.string ⟨#[]⟩, .int .i64 11]
 | some k => ∃ y : ByteArray, fZ y = fZ x ++ [UInt8.ofNat k] /\ r = .tuple #[.string y, .int .i64 0]
theorem aDI {x : ByteArray} {w : aNE} (hl : x.size <= 100000) :
 aT pg I3 #[.string x] w (fun r w' => ayC x (tX (bT (fZ x))) r /\ aW w w' eT) := by
 refine apH ?_
 have hsz := Jt x
 obtain ⟨l, hnl⟩ : ∃ l, bT (fZ x) = l := ⟨_, rfl⟩
 rw [hnl] at hsz ⊢
 have no : ¬ (rM 11 l = true /\ 1 <= l.length /\ l.length <= 255 /\ 0 < dV l /\ bl (dV l) <= 11 /\ 2 ^ (2 ^ bl (dV l) - dV l).log2 = 2 ^ bl (dV l) - dV l) -> tX l = none := fun h => by
  unfold tX; rw [if_neg h]
 unfold arW Oi Oj
 refine (axW hl).mono ?_
 rintro r w1 ⟨rfl, rfl⟩
 rw [hnl]
 rcases aMv x.size with h0 | h0
 .have hx : x = ⟨#[]⟩ := XW (aLI.1 (by rw [gM, h0]))
  have := no (by omega)
  subst hx
  simp (disch := omega) only [aD, zX, ahH, aA, jM, bE, if_true, aG, cK]
  rw [this]; exact ⟨rfl, aW.refl _ _⟩
 have hne := aoO h0
 by_cases h3 : 255 < x.size
 .have d3 : decide ((255 : Int) < (x.size : Int)) = true := by simp; omega
  have := no (by omega)
  simp (disch := omega) only [aD, zX, hne, aA, dI, bE, aLb, if_false, bJ, dU, dE, d3, jM, if_true, aG, cK]
  rw [this]; exact ⟨rfl, aW.refl _ _⟩
 have d3 : decide ((255 : Int) < (x.size : Int)) = false := by simp; omega
 cases hok : rM 11 l with
 | false =>
   have := no (by rw [hok]; simp)
   have d4 : decide ((-1 : Int) < 1) = true := rfl
   simp only [aLb, if_false]
   simp (disch := omega) only [aD, zX, hne, aA, dI, bE, aLb, if_false, bJ, dU, dE, d3, aS, d4, aG]
   rw [this]; exact ⟨rfl, aW.refl _ _⟩
 | true =>
   have hw := HM (rR.1 hok)
   simp only [if_true]
   obtain ⟨s, hs⟩ : ∃ s, dV l = s := ⟨_, rfl⟩
   rw [hs] at no hw ⊢
   by_cases h4 : s < 1
   .have d4 : decide ((s : Int) < 1) = true := by simp; omega
    have := no (by omega)
    simp (disch := omega) only [aD, zX, hne, aA, dI, bE, aLb, if_false, bJ, dU, dE, d3, aS, d4, aG]
    rw [this]; exact ⟨rfl, aW.refl _ _⟩
   have d4 : decide ((s : Int) < 1) = false := by simp; omega
   have hbl19 : bl s <= 19 := wO (by omega)
   have hlt := WI s
   have hle := Zj (k := s) (by omega)
   have hbl0 := NR (k := s) (by omega)
   simp (disch := omega) only [aD, zX, hne, aA, dI, bE, aLb, if_false, bJ, dU, dE, d3, aS, d4, aE]
   unfold PA M9 OW
   refine cS.rule (fun m (t : aNF) w' => ∃ d : Nat, m = bl s - d /\ t = .int .i64 d /\ 1 <= d /\ d <= bl s /\ w' = w1) (bl s - 1) ⟨1, rfl, rfl, by omega, by omega, rfl⟩ ?_
   rintro m t w2 ⟨d, rfl, rfl, hd1, hd2, rfl⟩
   unfold EN
   refine (IV d (by omega) w2).mono ?_
   rintro r w3 ⟨rfl, rfl⟩
   have hpow : ((2 ^ d : Nat) : Int) = (2 : Int) ^ d := by simp
   rw [<- hpow]
   by_cases hq : d < bl s
   .have hp : 2 ^ d <= 2 ^ (bl s - 1) := aLj (by omega) (by omega)
    have d5 : decide (((2 ^ d : Nat) : Int) <= (s : Int)) = true := by simp only [decide_eq_true_eq]; omega
    simp (disch := omega) only [aD, Bi, d5, bK, aP, aA, and_true, aG]
    exact ⟨bl s - (d + 1), by omega, d + 1, rfl, rfl, by omega, by omega⟩
   .have hde : d = bl s := by omega
    rw [<- hde] at no hlt hle
    have d5 : decide (((2 ^ d : Nat) : Int) <= (s : Int)) = false := by simp only [decide_eq_false_iff_not]; omega
    unfold GD
    simp (disch := omega) only [aD, Bi, d5, bK, aP, aA, dE, bE, and_true, aE]
    refine (IV d (by omega) w3).mono ?_
    rintro r w4 ⟨rfl, rfl⟩
    rw [<- hpow]
    have hp20 : 2 ^ d <= 2 ^ 19 := aLj (by omega) (by omega)
    have e1 : ((2 ^ d : Nat) : Int) - (s : Int) = ((2 ^ d - s : Nat) : Int) := by omega
    obtain ⟨q, hqq⟩ : ∃ q, 2 ^ d - s = q := ⟨_, rfl⟩
    rw [hqq] at no e1
    simp (disch := omega) only [fE, e1, aP, aA]
    refine (ayO _ w4).mono ?_
    rintro r w5 ⟨hlog, rfl⟩
    by_cases h6 : 11 < d
    .have d6 : decide ((11 : Int) < (d : Int)) = true := by simp; omega
     have := no (by omega)
     obtain ⟨kr, hkr⟩ : ∃ kr : Int, r = .int .i64 kr := by
      rcases hlog with ⟨e, _, _, h⟩ | ⟨_, h⟩
      .exact ⟨_, h⟩
      .exact ⟨_, h⟩
     subst hkr
     simp (disch := omega) only [d6, jM, if_true, bK, aA, eS, aG, cK]
     rw [this]; exact ⟨rfl, aW.refl _ _⟩
    have d6 : decide ((11 : Int) < (d : Int)) = false := by simp; omega
    rcases aFm (by omega) (by omega) hlog with ⟨hp, rfl⟩ | ⟨hp, rfl⟩
    .have hlg : q.log2 < 20 := (Nat.log2_lt (by omega)).2 (by omega)
     have d7 : decide (((q.log2 : Nat) : Int) < 0) = false := by simp
     have hyes : tX l = some (q.log2 + 1) := by
      unfold tX
      rw [hs, <- hde, hqq, if_pos ⟨hok, by omega, by omega, by omega, by omega, hp⟩]
     have e2 : ((q.log2 : Nat) : Int) + 1 = ((q.log2 + 1 : Nat) : Int) := by omega
     have e8 : IntKind.u8.wrap ((q.log2 + 1 : Nat) : Int) = ((q.log2 + 1 : Nat) : Int) := xK (by omega) (by omega)
     rw [hyes]
     simp (disch := omega) only [d6, dI, aLb, if_false, bK, e2, aP, aA, eS, e8, bJ, aS, d7, aE]
     refine pC (cells := #[.int .u8 (q.log2 + 1 : Nat)]) (by decide) (by decide) (by kernel_rfl) fun w6 o6 x6 s6 => ?_
     have hb6 : Bs w6 (.slice (some ⟨w5.heap.size, 0, none⟩) 1 1) [UInt8.ofNat (q.log2 + 1)] := by
      refine ⟨_, _, _, rfl, rfl, aLm _, fun _ => ⟨_, _, rfl, fun i hi => ?_⟩⟩
      rw [o6.cell, aLa, aMn, aNs, awM (by omega)]
     have hcv := iH hb6
     have hcat := aDM (P := pg) (t := 9) (ox := .tmp 0) (oy := .tmp 0) (w := w6) x ⟨([UInt8.ofNat (q.log2 + 1)] : List UInt8).toArray⟩ (by
      have : (⟨([UInt8.ofNat (q.log2 + 1)] : List UInt8).toArray⟩ : ByteArray).size = 1 := rfl
      omega)
     have hsz1 : (⟨([UInt8.ofNat (q.log2 + 1)] : List UInt8).toArray⟩ : ByteArray).size = 1 := rfl
     simp (disch := omega) only [hcv, aA, aDM]
     refine ⟨⟨_, ?_, rfl⟩, x6⟩
     rw [axA] <;> rfl
    .have := no (fun h => hp h.2.2.2.2.2)
     have d7 : decide ((-1 : Int) < 0) = true := rfl
     simp (disch := omega) only [d6, dI, aLb, if_false, bK, aP, aA, eS, xK, bJ, aS, d7, aG]
     rw [this]; exact ⟨rfl, aW.refl _ _⟩
def amL (o : Except Int (List Nat)) (n : Nat) : Except Int (List UInt8 × Nat) := match o with
 | .error e => .error e
 | .ok m => match tX m with
   | none => .error 11
   | some k => .ok (nV m ++ [UInt8.ofNat k], 1 + n)
def wtR (l : List UInt8) : Except Int (List UInt8 × Nat) := match l with
 | [] => .error 10
 | h :: rest =>
   if 128 <= h.toNat then (if rest.length < (h.toNat - 127 + 1) / 2 then .error 10 else amL (.ok (mQ (bT rest) (h.toNat - 127))) ((h.toNat - 127 + 1) / 2))
   else if rest.length < h.toNat then .error 10 else amL (vT (rest.take h.toNat)) h.toNat
theorem avU (m : List Nat) (n : Nat) : amL (.ok m) n = match tX m with
 | none => .error 11
 | some k => .ok (nV m ++ [UInt8.ofNat k], 1 + n) := rfl
theorem Wo (h : UInt8) (rest : List UInt8) : wtR (h :: rest) = if 128 <= h.toNat then (if rest.length < (h.toNat - 127 + 1) / 2 then .error 10 else amL (.ok (mQ (bT rest) (h.toNat - 127))) ((h.toNat - 127 + 1) / 2))
 else if rest.length < h.toNat then .error 10 else amL (vT (rest.take h.toNat)) h.toNat := rfl
def aII (w : aNE) (base : Nat) (o : Except Int (List UInt8 × Nat)) (r : aNF) : Prop := match o with
 | .error e => r = .tuple #[.slice none 0 0, .int .i64 0, .int .i64 e]
 | .ok (m, n) => ∃ v, r = .tuple #[v, .int .i64 (n : Nat), .int .i64 0] /\ sV w base 1 v m.length (m.map sU)
def avN (o : Except Int (List UInt8 × Nat)) (r : aNF) : Prop := match o with
 | .error e => r = .tuple #[.string ⟨#[]⟩, .int .i64 0, .int .i64 e]
 | .ok (m, n) => r = .tuple #[.string ⟨m.toArray⟩, .int .i64 (n : Nat), .int .i64 0]
theorem VP {l : List UInt8} {e : Int} (h : vT l = .error e) : e ≠ 0 := by
 unfold vT at h
 split at h
 .rename_i hr
  cases h
  exact apN hr
 .split at h
  .cases h; decide
  .split at h
   .cases h; decide
   .split at h
    .cases h; decide
    .cases h
theorem aFT {m : List Nat} {n : Nat} {v : aNF} {w0 w : aNE} (hb : Bs w v (nV m)) (hm : ∀ x ∈ m, x < 256) (hml : m.length <= 1000) (hn : n <= 1000) (x0 : aW w0 w eT) {RR : aNF -> aNE -> Prop}
 (key : ∀ r w', aII w' w0.heap.size (amL (.ok m) n) r -> aW w0 w' eT -> RR r w') : qF RR v (.int .i64 n) (.int .i64 0) w := by
 have n1 : ((0 : Int) != 0) = false := rfl
 have hbl : (nV m).length = m.length := by simp
 obtain ⟨av, cv, hv, _⟩ := hb.len
 rw [aLk, hbl] at hv
 subst hv
 unfold qF
 simp (disch := omega) only [aD, cY, n1, bK, aP, aA, aE]
 refine (aET hb (by rw [hbl]; omega)).mono ?_
 rintro r w2 ⟨hwo, x2⟩
 rw [XU hm] at hwo
 rw [avU] at key
 have z0 := x0.size
 cases hw : tX m with
 | none =>
   rw [hw] at hwo key
   obtain rfl := hwo
   have n2 : ((11 : Int) != 0) = true := rfl
   simp (disch := omega) only [pT, pS, aA, cY, n2, aG]
   exact key _ _ rfl (x0.seq x2)
 | some k =>
   rw [hw] at hwo key
   obtain ⟨v2, rfl, o2⟩ := hwo
   have e5 : (1 : Int) + ((n : Nat) : Int) = ((1 + n : Nat) : Int) := by omega
   simp (disch := omega) only [pT, pS, e5, aA, cY, n1, aE]
   refine key _ _ ⟨v2, rfl, ?_⟩ (x0.seq x2)
   have := o2.lower (a := w0.heap.size) z0
   rw [show (nV m ++ [UInt8.ofNat k]).length = (nV m).length + 1 from by simp]
   exact this
theorem afP {m : List Nat} {n : Nat} {w0 w : aNE} (hm : ∀ x ∈ m, x < 256) (hml : m.length <= 1000) (hn : n <= 1000) (x0 : aW w0 w eT) {RR : aNF -> aNE -> Prop}
 (key : ∀ r w', avN (amL (.ok m) n) r -> aW w0 w' eT -> RR r w') : uM RR (.string ⟨(nV m).toArray⟩) (.int .i64 0) (.int .i64 n) w := by
 have n1 : ((0 : Int) != 0) = false := rfl
 have hlm : fZ (⟨(nV m).toArray⟩ : ByteArray) = nV m := acU _
 have hzm : (⟨(nV m).toArray⟩ : ByteArray).size = m.length := by rw [<- gM, hlm, aLk]
 unfold uM
 simp (disch := omega) only [aD, cY, n1, bK, aP, aA, aE]
 refine (aDI (x := ⟨(nV m).toArray⟩) (by omega)).mono ?_
 rintro r w2 ⟨hwo, x2⟩
 rw [hlm, XU hm] at hwo
 rw [avU] at key
 unfold ayC at hwo
 cases hw : tX m with
 | none =>
   rw [hw] at hwo key
   obtain rfl := hwo
   have n2 : ((11 : Int) != 0) = true := rfl
   simp (disch := omega) only [pT, pS, aA, cY, n2, aG]
   exact key _ _ rfl (x0.seq x2)
 | some k =>
   rw [hw] at hwo key
   obtain ⟨y, hy, rfl⟩ := hwo
   rw [hlm] at hy
   obtain rfl : y = ⟨(nV m ++ [UInt8.ofNat k]).toArray⟩ := XW (by rw [hy] <;> rfl)
   have e5 : (1 : Int) + ((n : Nat) : Int) = ((1 + n : Nat) : Int) := by omega
   simp (disch := omega) only [pT, pS, e5, aA, cY, n1, aE]
   exact key _ _ rfl (x0.seq x2)
theorem aHN {v : aNF} {l : List UInt8} {w : aNE} (h : Bs w v l) (hl : l.length <= 10000) :
 aT pg BF #[v] w (fun r w' => aII w' w.heap.size (wtR l) r /\ aW w w' eT) := by
 cases l with
 | nil =>
   refine FB ?_
   obtain ⟨a, c, rfl, _⟩ := h.len
   unfold Md Aa Ai
   have n0 : ((([] : List aNF).length : Int) == 0) = true := rfl
   simp (disch := omega) only [aD, aQ, aA, dQ]
   exact ⟨rfl, aW.refl _ _⟩
 | cons hd rest =>
   have hhd : hd.toNat < 256 := aLO _
   have hof : UInt8.ofNat hd.toNat = hd := by simp
   rw [aLw] at hl
   rw [Wo]
   by_cases h128 : 128 <= hd.toNat
   .rw [if_pos h128]
    refine (aBP (h := hd.toNat) (rest := rest) h (by rw [hof]) h128 hhd (by omega)).mono ?_
    rintro r w' ⟨hdo, x⟩
    refine ⟨?_, x⟩
    unfold Po at hdo
    by_cases hsh : rest.length < (hd.toNat - 127 + 1) / 2
    .rw [if_pos hsh] at hdo ⊢; exact hdo
    .rw [if_neg hsh] at hdo ⊢
     rw [avU]
     cases hw : tX (mQ (bT rest) (hd.toNat - 127)) with
     | none => rw [hw] at hdo; exact hdo
     | some k =>
       rw [hw] at hdo
       obtain ⟨v', rfl, o⟩ := hdo
       refine ⟨v', rfl, ?_⟩
       rw [show (nV (mQ (bT rest) (hd.toNat - 127)) ++ [UInt8.ofNat k]).length = hd.toNat - 127 + 1 from by simp [BQ]]
       exact o
   rw [if_neg h128]
   refine FB ?_
   obtain ⟨RR, hRR⟩ : ∃ RR : aNF -> aNE -> Prop, RR = fun r w' => aII w' w.heap.size (if rest.length < hd.toNat then .error 10 else amL (vT (rest.take hd.toNat)) hd.toNat) r /\ aW w w' eT := ⟨_, rfl⟩
   rw [<- hRR]
   have key : ∀ r w', aII w' w.heap.size (if rest.length < hd.toNat then .error 10 else amL (vT (rest.take hd.toNat)) hd.toNat) r -> aW w w' eT -> RR r w' := fun r w' h1 h2 => by rw [hRR]; exact ⟨h1, h2⟩
   obtain ⟨b, off, c, rfl, hc, hcell⟩ := O6 h (by simp)
   have g0 := hcell 0 (by simp)
   rw [aMF] at g0
   have hsub := h.drop' (k := 1) (by simp)
   rw [aMn, aMs, aLf, aLw, aL9] at hsub
   have hsub : Bs w _ rest := hsub
   rw [aLw] at hc ⊢
   generalize hd.toNat = q at *
   have n0 : (((rest.length + 1 : Nat) : Int) == 0) = false := beq_eq_false_iff_ne.2 (by omega)
   have d1 : decide ((128 : Int) <= (q : Int)) = false := by simp; omega
   have t0 : (0 : Int).toNat = 0 := rfl
   have t1 : (1 : Int).toNat = 1 := rfl
   have e11 : rest.length + 1 - 1 = rest.length := by omega
   unfold Md Aa Ai
   by_cases hsh : rest.length < q
   .rw [if_pos hsh] at key
    have d2 : decide ((rest.length : Int) < (q : Int)) = true := by simp; omega
    simp (disch := omega) only [aD, aQ, dA, t0, eE, t1, e11, aA, gS, dQ, n0, g0, aH, dF, aP, nF, d1, fE, bK, oR, aS, d2, aG, aE]
    have n1 : ((10 : Int) != 0) = true := rfl
    unfold qF
    simp (disch := omega) only [aD, cY, n1, bK, aP, aA, aG]
    exact key _ _ rfl (aW.refl _ _)
   .rw [if_neg hsh] at key
    have d2 : decide ((rest.length : Int) < (q : Int)) = false := by simp; omega
    have tq : (q : Int).toNat = q := aK9 _
    have hcl : rest.length <= c - 1 := by omega
    have htk := hsub.take' (k := q) (by omega)
    rw [<- aMZ] at htk
    have htk : Bs w _ (rest.take q) := htk
    have htl : (rest.take q).length = q := by rw [aLn]; omega
    simp (disch := omega) only [aD, aQ, dA, t0, eE, t1, e11, aA, gS, dQ, n0, g0, aH, dF, aP, nF, d1, fE, bK, oR, aS, d2, jH, tq, aE]
    refine (aHO htk (by omega)).mono ?_
    rintro r w2 ⟨hst, x2⟩
    cases hs : vT (rest.take q) with
    | error e =>
      rw [hs] at hst key
      have he := VP hs
      obtain rfl := hst
      have n1 : (e != 0) = true := by simp [he]
      unfold qF
      simp (disch := omega) only [pT, pS, aD, bK, aP, aA, cY, n1, aG]
      exact key _ _ rfl x2
    | ok m =>
      rw [hs] at hst key
      obtain ⟨hm1, hm2⟩ := axY hs
      obtain ⟨v2, rfl, o2⟩ := hst
      have hb2 : Bs w2 v2 (nV m) := o2.sl
      simp (disch := omega) only [pT, pS, aA]
      exact aFT hb2 hm1 (by omega) (by omega) x2 key
theorem aDS {x : ByteArray} {w : aNE} (hl : x.size <= 10000) :
 aT pg Mx #[.string x] w (fun r w' => avN (wtR (fZ x)) r /\ aW w w' eT) := by
 refine auR ?_
 obtain ⟨RR, hRR⟩ : ∃ RR : aNF -> aNE -> Prop, RR = fun r w' => avN (wtR (fZ x)) r /\ aW w w' eT := ⟨_, rfl⟩
 rw [<- hRR]
 have key : ∀ r w', avN (wtR (fZ x)) r -> aW w w' eT -> RR r w' := fun r w' h1 h2 => by rw [hRR]; exact ⟨h1, h2⟩
 have hll := gM x
 unfold awO Rc RO
 cases hx : fZ x with
 | nil =>
   rw [hx] at hll key
   have hxe : x = ⟨#[]⟩ := XW hx
   subst hxe
   simp (disch := omega) only [aD, zX, ahH, dU, aA, fE, aP, aG]
   exact key _ _ rfl (aW.refl _ _)
 | cons hd rest =>
   have hhd : hd.toNat < 256 := aLO _
   rw [hx, aLw] at hll
   have hen := aoO (x := x) (by omega)
   have g0 : (x[0]'(by omega)).toNat = hd.toNat := by
    have := QE x 0 (by omega)
    rw [this]; simp only [hx, aMF]
   have t0 : (0 : Int).toNat = 0 := rfl
   have t1 : (1 : Int).toNat = 1 := rfl
   rw [hx] at key
   rw [Wo] at key
   have le1 : fZ (x.extract 1 x.size) = rest := by
    rw [Bz, hx, aMs, aLf, aLH (by omega)]
   have lz1 : (x.extract 1 x.size).size = rest.length := by rw [<- gM, le1]
   generalize hd.toNat = q at *
   by_cases h128 : 128 <= q
   .rw [if_pos h128] at key
    have d1 : decide ((128 : Int) <= (q : Int)) = true := by simp; omega
    have e1 : (q : Int) - 127 = ((q - 127 : Nat) : Int) := by omega
    have e2 : ((q - 127 : Nat) : Int) + 1 = ((q - 127 + 1 : Nat) : Int) := by omega
    have e3 : ((q - 127 + 1 : Nat) : Int).tdiv 2 = (((q - 127 + 1) / 2 : Nat) : Int) := by rw [aLr (by omega)]; omega
    simp (disch := omega) only [aD, zX, hen, jD, t0, g0, jY, t1, aA, dU, fE, aP, dF, nF, d1, e1, bK, e2, oR, e3, aS, aG, aE]
    refine (aDn (x := x.extract 1 x.size) (n := q - 127) (by omega) (by omega)).mono ?_
    rintro r w2 ⟨hr, x2⟩
    rw [le1, lz1] at hr
    rcases hr with ⟨hsh, rfl⟩ | ⟨hsh, rfl⟩
    .rw [if_pos hsh] at key
     have n1 : ((10 : Int) != 0) = true := rfl
     unfold uM
     simp (disch := omega) only [pT, pS, aD, bK, aP, aA, cY, n1, aG]
     exact key _ _ rfl x2
    .rw [if_neg (by omega)] at key
     simp (disch := omega) only [pT, pS, aA]
     exact afP (m := mQ (bT rest) (q - 127)) (fun y hy => by have := aeD (Qb rest) _ y hy; omega) (by rw [BQ]; omega) (by omega) x2 key
   .rw [if_neg h128] at key
    have d1 : decide ((128 : Int) <= (q : Int)) = false := by simp; omega
    have e1 : (x.size : Int) - 1 = ((rest.length : Nat) : Int) := by omega
    by_cases hsh : rest.length < q
    .rw [if_pos hsh] at key
     have d2 : decide ((rest.length : Int) < (q : Int)) = true := by simp; omega
     simp (disch := omega) only [aD, zX, hen, jD, t0, g0, jY, t1, aA, dU, fE, e1, aP, dF, nF, d1, bK, oR, aS, d2, aG, aE]
     have n1 : ((10 : Int) != 0) = true := rfl
     unfold uM
     simp (disch := omega) only [aD, cY, n1, bK, aP, aA, aG]
     exact key _ _ rfl (aW.refl _ _)
    .rw [if_neg hsh] at key
     have d2 : decide ((rest.length : Int) < (q : Int)) = false := by simp; omega
     have e2 : (1 : Int) + (q : Int) = ((1 + q : Nat) : Int) := by omega
     have tq : ((1 + q : Nat) : Int).toNat = 1 + q := aK9 _
     have le2 : fZ (x.extract 1 (1 + q)) = rest.take q := by
      rw [Bz, hx, aMs, aLf, Nat.add_sub_cancel_left]
     have lz2 : (x.extract 1 (1 + q)).size = q := by rw [<- gM, le2, aLn]; omega
     simp (disch := omega) only [aD, zX, hen, jD, t0, g0, jY, t1, aA, dU, fE, e1, aP, dF, nF, d1, bK, oR, aS, d2, e2, jE, tq, aE]
     refine (aDh (x := x.extract 1 (1 + q)) (by omega)).mono ?_
     rintro r w2 ⟨hst, x2⟩
     rw [le2] at hst
     cases hs : vT (rest.take q) with
     | error e =>
       rw [hs] at hst key
       have he := VP hs
       obtain rfl := hst
       have n1 : (e != 0) = true := by simp [he]
       unfold uM
       simp (disch := omega) only [pT, pS, aD, bK, aP, aA, cY, n1, aG]
       exact key _ _ rfl x2
     | ok m =>
       rw [hs] at hst key
       obtain ⟨hm1, hm2⟩ := axY hs
       obtain rfl := hst
       simp (disch := omega) only [pT, pS, aA]
       exact afP hm1 (by omega) (by omega) x2 key
def CE (H : LH) : Nat := if H.kind = 0 then H.count else if H.kind = 1 then 1 else H.bytes
def auZ (H : LH) (b old : List UInt8) : Except Int (List UInt8 × List UInt8) :=
 if H.kind = 2 then (match wtR b with | .error e => .error e | .ok p => .ok (p.1, b.drop p.2)) else .ok (old, b)
def TU (H : LH) (wl b : List UInt8) : Except Int (List Nat) := if H.form = 0 then U7 wl b H.count else JA wl b H.count
def akA (H : LH) (wl b : List UInt8) : Except Int (List UInt8 × List UInt8 × Nat) :=
 if wl.length = 0 then .error 11 else match TU H wl b with | .error e => .error e | .ok m => .ok (nV m, wl, H.size + CE H)
def adY (H : LH) (b old : List UInt8) : Except Int (List UInt8 × List UInt8 × Nat) :=
 if H.kind = 0 then .ok (b, old, H.size + CE H)
 else if H.kind = 1 then .ok (List.replicate H.count (b.headD 0), old, H.size + CE H)
 else match auZ H b old with | .error e => .error e | .ok p => akA H p.1 p.2
def aAm (H : LH) (l old : List UInt8) : Except Int (List UInt8 × List UInt8 × Nat) :=
 if (l.drop H.size).length < CE H then .error 10 else adY H ((l.drop H.size).take (CE H)) old
def Yy (l old : List UInt8) : Except Int (List UInt8 × List UInt8 × Nat) := if (qI l).2 = 0 then aAm (qI l).1 l old else .error (qI l).2
theorem aG7 {l : List UInt8} {p : List UInt8 × Nat} (h : wtR l = .ok p) : p.1.length <= 256 /\ 2 <= p.1.length /\ p.2 <= l.length := by
 have fin : ∀ {o : Except Int (List Nat)} {n : Nat}, amL o n = .ok p -> p.1.length <= 256 /\ 2 <= p.1.length /\ p.2 = 1 + n := by
  intro o n h
  unfold amL at h
  cases o with
  | error e => cases h
  | ok m =>
    simp only at h
    cases hw : tX m with
    | none => rw [hw] at h; cases h
    | some k =>
      rw [hw] at h; cases h
      have := aBX hw
      have hb : (nV m).length = m.length := by simp [nV]
      simp only [aLh, hb, aLw, List.length_nil]
      exact ⟨by omega, by omega, trivial⟩
 cases l with
 | nil => cases h
 | cons q rest =>
   rw [Wo] at h
   rw [aLw]
   by_cases h1 : 128 <= q.toNat
   .rw [if_pos h1] at h
    by_cases h2 : rest.length < (q.toNat - 127 + 1) / 2
    .rw [if_pos h2] at h; cases h
    .rw [if_neg h2] at h
     have := fin h
     omega
   .rw [if_neg h1] at h
    by_cases h2 : rest.length < q.toNat
    .rw [if_pos h2] at h; cases h
    .rw [if_neg h2] at h
     have := fin h
     omega
theorem aFf {l : List UInt8} {e : Int} (h : wtR l = .error e) : e ≠ 0 := by
 have fin : ∀ {o : Except Int (List Nat)} {n : Nat}, (∀ e, o = .error e -> e ≠ 0) -> amL o n = .error e -> e ≠ 0 := by
  intro o n ho h
  unfold amL at h
  cases o with
  | error e => cases h; exact ho _ rfl
  | ok m =>
    simp only at h
    cases hw : tX m with
    | none => rw [hw] at h; cases h; decide
    | some k => rw [hw] at h; cases h
 cases l with
 | nil => cases h; decide
 | cons q rest =>
   rw [Wo] at h
   by_cases h1 : 128 <= q.toNat
   .rw [if_pos h1] at h
    by_cases h2 : rest.length < (q.toNat - 127 + 1) / 2
    .rw [if_pos h2] at h; cases h; decide
    .rw [if_neg h2] at h
     exact fin (fun e h => by cases h) h
   .rw [if_neg h1] at h
    by_cases h2 : rest.length < q.toNat
    .rw [if_pos h2] at h; cases h; decide
    .rw [if_neg h2] at h
     exact fin (fun e h => VP h) h
theorem aCZ {C : List (Nat × Nat)} {e : Int} : ∀ {r : List (Nat × Nat)} {l : List UInt8}, EI C l r = .error e -> e ≠ 0
 | [], l, h => by cases h
 | (k, n) :: r, l, h => by
   rw [EI] at h
   cases h1 : rU C (l.take k) n with
   | error e' =>
     rw [h1] at h; cases h
     have := XR h1
     omega
   | ok m =>
     rw [h1] at h
     simp only at h
     cases h2 : EI C (l.drop k) r with
     | error e' => rw [h2] at h; cases h; exact aCZ h2
     | ok m' => rw [h2] at h; cases h
theorem aCU {H : LH} {wl b : List UInt8} {e : Int} (h : TU H wl b = .error e) : e ≠ 0 := by
 unfold TU at h
 by_cases h1 : H.form = 0
 .rw [if_pos h1] at h
  unfold U7 at h
  split at h
  .cases h; decide
  .have := XR h; omega
 .rw [if_neg h1] at h
  unfold JA at h
  split at h
  .cases h; decide
  .split at h
   .cases h; decide
   .split at h
    .cases h; decide
    .split at h
     .cases h; decide
     .exact aCZ h
theorem aFZ {lv v : aNF} {wl l : List UInt8} {H : LH} {w : aNE} (hw : Bs w lv wl) (hwl : wl.length <= 100000) (h : Bs w v l) (hl : l.length <= 1000000) (hn : H.count <= 131072) (hf : H.form < 4) :
 aT pg zM #[lhV H, lv, v] w (fun r w' => T8 w' w.heap.size (TU H wl l) r /\ aW w w' eT) := by
 refine VE ?_
 unfold Sx Cy
 refine nO fun w1 o1 x1 s1 => ?_
 have o1 : eM w1 w.heap.size [.int .i64 (H.kind : Nat), .int .i64 (H.form : Nat), .int .i64 (H.size : Nat), .int .i64 (H.count : Nat), .int .i64 (H.bytes : Nat)] := o1
 have z1 := x1.size
 have k1 := o1.cell (off := 1)
 have k3 := o1.cell (off := 3)
 simp only [aK7, aK8] at k1 k3
 have hw1 := hw.ext x1 (bZ _)
 have h1 := h.ext x1 (bZ _)
 unfold TU
 have fin : ∀ {o : Except Int (List Nat)} {r : aNF} {w2 : aNE}, T8 w2 w1.heap.size o r -> aW w1 w2 eT →
     aD pg (bQ r 0) w2 fun t16 MK => aD pg (bQ r 1) MK fun t17 w_2 => (T8 w_2 w.heap.size o (.tuple #[t16, t17]) /\ aW w w_2 eT) := by
  intro o r w2 hs x2
  cases o with
  | error e =>
    obtain rfl : r = .tuple #[.slice none 0 0, .int .i64 e] := hs
    simp (disch := omega) only [aD, pT, pS, aA]
    exact ⟨rfl, x1.seq x2⟩
  | ok m =>
    obtain ⟨v', rfl, o⟩ := hs
    simp (disch := omega) only [aD, pT, pS, aA]
    exact ⟨⟨v', rfl, Aq o z1⟩, x1.seq x2⟩
 by_cases h0 : H.form = 0
 .have n0 : ((H.form : Int) == 0) = true := by rw [h0] <;> rfl
  rw [if_pos h0]
  simp (disch := omega) only [aD, cB, aLa, bP, aA, bO, k1, aH, dQ, n0, k3, aG]
  exact (aC3 hw1 hwl h1 hl hn).mono fun r w2 hr => fin hr.1 hr.2
 .have n0 : ((H.form : Int) == 0) = false := beq_eq_false_iff_ne.2 (by omega)
  rw [if_neg h0]
  simp (disch := omega) only [aD, cB, aLa, bP, aA, bO, k1, aH, dQ, n0, k3, aE]
  exact (aBG hw1 hwl h1 hl hn).mono fun r w2 hr => fin hr.1 hr.2
def asN (w : aNE) (base : Nat) (o : Except Int (List UInt8 × List UInt8 × Nat)) (r : aNF) : Prop := match o with
 | .error e => r = .tuple #[.slice none 0 0, .slice none 0 0, .int .i64 0, .int .i64 e]
 | .ok (m, u, n) => ∃ v x, r = .tuple #[v, x, .int .i64 (n : Nat), .int .i64 0] /\ sV w base 1 v m.length (m.map sU) /\ sV w base 1 x u.length (u.map sU)
theorem asN.low {w : aNE} {b b' : Nat} {o : Except Int (List UInt8 × List UInt8 × Nat)} {r : aNF} (h : asN w b o r) (hb : b' <= b) : asN w b' o r := by
 cases o with
 | error e => exact h
 | ok p =>
   obtain ⟨m, u, n⟩ := p
   obtain ⟨v, x, rfl, h1, h2⟩ := h
   exact ⟨v, x, rfl, Aq h1 hb, Aq h2 hb⟩
abbrev lhC (H : LH) (y : Nat) : List aNF := [.int .i64 (H.kind : Nat), .int .i64 (H.form : Nat), .int .i64 (H.size : Nat), .int .i64 (H.count : Nat), .int .i64 (y : Nat)]
theorem aCN {C : List (Nat × Nat)} {s : List UInt8} {n : Nat} {m : List Nat} (hC : C.length <= 256) (hF : YD C (pI C)) (h : rU C s n = .ok m) : ∀ x ∈ m, x < 256 := by
 unfold rU at h
 split at h
 .cases h
 .split at h
  .cases h
  .split at h
   .cases h
   .cases h
    intro x hx
    have := azP hF x hx
    omega
theorem aFj {C : List (Nat × Nat)} (hC : C.length <= 256) (hF : YD C (pI C)) : ∀ {r : List (Nat × Nat)} {s : List UInt8} {m : List Nat}, EI C s r = .ok m -> ∀ x ∈ m, x < 256
 | [], s, m, h, x, hx => by cases h; cases hx
 | (k, n) :: r, s, m, h, x, hx => by
   rw [EI] at h
   cases h1 : rU C (s.take k) n with
   | error e => rw [h1] at h; cases h
   | ok m1 =>
     rw [h1] at h
     simp only at h
     cases h2 : EI C (s.drop k) r with
     | error e => rw [h2] at h; cases h
     | ok m2 =>
       rw [h2] at h; cases h
       rcases aLQ.1 hx with hx | hx
       .exact aCN hC hF h1 x hx
       .exact aFj hC hF h2 x hx
theorem aIe {H : LH} {wl b : List UInt8} {m : List Nat} (h : TU H wl b = .ok m) : ∀ x ∈ m, x < 256 := by
 unfold TU at h
 split at h
 .unfold U7 at h
  split at h
  .cases h
  .rename_i hd
   obtain ⟨hF, hm, hC⟩ := WOk.full hd
   exact aCN hC hF h
 .unfold JA at h
  split at h
  .cases h
  .rename_i hd
   obtain ⟨hF, hm, hC⟩ := WOk.full hd
   split at h
   .cases h
   .split at h
    .cases h
    .split at h
     .cases h
     .exact aFj hC hF h
theorem aIx {H : LH} {wl b : List UInt8} {m : List Nat} (h : TU H wl b = .ok m) : u8n m = (nV m).map sU := (WB (aIe h)).symm
theorem aAx {RR : aNF -> aNE -> Prop} {bv lv : aNF} {H : LH} {b wl : List UInt8} {p : Nat} {w : aNE} (o : eM w p (lhC H (CE H))) (hb : Bs w bv b) (hbl : b.length <= 1000000) (hw : Bs w lv wl) (hwl : wl.length <= 100000) (hc : H.count <= 131072) (hf : H.form < 4)
 (hk : ∀ r w', asN w' w.heap.size (akA H wl b) r -> aW w w' eT -> RR r w') :
 yF (fun dY uB mD BJ w => yR RR dY uB mD BJ w) RR bv (.pointer (some ⟨p, 0, none⟩)) (.int .i64 (H.size + CE H : Nat)) lv w := by
 unfold yF
 have hwo := hw
 obtain ⟨a, c, rfl, hcc⟩ := hw.len
 rw [aLk] at *
 by_cases h0 : wl.length = 0
 .have n0 : ((wl.length : Int) == 0) = true := by rw [h0] <;> rfl
  simp (disch := omega) only [aD, aQ, aA, dQ, n0, aG]
  exact hk _ _ (by unfold akA; rw [if_pos h0] <;> rfl) (aW.refl _ _)
 have n0 : ((wl.length : Int) == 0) = false := beq_eq_false_iff_ne.2 (by omega)
 simp (disch := omega) only [aD, aQ, aA, dQ, n0, aE]
 unfold yR
 have q := Qu (off := 0) o (by simp)
 simp only [aLf, aLe, aLi] at q
 simp (disch := omega) only [aD, q, aA]
 refine (aFZ (H := ⟨H.kind, H.form, H.size, H.count, CE H⟩) hwo hwl hb hbl hc hf).mono ?_
 rintro r w1 ⟨hs, x1⟩
 have hs : T8 w1 w.heap.size (TU H wl b) r := hs
 have z1 := x1.size
 cases hd : TU H wl b with
 | error e =>
   rw [hd] at hs
   obtain rfl : r = .tuple #[.slice none 0 0, .int .i64 e] := hs
   have n1 : (e != 0) = true := by simp [aCU hd]
   simp (disch := omega) only [pT, pS, aA, cY, n1, aG]
   exact hk _ _ (by unfold akA; rw [if_neg h0, hd] <;> rfl) x1
 | ok m =>
   rw [hd] at hs
   obtain ⟨v', rfl, o1⟩ := hs
   have n1 : ((0 : Int) != 0) = false := rfl
   simp (disch := omega) only [pT, pS, aA, cY, n1, aE]
   refine (IP (hwo.ext x1 (bZ _)) (by omega)).mono ?_
   rintro r w2 ⟨o2, x2⟩
   refine hk _ _ ?_ (x1.seq x2)
   unfold akA
   rw [if_neg h0, hd]
   refine ⟨v', r, rfl, ?_, Aq o2 z1⟩
   rw [aIx hd] at o1
   have o1 := o1.ext x2 (fun _ _ h => h)
   rw [show (nV m).length = m.length from by simp [nV]]
   exact o1
theorem aCF {l : List UInt8} (h : (qI l).2 = 0) : (qI l).1.count <= 131072 /\ (qI l).1.size <= l.length /\ (qI l).1.kind < 4 /\ (qI l).1.form < 4 /\ (qI l).1.size <= 5 /\ (qI l).1.bytes < 2 ^ 40 := by
 cases l with
 | nil => exact absurd h (by decide)
 | cons c r =>
   simp only [qI] at h ⊢
   have hs := SK (c.toNat % 4) (c.toNat / 4 % 4)
   by_cases h1 : (c :: r).length < mF (c.toNat % 4) (c.toNat / 4 % 4)
   .rw [if_pos h1] at h; exact absurd h (by simp)
   .rw [if_neg h1] at h ⊢
    simp only at h ⊢
    have h5 := aaV (l := c :: r) hs.2
    refine ⟨?_, by omega, by omega, by omega, hs.2, ?_⟩
    .split at h
     .exact absurd h (by decide)
     .omega
    .exact Nat.lt_of_le_of_lt (aMf (aMa _ _) (aMa _ _)) h5
theorem aFJ {RR : aNF -> aNE -> Prop} {v ov : aNF} {H : LH} {b old : List UInt8} {p : Nat} {w : aNE} (o : eM w p (lhC H (CE H))) (hb : Bs w v b) (hbl : b.length <= 10000) (hby : b.length = CE H) (ho : Bs w ov old) (hol : old.length <= 100000) (hc : H.count <= 131072) (hf : H.form < 4) (hkd : H.kind < 4)
 (hk : ∀ r w', asN w' w.heap.size (adY H b old) r -> aW w w' eT -> RR r w') :
 B9 RR v ov (.pointer (some ⟨p, 0, none⟩)) (.int .i64 (H.size + CE H : Nat)) ov w := by
 unfold B9 Ia H9
 have k0 := o.cell (off := 0)
 have k3 := o.cell (off := 3)
 simp only [aK7, aK8] at k0 k3
 simp (disch := omega) only [aD, cM, aA, bO, k0, aH]
 unfold H8 Tf Iw
 rcases (show H.kind = 0 ∨ H.kind = 1 ∨ H.kind = 2 ∨ H.kind = 3 by omega) with h0 | h0 | h0 | h0
 .have n0 : ((H.kind : Int) == 0) = true := by rw [h0] <;> rfl
  simp (disch := omega) only [aD, dQ, n0, bP, aLa, aA, bO, true_and, aG]
  refine (IP hb (by omega)).mono ?_
  rintro r w1 ⟨o1, x1⟩
  refine (IP (ho.ext x1 (bZ _)) (by omega)).mono ?_
  rintro r2 w2 ⟨o2, x2⟩
  refine hk _ _ ?_ (x1.seq x2)
  unfold adY
  rw [if_pos h0]
  exact ⟨r, r2, rfl, o1.ext x2 (fun _ _ h => h), Aq o2 x1.size⟩
 .have n0 : ((H.kind : Int) == 0) = false := by rw [h0] <;> rfl
  have n1 : ((H.kind : Int) == 1) = true := by rw [h0] <;> rfl
  simp (disch := omega) only [aD, dQ, n0, n1, bP, aLa, aA, bO, true_and, aG, k3, aH, aE]
  have hy : CE H = 1 := by unfold CE; rw [if_neg (by omega), if_pos h0]
  obtain ⟨c, rfl⟩ : ∃ c, b = [c] := by
   match b, hby with
   | [c], _ => exact ⟨c, rfl⟩
   | [], h => rw [hy] at h; simp at h
   | _ :: _ :: _, h => rw [hy] at h; simp at h
  refine (aH2 hb hc).mono ?_
  rintro r w1 ⟨o1, x1⟩
  refine (IP (ho.ext x1 (bZ _)) (by omega)).mono ?_
  rintro r2 w2 ⟨o2, x2⟩
  refine hk _ _ ?_ (x1.seq x2)
  unfold adY
  rw [if_neg (by omega), if_pos h0]
  refine ⟨r, r2, rfl, ?_, Aq o2 x1.size⟩
  have o1 := o1.ext x2 (fun _ _ h => h)
  rw [aLV, aNu]
  exact o1
 .have n0 : ((H.kind : Int) == 0) = false := by rw [h0] <;> rfl
  have n1 : ((H.kind : Int) == 1) = false := by rw [h0] <;> rfl
  have n2 : ((H.kind : Int) == 2) = true := by rw [h0] <;> rfl
  simp (disch := omega) only [aD, dQ, n0, n1, bP, aLa, aA, bO, n2, true_and, aG, aE]
  have hB : adY H b old = match auZ H b old with | .error e => .error e | .ok p => akA H p.1 p.2 := by
   unfold adY; rw [if_neg (by omega), if_neg (by omega)] <;> (cases auZ H b old <;> rfl)
  have hW : auZ H b old = match wtR b with | .error e => .error e | .ok p => .ok (p.1, b.drop p.2) := by unfold auZ; rw [if_pos h0] <;> (cases wtR b <;> rfl)
  refine (aHN hb hbl).mono ?_
  rintro r w1 ⟨hr, x1⟩
  cases hq : wtR b with
  | error e =>
    rw [hq] at hr
    obtain rfl : r = .tuple #[.slice none 0 0, .int .i64 0, .int .i64 e] := hr
    have n3 : (e != 0) = true := by simp [aFf hq]
    simp (disch := omega) only [YB, Ys, Yu, aA, cY, n3, aG]
    exact hk _ _ (by rw [hB, hW, hq] <;> rfl) x1
  | ok q =>
    have hq2 := aG7 hq
    obtain ⟨m, n⟩ := q
    rw [hq] at hr
    obtain ⟨v', rfl, o1⟩ := hr
    simp only at hq2
    have n3 : ((0 : Int) != 0) = false := rfl
    have hb1 := hb.ext (x1.seq (aW.dr w1 eT)) (bZ _)
    obtain ⟨a, nn, cc, rfl, hnn, hcc, _⟩ := hb
    rw [aLk] at hnn
    subst hnn
    have hdp := hb1.drop' (k := n) hq2.2.2
    rw [<- aMS] at hdp
    have tn : (n : Int).toNat = n := aK9 _
    simp (disch := omega) only [YB, Ys, Yu, aA, cY, n3, aE, eE, tn, true_and]
    have z1 := x1.size
    refine aAx (kA (o.ext x1 (fun h => h))) hdp (by rw [aLs]; omega) ((o1.ext (aW.dr w1 eT) (fun _ _ h => h)).sl) (by omega) hc hf fun r w2 hr2 x2 => ?_
    refine hk _ _ ?_ ((x1.seq (aW.dr w1 eT)).seq x2)
    rw [hB, hW, hq]
    exact hr2.low z1
 .have n0 : ((H.kind : Int) == 0) = false := by rw [h0] <;> rfl
  have n1 : ((H.kind : Int) == 1) = false := by rw [h0] <;> rfl
  have n2 : ((H.kind : Int) == 2) = false := by rw [h0] <;> rfl
  simp (disch := omega) only [aD, dQ, n0, n1, bP, aLa, aA, bO, n2, true_and, aE]
  refine aAx o hb (by omega) ho hol hc hf fun r w2 hr2 x2 => ?_
  refine hk _ _ ?_ x2
  unfold adY auZ
  rw [if_neg (by omega), if_neg (by omega), if_neg (by omega)]
  exact hr2
theorem aAS {v ov : aNF} {l old : List UInt8} {w : aNE} (h : Bs w v l) (hl : l.length <= 10000) (ho : Bs w ov old) (hol : old.length <= 100000) :
 aT pg Ac #[v, ov] w (fun r w' => asN w' w.heap.size (Yy l old) r /\ aW w w' eT) := by
 refine Z8 ?_
 obtain ⟨RR, hRR⟩ : ∃ RR : aNF -> aNE -> Prop, RR = fun r w' => asN w' w.heap.size (Yy l old) r /\ aW w w' eT := ⟨_, rfl⟩
 rw [<- hRR]
 have key : ∀ r w', asN w' w.heap.size (Yy l old) r -> aW w w' eT -> RR r w' := fun r w' h1 h2 => by rw [hRR]; exact ⟨h1, h2⟩
 unfold Zl Gi Gf
 refine (aHu h (by omega)).mono ?_
 rintro r w1 ⟨hr, x1⟩
 have z1 := x1.size
 by_cases he : (qI l).2 = 0
 .have hr : r = .tuple #[lhV (qI l).1, .int .i64 0] := by have := hr; unfold OpR at this; rw [if_pos he] at this; exact this
  subst hr
  obtain ⟨h1, h2, h3, h4, h5, h6⟩ := aCF he
  have hR : Yy l old = aAm (qI l).1 l old := by unfold Yy; rw [if_pos he]
  rw [hR] at key
  generalize (qI l).1 = H at *
  have n0 : ((0 : Int) != 0) = false := rfl
  unfold lhV
  simp (disch := omega) only [aD, pT, pS, aA, cY]
  refine B2 fun w2 o2 x2 s2 => ?_
  refine rJ o2 rfl (by simp [one]) (by simp) fun w3 o3 x3 s3 => ?_
  simp only [bM, aLd, aLc] at o3
  have x03 : aW w w3 eT := x1.seq (x2.new x3 (aLm _))
  obtain ⟨p, hp⟩ : ∃ p, p = w1.heap.size := ⟨_, rfl⟩
  rw [<- hp] at o3 ⊢
  have k0 := o3.cell (off := 0)
  have k2 := o3.cell (off := 2)
  have k3 := o3.cell (off := 3)
  simp only [aK7, aK8] at k0 k2 k3
  have hh := h
  obtain ⟨a, nn, cc, rfl, hnn, hcc, _⟩ := h
  rw [aLk] at hnn
  subst hnn
  have hdp := (hh.ext x03 (bZ _)).drop' (k := H.size) h2
  rw [<- aMS] at hdp
  have hbody : ∀ w4, eM w4 p (lhC H (CE H)) -> aW w3 w4 (fun y => y = p) -> A3 RR (.slice (mW a cc H.size 1) (l.length - H.size) (cc - H.size)) ov (.pointer (some ⟨p, 0, none⟩)) w4 := by
   intro w4 o4 x4
   have x04 : aW w w4 eT := x03.trans x4 fun y hy h => by omega
   have z4 := x04.size
   have hdp4 := (hh.ext x04 (bZ _)).drop' (k := H.size) h2
   rw [<- aMS] at hdp4
   have c0 := o4.cell (off := 0)
   have c2 := o4.cell (off := 2)
   have c4 := o4.cell (off := 4)
   simp only [aK7, aK8] at c0 c2 c4
   have ty : (CE H : Int).toNat = CE H := aK9 _
   have hyb : CE H < 2 ^ 41 := by unfold CE; split <;> (try split) <;> omega
   have hlen : (l.drop H.size).length = l.length - H.size := aLs
   unfold A3 HN
   by_cases hs : l.length - H.size < CE H
   .have d1 : decide (((l.length - H.size : Nat) : Int) < (CE H : Int)) = true := by simp; omega
    simp (disch := omega) only [aD, aQ, cF, aLa, bH, aA, bO, c4, aH, aS, d1, aG]
    exact key _ _ (by unfold aAm; rw [hlen, if_pos hs] <;> rfl) x04
   .have d1 : decide (((l.length - H.size : Nat) : Int) < (CE H : Int)) = false := by simp; omega
    have e1 : (H.size : Int) + (CE H : Int) = ((H.size + CE H : Nat) : Int) := by omega
    have htk := hdp4.take' (k := CE H) (by omega)
    rw [<- aMZ] at htk
    have htl : ((l.drop H.size).take (CE H)).length = CE H := by rw [aLn, hlen]; omega
    simp (disch := omega) only [aD, aQ, cF, aLa, bH, aA, bO, c4, aH, aS, d1, jH, ty, c2, bK, e1, aP, aE]
    refine aFJ o4 htk (by omega) htl (ho.ext x04 (bZ _)) hol h1 h4 h3 fun r w5 hr5 x5 => ?_
    refine key _ _ ?_ (x04.seq x5)
    unfold aAm
    rw [hlen, if_neg hs]
    exact hr5.low z4
  have ts : (H.size : Int).toNat = H.size := aK9 _
  rcases (show H.kind = 0 ∨ H.kind = 1 ∨ H.kind = 2 ∨ H.kind = 3 by omega) with h0 | h0 | h0 | h0
  .have n1 : ((H.kind : Int) == 0) = true := by rw [h0] <;> rfl
   have hy : CE H = H.count := by unfold CE; rw [if_pos h0]
   simp (disch := omega) only [n0, bH, aLa, cM, bP, cF, aA, bO, k2, aH, eE, ts, k0, dQ, n1, k3, aG, aE]
   refine pD o3 rfl (by simp) fun w4 o4 x4 s4 => ?_
   exact hbody w4 (by rw [hy]; exact o4) x4
  .have n1 : ((H.kind : Int) == 0) = false := by rw [h0] <;> rfl
   have n2 : ((H.kind : Int) == 1) = true := by rw [h0] <;> rfl
   have hy : CE H = 1 := by unfold CE; rw [if_neg (by omega), if_pos h0]
   simp (disch := omega) only [n0, bH, aLa, cM, bP, cF, aA, bO, k2, aH, eE, ts, k0, dQ, n1, n2, aG, k3, aE]
   refine pD o3 rfl (by simp) fun w4 o4 x4 s4 => ?_
   have e1 : (1 : Int) = ((CE H : Nat) : Int) := by rw [hy] <;> rfl
   rw [e1] at o4
   exact hbody w4 o4 x4
  .have n1 : ((H.kind : Int) == 0) = false := by rw [h0] <;> rfl
   have n2 : ((H.kind : Int) == 1) = false := by rw [h0] <;> rfl
   have hy : CE H = H.bytes := by unfold CE; rw [if_neg (by omega), if_neg (by omega)]
   simp (disch := omega) only [n0, bH, aLa, cM, bP, cF, aA, bO, k2, aH, eE, ts, k0, dQ, n1, n2, aE, k3]
   rw [<- hy] at o3
   exact hbody _ o3 (aW.refl _ _)
  .have n1 : ((H.kind : Int) == 0) = false := by rw [h0] <;> rfl
   have n2 : ((H.kind : Int) == 1) = false := by rw [h0] <;> rfl
   have hy : CE H = H.bytes := by unfold CE; rw [if_neg (by omega), if_neg (by omega)]
   simp (disch := omega) only [n0, bH, aLa, cM, bP, cF, aA, bO, k2, aH, eE, ts, k0, dQ, n1, n2, aE, k3]
   rw [<- hy] at o3
   exact hbody _ o3 (aW.refl _ _)
 .have hr : r = .tuple #[lh0, .int .i64 (qI l).2] := by have := hr; unfold OpR at this; rw [if_neg he] at this; exact this
  subst hr
  have n0 : ((qI l).2 != 0) = true := by simp [he]
  unfold lh0
  simp (disch := omega) only [aD, pT, pS, aA, cY]
  refine B2 fun w2 o2 x2 s2 => ?_
  refine rJ o2 rfl (by simp [one]) (by simp) fun w3 o3 x3 s3 => ?_
  simp (disch := omega) only [n0, bH, aLa, cM, bP, cF, aA, bO, aG]
  exact key _ _ (by unfold Yy; rw [if_neg he] <;> rfl) (x1.seq (x2.new x3 (aLm _)))
theorem adF {a b : Nat} (k : Nat) (h : b < 2 ^ k) : a * 2 ^ k ||| b = a * 2 ^ k + b := by
 rw [<- Nat.shiftLeft_eq, Nat.shiftLeft_add_eq_or_of_lt h]
def yO (k n : Nat) : List UInt8 := if n < 32 then pV (n * 8 + k) 1 else if n < 4096 then pV (n * 16 + 4 + k) 2 else pV (n * 16 + 12 + k) 3
theorem aE0 {k n : Nat} {w : aNE} (hk : k < 2) (hn : n <= 131072) :
 aT pg yI #[.int .i64 k, .int .i64 n] w (fun r w' => sV w' w.heap.size 1 r (yO k n).length ((yO k n).map sU) /\ aW w w' eT) := by
 refine Y2 ?_
 obtain ⟨RR, hRR⟩ : ∃ RR : aNF -> aNE -> Prop, RR = fun r w' => sV w' w.heap.size 1 r (yO k n).length ((yO k n).map sU) /\ aW w w' eT := ⟨_, rfl⟩
 rw [<- hRR]
 unfold Xk FX EX
 refine (acZ w).mono ?_
 rintro r w1 ⟨rfl, hlt, hc1, x1⟩
 have z1 := x1.size
 have fin : ∀ (X m : Nat) (w2 : aNE), X < 2 ^ 40 -> 1 <= m -> m <= 8 -> pV X m = yO k n -> w2 = w1 →
     aT pg lJ #[.pointer (some ⟨w.heap.size, 0, none⟩), .int .u64 X, .int .i64 m] w2 fun _ w' => wF RR (.pointer (some ⟨w.heap.size, 0, none⟩)) w' := by
  intro X m w2 hX h1 h8 hp hw
  subst hw
  refine (Wl (n := m) hc1 (fun b hb => by omega) (Nat.lt_trans hX (by decide)) ⟨h1, h8⟩ (aM4 _)).mono ?_
  rintro r w3 ⟨rfl, hc3, x3⟩
  rw [aMu, hp] at hc3
  have hpl : (yO k n).length <= 8 := by rw [<- hp, oD]; exact h8
  unfold wF
  have hpl2 : (yO k n).length <= 1000000000 := aMf hpl (by decide)
  have hout := awB hc3 hpl2
  refine hout.mono ?_
  rintro r w4 ⟨o4, x4⟩
  have x03 : aW w w3 eT := x1.trans x3 fun y hy h => by omega
  have z3 := x03.size
  have hfin : sV w4 w.heap.size 1 r (yO k n).length ((yO k n).map sU) /\ aW w w4 eT := ⟨Aq o4 z3, x03.seq x4⟩
  rw [hRR]
  exact hfin
 have t3 : (3 : Int).toNat = 3 := rfl
 have t4 : (4 : Int).toNat = 4 := rfl
 have p3 : (2 : Nat) ^ 3 = 8 := rfl
 have p4 : (2 : Nat) ^ 4 = 16 := rfl
 by_cases h1 : n < 32
 .have d1 : decide ((n : Int) < 32) = true := decide_eq_true (by omega)
  have e1 := alQ (a := n) (n := 3) (by omega) (by omega)
  have e2 : orI .i64 ((n * 2 ^ 3 : Nat) : Int) (k : Int) = ((n * 8 + k : Nat) : Int) := by
   rw [arT (by omega) (by omega), adF 3 (by omega)]
  have e3 : IntKind.u64.wrap ((n * 8 + k : Nat) : Int) = ((n * 8 + k : Nat) : Int) := kS (by omega) (by omega)
  simp (disch := omega) only [aD, aS, d1, pE, t3, e1, aA, LA, e2, fS, e3, aG]
  exact fin (n * 8 + k) 1 _ (by omega) (by omega) (by omega) (by unfold yO; rw [if_pos h1]) rfl
 have d1 : decide ((n : Int) < 32) = false := decide_eq_false (by omega)
 have e1 := alQ (a := n) (n := 4) (by omega) (by omega)
 by_cases h2 : n < 4096
 .have d2 : decide ((n : Int) < 4096) = true := decide_eq_true (by omega)
  have e2 : orI .i64 ((n * 2 ^ 4 : Nat) : Int) 4 = ((n * 16 + 4 : Nat) : Int) := by
   have := arT (a := n * 2 ^ 4) (b := 4) (by omega) (by omega)
   rw [adF 4 (by omega)] at this
   exact this
  have e3 : orI .i64 ((n * 16 + 4 : Nat) : Int) (k : Int) = ((n * 16 + 4 + k : Nat) : Int) := by
   rw [arT (by omega) (by omega), show n * 16 + 4 = (n * 4 + 1) * 2 ^ 2 from by omega, adF 2 (by omega)]
  have e4 : IntKind.u64.wrap ((n * 16 + 4 + k : Nat) : Int) = ((n * 16 + 4 + k : Nat) : Int) := kS (by omega) (by omega)
  simp (disch := omega) only [aD, aS, d1, pE, aA, LA, fS, d2, t4, e1, e2, e3, e4, aG, aE]
  exact fin (n * 16 + 4 + k) 2 _ (by omega) (by omega) (by omega) (by unfold yO; rw [if_neg h1, if_pos h2]) rfl
 .have d2 : decide ((n : Int) < 4096) = false := decide_eq_false (by omega)
  have e2 : orI .i64 ((n * 2 ^ 4 : Nat) : Int) 12 = ((n * 16 + 12 : Nat) : Int) := by
   have := arT (a := n * 2 ^ 4) (b := 12) (by omega) (by omega)
   rw [adF 4 (by omega)] at this
   exact this
  have e3 : orI .i64 ((n * 16 + 12 : Nat) : Int) (k : Int) = ((n * 16 + 12 + k : Nat) : Int) := by
   rw [arT (by omega) (by omega), show n * 16 + 12 = (n * 4 + 3) * 2 ^ 2 from by omega, adF 2 (by omega)]
  have e4 : IntKind.u64.wrap ((n * 16 + 12 + k : Nat) : Int) = ((n * 16 + 12 + k : Nat) : Int) := kS (by omega) (by omega)
  simp (disch := omega) only [aD, aS, d1, pE, aA, LA, fS, d2, t4, e1, e2, e3, e4, aE]
  exact fin (n * 16 + 12 + k) 3 _ (by omega) (by omega) (by omega) (by unfold yO; rw [if_neg h1, if_neg h2]) rfl
theorem ayN (k n : Nat) : (yO k n).length <= 3 := by
 unfold yO; split
 .simp [oD]
 .split <;> simp [oD]
theorem aKl {v : aNF} {l : List UInt8} {w : aNE} (h : Bs w v l) (hl : l.length <= 131072) :
 aT pg Gp #[v] w (fun r w' => ∃ x, r = .tuple #[x, .int .i64 0] /\ sV w' w.heap.size 1 x (yO 0 l.length ++ l).length ((yO 0 l.length ++ l).map sU) /\ aW w w' eT) := by
 refine ajO ?_
 unfold agU LC
 have hv := h
 obtain ⟨a, c, rfl, hc⟩ := h.len
 rw [aLk] at *
 have d1 : decide ((l.length : Int) > 131072) = false := decide_eq_false (by omega)
 have d2 : decide ((131072 : Int) < (l.length : Int)) = false := decide_eq_false (by omega)
 simp (disch := omega) only [aD, aQ, aA, dE, d1, aE]
 refine (aE0 (k := 0) (n := l.length) (by omega) hl).mono ?_
 rintro r w1 ⟨o1, x1⟩
 have z1 := x1.size
 have hcl := (hv.ext x1 (bZ _)).cl
 rw [aLk] at hcl
 have hp := ayN 0 l.length
 refine mJ o1 hcl (awD _) z1 (by omega) fun v2 w2 o2 x2 => ?_
 refine ⟨v2, rfl, ?_, x1.trans x2 fun y hy h => by omega⟩
 rw [aLh, aLz]
 exact o2
theorem aJM {c : UInt8} {n : Nat} {w : aNE} (hn : n <= 131072) :
 aT pg Dx #[sU c, .int .i64 n] w (fun r w' => ∃ x, r = .tuple #[x, .int .i64 0] /\ sV w' w.heap.size 1 x (yO 1 n ++ [c]).length ((yO 1 n ++ [c]).map sU) /\ aW w w' eT) := by
 refine aaH ?_
 unfold Zq H3
 have d0 : decide ((n : Int) < 0) = false := decide_eq_false (by omega)
 have d1 : decide ((n : Int) > 131072) = false := decide_eq_false (by omega)
 have d2 : decide ((131072 : Int) < (n : Int)) = false := decide_eq_false (by omega)
 simp (disch := omega) only [aD, aS, d0, aA, dI, bE, aLb, if_false, bJ, dE, d1, aE]
 refine (aE0 (k := 1) (n := n) (by omega) hn).mono ?_
 rintro r w1 ⟨o1, x1⟩
 have z1 := x1.size
 have hp := ayN 1 n
 refine pC (cells := #[sU c]) (by decide) (by decide) (by kernel_rfl) fun w2 o2 x2 s2 => ?_
 have z2 := x2.size
 refine mJ (m := 1) (news := [sU c]) (o1.ext x2 (fun _ _ h => h)) (o2.cl (off := 0) (l := [sU c]) (n := 1) rfl (fun i hi => by rw [aLa])) (by simp [one, sU]) (by omega) (by omega) fun v2 w3 o3 x3 => ?_
 refine ⟨v2, rfl, ?_, (x1.seq x2).trans x3 fun y hy h => by omega⟩
 rw [aLh, aLz]
 exact o3
def He (kind form n m bits : Nat) : Nat := kind + form * 4 + n * 2 ^ 4 + m * 2 ^ (4 + bits)
theorem aDv {kind form n m bits size : Nat} {rest : List UInt8} (hk : kind = 2 ∨ kind = 3) (hf : form < 4) (hb : QC form = bits) (hs : mF kind form = size) (h8 : 4 + 2 * bits = 8 * size) (hn : n < 2 ^ bits) (hm : m < 2 ^ bits) (hn2 : n <= 131072) :
 qI (pV (He kind form n m bits) size ++ rest) = (⟨kind, form, size, n, m⟩, 0) := by
 obtain ⟨X, hX⟩ : ∃ X, X = He kind form n m bits := ⟨_, rfl⟩
 rw [<- hX]
 have hk4 : kind < 4 := by omega
 have hlow : kind + form * 4 < 16 := by omega
 have e0 : X = (kind + form * 4) + 2 ^ 4 * (n + m * 2 ^ bits) := by
  rw [hX, He, aL7, aNm, aLJ (2 ^ 4) n, aMH]
  congr 2
  rw [Nat.mul_left_comm]
 have e1 : X % 16 = kind + form * 4 := by rw [e0]; omega
 have e2 : X / 2 ^ 4 = n + m * 2 ^ bits := by rw [e0]; omega
 have hbp := aLC bits
 have q1 : (n + m * 2 ^ bits) % 2 ^ bits = n := by rw [Nat.add_mul_mod_self_right]; exact aLP hn
 have q2 : (n + m * 2 ^ bits) / 2 ^ bits = m := by rw [Nat.add_mul_div_right _ _ hbp, aNz hn, aLa]
 have hXlt : X < 256 ^ size := by
  have h1 : n + m * 2 ^ bits < 2 ^ bits * 2 ^ bits := by
   have : (m + 1) * 2 ^ bits <= 2 ^ bits * 2 ^ bits := aLG _ hm
   rw [aL0] at this
   omega
  rw [<- aL7] at h1
  have h2 : (256 : Nat) ^ size = 2 ^ 4 * 2 ^ (bits + bits) := by
   rw [show (256 : Nat) = 2 ^ 8 from rfl, <- Nat.pow_mul, <- h8, <- aL7]; congr 1; omega
  rw [h2, e0]
  generalize 2 ^ (bits + bits) = Y at *
  generalize m * 2 ^ bits = Z at *
  omega
 have hsz := SK kind form
 obtain ⟨m', rfl⟩ : ∃ m', size = m' + 1 := ⟨size - 1, by omega⟩
 have hp : pV X (m' + 1) = UInt8.ofNat (X % 256) :: pV (X / 256) m' := rfl
 have hc : (UInt8.ofNat (X % 256)).toNat = X % 256 := by simp
 have f1 : X % 256 % 4 = kind := by omega
 have f2 : X % 256 / 4 % 4 = form := by omega
 have hW : tN kind form = bits := by unfold tN; rw [if_neg (by omega)]; exact hb
 have hD : qT kind form = 4 := by unfold qT; rw [if_neg (by omega)]
 have hlen : (UInt8.ofNat (X % 256) :: (pV (X / 256) m' ++ rest)).length = m' + 1 + rest.length := by simp [oD]; omega
 have htk : (UInt8.ofNat (X % 256) :: (pV (X / 256) m' ++ rest)).take (m' + 1) = pV X (m' + 1) := by
  rw [hp, <- aMh, aMT (by simp [oD]), aLH (by simp [oD])]
 have q3 : X % 256 ^ (m' + 1) = X := aLP hXlt
 rw [hp, aMh, qI]
 simp only [hc, f1, f2, hs, hD, hW]
 rw [if_neg (by rw [hlen]; omega), htk, aqH, q3, e2, q1, q2, if_neg (by omega)]
theorem aBs {a b : List Nat} {n : Nat} (h : (n + 1) / 2 <= a.length) : mQ (a ++ b) n = mQ a n := by
 unfold mQ
 refine aLN fun i hi => ?_
 have hi := aLR.1 hi
 unfold VK
 have : (a ++ b).getD (i / 2) 0 = a.getD (i / 2) 0 := by
  rw [aLl, aLl, aLy (by omega)]
 rw [this]
theorem aIE {wl s : List UInt8} (h : gQ (bT wl) ≠ 0) (hl : wl.length <= 129) : wtR (nV (wrB (bT wl)) ++ s) = .ok (wl, (wrB (bT wl)).length) := by
 have hnl := iQ wl
 have hok := vZ rfl h
 obtain ⟨m, k, hlm, hml, hwh, hhp, htk⟩ := aG9 rfl h (by omega)
 have hwl := axO (bT wl)
 have hre : nV (wrB (bT wl)) = UInt8.ofNat (126 + wl.length) :: nV (Cu m) := by
  unfold wrB
  show List.map _ (_ :: _) = _
  rw [aMn, htk, hnl]
 have hrl : (nV (Cu m)).length = (m.length + 1) / 2 := by rw [aLk, Ck]
 have hh : (UInt8.ofNat (126 + wl.length)).toNat = 126 + wl.length := by simp; omega
 have hm2 : 126 + wl.length - 127 = m.length := by omega
 have hpm : ∀ x ∈ Cu m, x < 256 := fun x hx => aJJ (fun w hw => aMf (hok.1 w hw) hok.2.1) (by omega) x (by
  unfold wrB; rw [htk]; exact aLx _ hx)
 have hnb : bT (nV (Cu m)) = Cu m := XU hpm
 rw [hre, aMh, Wo, hh, hm2, if_pos (by omega), if_neg (by rw [aLh, hrl]; omega)]
 have hna : bT (nV (Cu m) ++ s) = Cu m ++ bT s := by rw [<- hnb]; simp [bT]
 rw [hna, aBs (by rw [Ck]; omega), hhp, avU]
 have hwm : tX m = some k := by rw [hhp] at hwh; exact hwh
 rw [hwm]
 simp only
 have hle : nV m ++ [UInt8.ofNat k] = wl := by
  have e : nV (bT wl) = wl := aAE wl
  rw [hlm] at e
  rw [<- e]
  show _ = List.map _ (m ++ [k])
  rw [aLz] <;> rfl
 rw [hle, hwl, hnl]
 congr 2
 omega
theorem aGR {l wl d s more old : List UInt8} {kind form bits size : Nat} (hk : (kind = 2 /\ gQ (bT wl) ≠ 0 /\ wl.length <= 129 /\ d = nV (wrB (bT wl))) ∨ (kind = 3 /\ d = [] /\ old = wl)) (hd : gQ (bT wl) ≠ 0)
 (hf : form < 4) (hb : QC form = bits) (hs : mF kind form = size) (h8 : 4 + 2 * bits = 8 * size) (hn : l.length < 2 ^ bits) (hm : (d ++ s).length < 2 ^ bits) (hn2 : l.length <= 131072)
 (hr : (if form = 0 then U7 wl s l.length else JA wl s l.length) = .ok (bT l)) :
 Yy (pV (He kind form l.length (d ++ s).length bits) size ++ (d ++ s) ++ more) old = .ok (l, wl, (pV (He kind form l.length (d ++ s).length bits) size ++ (d ++ s)).length) := by
 rw [aLF]
 have hk' : kind = 2 ∨ kind = 3 := by rcases hk with h | h; exact .inl h.1; exact .inr h.1
 have hh := aDv (rest := (d ++ s) ++ more) hk' hf hb hs h8 hn hm hn2
 have hw2 : wl.length ≠ 0 := by
  have := vZ rfl hd
  rw [iQ] at this
  omega
 have hkn0 : kind ≠ 0 := by omega
 have hkn1 : kind ≠ 1 := by omega
 unfold Yy
 rw [hh]
 simp only [if_true]
 unfold aAm CE
 simp only [if_neg hkn0, if_neg hkn1, XK]
 rw [if_neg (by rw [aLh]; omega), aNc rfl]
 unfold adY auZ CE
 simp only [if_neg hkn0, if_neg hkn1]
 have hfin : akA ⟨kind, form, size, l.length, (d ++ s).length⟩ wl s = .ok (l, wl, size + (d ++ s).length) := by
  unfold akA TU CE
  simp only [if_neg hkn0, if_neg hkn1, if_neg hw2]
  rw [hr]
  simp only [aAE]
 have hlen : (pV (He kind form l.length (d ++ s).length bits) size ++ (d ++ s)).length = size + (d ++ s).length := by rw [aLh, oD]
 rw [hlen]
 rcases hk with ⟨h2, h3, h4, h5⟩ | ⟨h2, h3, h4⟩
 .rw [if_pos h2]
  have := aIE (s := s) h3 h4
  rw [<- h5] at this
  rw [this]
  simp only
  have hdl : (wrB (bT wl)).length = d.length := by rw [h5]; simp [nV]
  rw [hdl, aNq rfl]
  exact hfin
 .rw [if_neg (by omega)]
  simp only
  subst h3
  subst h4
  exact hfin
def aI6 (w : aNE) (base : Nat) (l wl : List UInt8) (fresh : Bool) (r : aNF) : Prop :=
 (∃ e : Int, r = .tuple #[.slice none 0 0, .int .i64 e] /\ ((l = [] /\ e = 1) ∨ (l ≠ [] /\ fresh = true /\ gQ (bT wl) ≠ 0 /\ 129 < wl.length /\ e = 12) ∨ (l ≠ [] /\ (gQ (bT wl) = 0 ∨ ∃ s ∈ bT l, bitsOf (wC wl) s = 0) /\ e = 1))) ∨
 (l ≠ [] /\ gQ (bT wl) ≠ 0 /\ (∀ s ∈ bT l, 0 < bitsOf (wC wl) s) /\ (fresh = true -> wl.length <= 129) /\ ∃ v bytes, r = .tuple #[v, .int .i64 0] /\ sV w base 1 v bytes.length (bytes.map sU) /\ bytes.length <= 11 * l.length / 8 + 100 /\
   (∃ c t, bytes = c :: t /\ c.toNat % 4 = if fresh then 2 else 3) /\ (∀ more, (qI (bytes ++ more)).1.count = l.length) /\ ∀ more old, (fresh = true ∨ old = wl) -> Yy (bytes ++ more) old = .ok (l, wl, bytes.length))
theorem aIr {a b : Nat} (ha : a < 2 ^ 64) (hb : b < 2 ^ 64) : orI .u64 (a : Int) (b : Int) = ((a ||| b : Nat) : Int) := aBq ha hb
theorem aEb {RR : aNF -> aNE -> Prop} {sv bv : aNF} {l wl B : List UInt8} {kind form bits size : Nat} {fresh : Bool} {w0 w : aNE} (h : Bs w sv l) (hb : Bs w bv B) (hl : l.length <= 131072) (hk : kind < 4) (hf : form < 4) (hbits : bits <= 18) (hsz : 1 <= size /\ size <= 8) (hB : B.length < 2 ^ 18) (hn : l.length < 2 ^ bits)
 (hk' : ∀ r w', sV w' w.heap.size 1 r (pV (He kind form l.length B.length bits) size ++ B).length ((pV (He kind form l.length B.length bits) size ++ B).map sU) -> aW w w' eT -> RR (.tuple #[r, .int .i64 0]) w') :
 sM RR sv (.int .i64 (kind : Nat)) bv (.int .i64 (form : Nat)) (.int .i64 (bits : Nat)) (.int .i64 (size : Nat)) w := by
 unfold sM
 refine (acZ w).mono ?_
 rintro r w1 ⟨rfl, hlt1, hw1, x1⟩
 have z1 := x1.size
 have h1 := h.ext x1 (bZ _)
 have hb1 := hb.ext x1 (bZ _)
 have hbv := hb1
 obtain ⟨a, c, rfl, hc⟩ := h1.len
 obtain ⟨a2, c2, rfl, hc2⟩ := hb1.len
 rw [aLk] at hbv
 have t2 : (2 : Int).toNat = 2 := rfl
 have t4 : (4 : Int).toNat = 4 := rfl
 have e1 := alQ (a := form) (n := 2) (by omega) (by omega)
 have e2 := alQ (a := l.length) (n := 4) (by omega) (by omega)
 have e3 : orI .i64 (kind : Int) ((form * 2 ^ 2 : Nat) : Int) = ((kind + form * 4 : Nat) : Int) := by
  rw [arT (by omega) (by omega), Nat.or_comm, adF 2 (by omega)]; congr 1; omega
 have e4 : orI .i64 ((kind + form * 4 : Nat) : Int) ((l.length * 2 ^ 4 : Nat) : Int) = ((kind + form * 4 + l.length * 2 ^ 4 : Nat) : Int) := by
  rw [arT (by omega) (by omega), Nat.or_comm, adF 4 (by omega)]; congr 1; omega
 have e5 : IntKind.u64.wrap ((kind + form * 4 + l.length * 2 ^ 4 : Nat) : Int) = ((kind + form * 4 + l.length * 2 ^ 4 : Nat) : Int) := kS (by omega) (by omega)
 have e6 : IntKind.u64.wrap (B.length : Int) = (B.length : Int) := kS (by omega) (by omega)
 have e7 : (4 : Int) + (bits : Int) = ((4 + bits : Nat) : Int) := by omega
 have hp22 : 2 ^ (4 + bits) <= 2 ^ 22 := aLj (by omega) (by omega)
 have hm40 : B.length * 2 ^ (4 + bits) < 2 ^ 40 := by
  have h1 : B.length * 2 ^ (4 + bits) <= (2 ^ 18 - 1) * 2 ^ 22 := Nat.mul_le_mul (by omega) hp22
  have : (2 ^ 18 - 1) * 2 ^ 22 < 2 ^ 40 := by decide
  omega
 have e8 : IntKind.u64.wrap ((B.length : Int) * 2 ^ (min (4 + bits) IntKind.u64.bits)) = ((B.length * 2 ^ (4 + bits) : Nat) : Int) := by
  have hmin : min (4 + bits) IntKind.u64.bits = 4 + bits := by
   have : IntKind.u64.bits = 64 := rfl
   omega
  rw [hmin]
  have : (B.length : Int) * 2 ^ (4 + bits) = ((B.length * 2 ^ (4 + bits) : Nat) : Int) := by push_cast; rfl
  rw [this]
  exact kS (by omega) (by omega)
 have hlow : kind + form * 4 + l.length * 2 ^ 4 < 2 ^ (4 + bits) := by
  rw [aL7]
  generalize 2 ^ bits = Y at *
  omega
 have e9 : orI .u64 ((kind + form * 4 + l.length * 2 ^ 4 : Nat) : Int) ((B.length * 2 ^ (4 + bits) : Nat) : Int) = ((He kind form l.length B.length bits : Nat) : Int) := by
  rw [aIr (by omega) (by omega), ayX hlow, He, aLJ (2 ^ (4 + bits))]
 have hX : He kind form l.length B.length bits < 2 ^ 64 := by unfold He; omega
 have t8 : ((4 + bits : Nat) : Int).toNat = 4 + bits := aK9 _
 simp (disch := omega) only [aD, pE, t2, e1, aLk, aQ, bK, e7, aP, aA, fS, e6, t8, e8, t4, e2, LA, e3, e4, e5, e9]
 refine (Wl (x := He kind form l.length B.length bits) (n := size) hw1 (fun y hy => by omega) hX hsz (aM4 _)).mono ?_
 rintro r w2 ⟨rfl, hw2, x2⟩
 have z2 := x2.size
 rw [aMu] at hw2
 have x02 : aW w w2 eT := x1.trans x2 fun y hy h => by omega
 have hb2 := hb.ext x02 (bZ _)
 rw [aLk] at hb2
 have hp5 : (pV (He kind form l.length B.length bits) size).length <= 8 := by rw [oD]; exact hsz.2
 refine (axF hw2 (fun y hy => by omega) hb2 (by omega)).mono ?_
 rintro r w3 ⟨rfl, hw3, x3⟩
 have z3 := x3.size
 refine (awB hw3 (by rw [aLh]; omega)).mono ?_
 rintro r w4 ⟨o4, x4⟩
 refine hk' r w4 (Aq o4 (by omega)) ((x02.trans x3 fun y hy h => by omega).seq x4)
def aEO (wl : List UInt8) (n : Nat) (b : List UInt8) : Except Int (List Nat) := if n < 256 then U7 wl b n else JA wl b n
def aJv (n : Nat) : Nat := 11 * n / 8 + 12
theorem aDV {lv sv : aNF} {wl l : List UInt8} {w : aNE} (hw : Bs w lv wl) (hwl : wl.length <= 100000) (h : Bs w sv l) (hl : l.length <= 131072) :
 aT pg xO #[lv, sv] w (fun r w' => aJG w' w.heap.size wl l (aEO wl l.length) (aJv l.length) False r /\ aW w w' eT) := by
 refine Ud ?_
 unfold Qy Bm
 have hv := h
 obtain ⟨a, c, rfl, hc⟩ := h.len
 rw [aLk] at hv ⊢
 by_cases hlt : l.length < 256
 .have d1 : decide ((l.length : Int) < 256) = true := decide_eq_true (by omega)
  simp (disch := omega) only [aD, aQ, aA, aS, d1, aG]
  refine (aC4 hw hwl hv hl).mono ?_
  rintro r w1 ⟨ho, x1⟩
  rcases ho with ⟨hb, rfl⟩ | ⟨hd, hall, v, bytes, rfl, hbs, hat, hlen, hback⟩
  .simp (disch := omega) only [pT, pS, aA]
   exact ⟨.inl ⟨hb, rfl⟩, x1⟩
  .simp (disch := omega) only [pT, pS, aA]
   refine ⟨.inr ⟨hd, hall, v, bytes, rfl, hbs, hat, ?_, ?_⟩, x1⟩
   .unfold aJv; omega
   .unfold aEO; rw [if_pos hlt]; exact hback
 .have d1 : decide ((l.length : Int) < 256) = false := decide_eq_false (by omega)
  simp (disch := omega) only [aD, aQ, aA, aS, d1, aE]
  refine (aBF hw hwl hv hl).mono ?_
  rintro r w1 ⟨ho, x1⟩
  rcases ho with ⟨hb, rfl⟩ | ⟨hd, hall, v, bytes, rfl, hbs, hat, hlen, hback⟩
  .simp (disch := omega) only [pT, pS, aA]
   refine ⟨.inl ⟨?_, rfl⟩, x1⟩
   rcases hb with hb | hb | hb
   .exact .inl hb
   .omega
   .exact .inr (.inr hb)
  .simp (disch := omega) only [pT, pS, aA]
   refine ⟨.inr ⟨hd, hall, v, bytes, rfl, hbs, hat, ?_, ?_⟩, x1⟩
   .unfold aJv; omega
   .unfold aEO; rw [if_neg hlt]; exact hback
theorem aCm {sv lv : aNF} {l wl : List UInt8} {fresh : Bool} {w : aNE} (h : Bs w sv l) (hl : l.length <= 131072) (hw : Bs w lv wl) (hwl : wl.length <= 100000) :
 aT pg wN #[sv, lv, .bool fresh] w (fun r w' => aI6 w' w.heap.size l wl fresh r /\ aW w w' eT) := by
 refine VL ?_
 obtain ⟨RR, hRR⟩ : ∃ RR : aNF -> aNE -> Prop, RR = fun r w' => aI6 w' w.heap.size l wl fresh r /\ aW w w' eT := ⟨_, rfl⟩
 rw [<- hRR]
 unfold UA Ec DT
 have hv := h
 obtain ⟨a, c, rfl, hc⟩ := h.len
 rw [aLk] at hv ⊢
 by_cases h0 : l.length = 0
 .have n0 : ((l.length : Int) == 0) = true := by rw [h0] <;> rfl
  simp (disch := omega) only [aD, aQ, aA, dQ, n0, jM, bE, if_true, aG, cK]
  rw [hRR]
  exact ⟨.inl ⟨1, rfl, .inl ⟨aLI.1 h0, rfl⟩⟩, aW.refl _ _⟩
 have hne : l ≠ [] := fun e => h0 (by rw [e] <;> rfl)
 have n0 : ((l.length : Int) == 0) = false := beq_eq_false_iff_ne.2 (by omega)
 have d1 : decide ((l.length : Int) > 131072) = false := decide_eq_false (by omega)
 have d2 : decide ((131072 : Int) < (l.length : Int)) = false := decide_eq_false (by omega)
 have tail : ∀ (kind : Nat) (d : List UInt8) (dv : aNF) (w1 : aNE), aW w w1 eT -> Bs w1 dv d -> sV w1 w.heap.size 1 dv d.length (d.map sU) -> d.length <= 66 →
     ((kind = 2 /\ fresh = true /\ gQ (bT wl) ≠ 0 /\ wl.length <= 129 /\ d = nV (wrB (bT wl))) ∨ (kind = 3 /\ fresh = false /\ d = [])) →
     zU RR (.slice a l.length c) lv (.int .i64 (kind : Nat)) dv w1 := by
  intro kind d dv w1 x1 hdv od hdl hkd
  have z1 := x1.size
  unfold zU DQ
  have hv1 := hv.ext x1 (bZ _)
  have hw1 := hw.ext x1 (bZ _)
  refine (aDV hw1 hwl hv1 hl).mono ?_
  rintro r w2 ⟨ho, x2⟩
  have z2 := x2.size
  rcases ho with ⟨hb, rfl⟩ | ⟨hd, hall, v, bytes, rfl, hbs, hat, hlen, hback⟩
  .have n1 : ((1 : Int) != 0) = true := rfl
   simp (disch := omega) only [aD, pT, pS, aQ, aA, aS, bE, cY, n1, aG]
   rw [hRR]
   refine ⟨.inl ⟨1, rfl, .inr (.inr ⟨hne, ?_, rfl⟩)⟩, x1.seq x2⟩
   rcases hb with hb | hb | hb
   .exact .inl hb
   .exact hb.elim
   .exact .inr hb
  .have n1 : ((0 : Int) != 0) = false := rfl
   have hbl : bytes.length <= 11 * l.length / 8 + 12 := hlen
   have od2 := od.ext x2 (fun _ _ h => h)
   have hbv := hbs
   obtain ⟨a2, c2, rfl, hc2⟩ := hbs.len
   rw [aLk] at hbv
   have hcl := hbv.cl
   rw [aLk] at hcl
   simp (disch := omega) only [aD, aLk, pT, pS, aQ, aA, aS, bE, cY, n1, aE]
   refine mJ od2 hcl (awD _) (by omega) (by omega) fun v3 w3 o3 x3 => ?_
   have z3 := x3.size
   have hs3 : Bs w3 v3 (d ++ bytes) := by
    have := o3.sl
    rw [<- aLz] at this
    exact this
   obtain ⟨a3, c3, rfl⟩ := o3.len
   have hml : (d ++ bytes).length = d.length + bytes.length := aLh
   rw [<- hml]
   have x03 : aW w w3 eT := (x1.seq x2).trans x3 fun y hy h => by omega
   have hv3 := hv.ext x03 (bZ _)
   have d3 : decide ((262144 : Int) <= ((d ++ bytes).length : Int)) = false := decide_eq_false (by omega)
   have d4 : decide (((d ++ bytes).length : Int) ≥ 262144) = false := decide_eq_false (by omega)
   have hkd' : (kind = 2 ∨ kind = 3) /\ (kind % 4 = if fresh then 2 else 3) := by
    rcases hkd with ⟨rfl, hfr, _⟩ | ⟨rfl, hfr, _⟩
    .exact ⟨.inl rfl, by rw [hfr] <;> rfl⟩
    .exact ⟨.inr rfl, by rw [hfr] <;> rfl⟩
   have fin : ∀ (form bits size : Nat), form < 4 -> QC form = bits -> mF kind form = size -> 4 + 2 * bits = 8 * size -> l.length < 2 ^ bits -> (d ++ bytes).length < 2 ^ bits -> (form = 0 ↔ l.length < 256) →
       sM RR (.slice a l.length c) (.int .i64 (kind : Nat)) (.slice a3 (d ++ bytes).length c3) (.int .i64 (form : Nat)) (.int .i64 (bits : Nat)) (.int .i64 (size : Nat)) w3 := by
    intro form bits size hf hb hs h8 hn hm hfi
    have hbd := axD form
    have hsd := SK kind form
    have hs3' := hs3
    rw [<- hml] at hs3'
    refine aEb (l := l) (B := d ++ bytes) (fresh := fresh) (wl := wl) (w0 := w) hv3 hs3' hl (by omega) hf (by omega) (by omega) (by omega) hn fun r w4 o4 x4 => ?_
    rw [hRR]
    have hpl : (pV (He kind form l.length (d ++ bytes).length bits) size ++ (d ++ bytes)).length = size + (d ++ bytes).length := by rw [aLh, oD]
    refine ⟨.inr ⟨hne, hd, hall, ?_, r, _, rfl, Aq o4 (by omega), ?_, ?_, ?_, ?_⟩, x03.seq x4⟩
    .intro hfr
     rcases hkd with ⟨_, _, _, h4, _⟩ | ⟨_, hfr', _⟩
     .exact h4
     .rw [hfr] at hfr'; cases hfr'
    .rw [hpl]; omega
    .obtain ⟨s', rfl⟩ : ∃ s', size = s' + 1 := ⟨size - 1, by omega⟩
     refine ⟨_, _, rfl, ?_⟩
     have : (UInt8.ofNat (He kind form l.length (d ++ bytes).length bits % 256)).toNat = He kind form l.length (d ++ bytes).length bits % 256 := by simp
     rw [this, <- hkd'.2]
     unfold He
     have e : (d ++ bytes).length * 2 ^ (4 + bits) = 16 * ((d ++ bytes).length * 2 ^ bits) := by rw [aL7]; exact Nat.mul_left_comm _ _ _
     rw [e]; omega
    .intro more
     rw [aLF, aDv hkd'.1 hf hb hs h8 hn hm hl]
    .intro more old hold
     refine aGR ?_ hd hf hb hs h8 hn hm hl ?_
     .rcases hkd with ⟨h2, h3, h4, h5, h6⟩ | ⟨h2, h3, h4⟩
      .exact .inl ⟨h2, h4, h5, h6⟩
      .refine .inr ⟨h2, h4, ?_⟩
       rcases hold with h | h
       .rw [h3] at h; cases h
       .exact h
     .unfold aEO at hback
      by_cases hlt : l.length < 256
      .rw [if_pos (hfi.2 hlt)]; rw [if_pos hlt] at hback; exact hback
      .rw [if_neg (fun h => hlt (hfi.1 h))]; rw [if_neg hlt] at hback; exact hback
   have hmx : (if (((d ++ bytes).length : Nat) : Int) > ((l.length : Nat) : Int) then (((d ++ bytes).length : Nat) : Int) else ((l.length : Nat) : Int)) = ((max l.length (d ++ bytes).length : Nat) : Int) := by split <;> omega
   have hls : ∀ f, mF kind f = if f = 2 then 4 else if f = 3 then 5 else 3 := fun f => by unfold mF; rw [if_neg (by omega)]
   obtain ⟨M, hM⟩ : ∃ M, M = max l.length (d ++ bytes).length := ⟨_, rfl⟩
   rw [<- hM] at hmx
   by_cases hlt : l.length < 256
   .have d5 : decide ((l.length : Int) < 256) = true := decide_eq_true (by omega)
    have d6 : decide ((M : Int) < 1024) = true := decide_eq_true (by omega)
    simp (disch := omega) only [aQ, d5, pB, if_true, aG, bJ, aA, Bc, hmx, aS, d6, nF, d3, aE]
    exact fin 0 10 3 (by omega) rfl (hls 0) (by omega) (by omega) (by omega) ⟨fun _ => hlt, fun _ => rfl⟩
   have d5 : decide ((l.length : Int) < 256) = false := decide_eq_false (by omega)
   by_cases h1 : M < 1024
   .have d6 : decide ((M : Int) < 1024) = true := decide_eq_true (by omega)
    simp (disch := omega) only [aQ, d5, sL, aLb, if_false, aE, cK, aA, Bc, hmx, aS, d6, aG, nF, d3]
    exact fin 1 10 3 (by omega) rfl (hls 1) (by omega) (by omega) (by omega) ⟨fun h => (by omega), fun h => (by omega)⟩
   have d6 : decide ((M : Int) < 1024) = false := decide_eq_false (by omega)
   by_cases h2 : M < 16384
   .have d7 : decide ((M : Int) < 16384) = true := decide_eq_true (by omega)
    simp (disch := omega) only [aQ, d5, sL, aLb, if_false, aE, cK, aA, Bc, hmx, aS, d6, d7, aG, nF, d3]
    exact fin 2 14 4 (by omega) rfl (hls 2) (by omega) (by omega) (by omega) ⟨fun h => (by omega), fun h => (by omega)⟩
   .have d7 : decide ((M : Int) < 16384) = false := decide_eq_false (by omega)
    simp (disch := omega) only [aQ, d5, sL, aLb, if_false, aE, cK, aA, Bc, hmx, aS, d6, d7, nF, d3]
    exact fin 3 18 5 (by omega) rfl (hls 3) (by omega) (by omega) (by omega) ⟨fun h => (by omega), fun h => (by omega)⟩
 cases fresh with
 | false =>
   simp (disch := omega) only [aD, aQ, aE, aA, dQ, n0, dI, bE, aLb, if_false, bJ, dE, d1]
   exact tail 3 [] _ w (aW.refl _ _) (Sl.nil w) ⟨rfl, .inl ⟨rfl, rfl⟩⟩ (by simp) (.inr ⟨rfl, rfl, rfl⟩)
 | true =>
   simp (disch := omega) only [aD, aQ, aG, aA, dQ, n0, dI, bE, aLb, if_false, bJ, dE, d1, aE]
   by_cases hbad : gQ (bT wl) = 0 ∨ 129 < wl.length
   .refine (aEn hw hwl hbad).mono ?_
    rintro r w1 ⟨rfl, rfl⟩
    by_cases hd : gQ (bT wl) = 0
    .rw [if_pos hd]
     have n1 : ((1 : Int) != 0) = true := rfl
     simp (disch := omega) only [pT, pS, aA, cY, n1, aG]
     rw [hRR]
     exact ⟨.inl ⟨1, rfl, .inr (.inr ⟨hne, .inl hd, rfl⟩)⟩, aW.refl _ _⟩
    .rw [if_neg hd]
     have n1 : ((12 : Int) != 0) = true := rfl
     simp (disch := omega) only [pT, pS, aA, cY, n1, aG]
     rw [hRR]
     exact ⟨.inl ⟨12, rfl, .inr (.inl ⟨hne, rfl, hd, by omega, rfl⟩)⟩, aW.refl _ _⟩
   .have hd : gQ (bT wl) ≠ 0 := fun h => hbad (.inl h)
    refine (aHE hw rfl hd (by omega)).mono ?_
    rintro r w1 ⟨v', rfl, o1, x1⟩
    have n1 : ((0 : Int) != 0) = false := rfl
    have hbl : (nV (wrB (bT wl))).length = (wrB (bT wl)).length := by simp [nV]
    have hwl2 := axO (bT wl)
    rw [iQ] at hwl2
    have hs := o1.sl
    obtain ⟨a1, c1, rfl⟩ := o1.len
    simp (disch := omega) only [pT, pS, aA, cY, n1, aE]
    exact tail 2 (nV (wrB (bT wl))) _ w1 x1 hs (by rw [hbl]; exact o1) (by omega) (.inl ⟨rfl, rfl, hd, by omega, rfl⟩)
theorem aBT {w : aNE} {b : Nat} {l : List UInt8} (o : eM w b (l.map sU)) : Bs w (.slice (some ⟨b, 0, none⟩) l.length l.length) l :=
 o.bs (aLm _) fun i hi => by simp [hi]
theorem aGk (w : aNE) : aT pg I9 #[] w (fun r w' => r = .bool true /\ aW w w' eT) := by
 refine apA ?_
 unfold arQ Nr
 refine pC (cells := #[.int .u8 1, .int .u8 2]) (by decide) (by decide) (by kernel_rfl) fun w1 o1 x1 s1 => ?_
 refine (aKl (l := [1, 2]) (aBT o1) (by decide)).mono ?_
 rintro r w2 ⟨xa, rfl, oa, x2⟩
 have ea : yO 0 ([1, 2] : List UInt8).length ++ [1, 2] = [16, 1, 2] := by decide
 rw [ea] at oa
 simp (disch := omega) only [aD, pT, pS, aA]
 refine (aJM (c := 7) (n := 3) (by decide)).mono ?_
 rintro r w3 ⟨xb, rfl, ob, x3⟩
 have eb : yO 1 3 ++ [(7 : UInt8)] = [25, 7] := by decide
 rw [eb] at ob
 simp (disch := omega) only [pT, pS, aA]
 refine pC (cells := #[.int .u8 0, .int .u8 1, .int .u8 2, .int .u8 0]) (by decide) (by decide) (by kernel_rfl) fun w4 o4 x4 s4 => ?_
 refine pC (cells := #[.int .u8 2, .int .u8 1, .int .u8 1]) (by decide) (by decide) (by kernel_rfl) fun w5 o5 x5 s5 => ?_
 refine (aCm (l := [0, 1, 2, 0]) (wl := [2, 1, 1]) (fresh := true) (aBT (o4.ext x5 (fun h => h))) (by decide) (aBT o5) (by decide)).mono ?_
 rintro r w6 ⟨hp, x6⟩
 have hd : gQ (bT [2, 1, 1]) = 2 := by decide +kernel
 have hall : ∀ s ∈ bT [0, 1, 2, 0], 0 < bitsOf (wC [2, 1, 1]) s := by decide +kernel
 rcases hp with ⟨e, -, he⟩ | ⟨-, -, -, -, v, bytes, rfl, o6, hbl, -, -, hread⟩
 .rcases he with he | he | he
  .exact absurd he.1 (by decide)
  .exact absurd he.2.2.2.1 (by decide)
  .rcases he.2.1 with h | ⟨s, h1, h2⟩
   .omega
   .have := hall s h1; omega
 have hread := hread [] [] (.inl rfl)
 rw [aLX] at hread
 have hl4 : ([0, 1, 2, 0] : List UInt8).length = 4 := rfl
 rw [hl4] at hbl
 simp (disch := omega) only [pT, pS, aA]
 refine (aAS (v := v) (l := bytes) o6.sl (by omega) (Sl.nil w6) (old := []) (by decide)).mono ?_
 rintro r w7 ⟨hr, x7⟩
 rw [hread] at hr
 obtain ⟨vl, vw, rfl, ol, ow⟩ := hr
 have hca := iH (l := [16, 1, 2]) (((((oa.sl.ext x3 (bZ _)).ext x4 (bZ _)).ext x5 (bZ _)).ext x6 (bZ _)).ext x7 (bZ _))
 have hcb := iH (l := [25, 7]) ((((ob.sl.ext x4 (bZ _)).ext x5 (bZ _)).ext x6 (bZ _)).ext x7 (bZ _))
 have hcl := iH (l := [0, 1, 2, 0]) ol.sl
 have hcw := iH (l := [2, 1, 1]) ow.sl
 obtain ⟨a6, c6, rfl⟩ := o6.len
 have n0 : ((0 : Int) == 0) = true := rfl
 have n1 : ((bytes.length : Int) == (bytes.length : Int)) = true := by simp
 have sa : ((⟨([16, 1, 2] : List UInt8).toArray⟩ : ByteArray).toList == (⟨#[16, 1, 2]⟩ : ByteArray).toList) = true := agH _
 have sb : ((⟨([25, 7] : List UInt8).toArray⟩ : ByteArray).toList == (⟨#[25, 7]⟩ : ByteArray).toList) = true := agH _
 have sl : ((⟨([0, 1, 2, 0] : List UInt8).toArray⟩ : ByteArray).toList == (⟨#[0, 1, 2, 0]⟩ : ByteArray).toList) = true := agH _
 have sw : ((⟨([2, 1, 1] : List UInt8).toArray⟩ : ByteArray).toList == (⟨#[2, 1, 1]⟩ : ByteArray).toList) = true := agH _
 simp (maxSteps := 4000000) (disch := omega) only [x40, x41, x42, x43, aA, hca, zX, sa, pB, bE, if_true, bJ, dQ, n0, hcb, sb, hcl, sl, hcw, sw, aQ, n1, true_and]
 exact (((((x1.seq x2).seq x3).seq x4).seq x5).seq x6).seq x7
abbrev rv (x : ByteArray) (e : Int) : aNF := .agg #[.string x, .int .i64 e]
theorem aIZ {p : Nat} {w : aNE} {x : ByteArray} {e : Int} {c : List aNF} {z : aNF} (o : eM w p c) (hc : c.length = 2) {RR : aNF -> aNE -> Prop}
 (hR : ∀ w', aW w w' (fun y => y = p) -> RR (.tuple #[rv x e, z]) w') :
 aD pg (aR 45 (.pointer (some ⟨p, 0, none⟩)) (rv x e)) w fun _u w => An pg 45 (.pointer (some ⟨p, 0, none⟩)) w fun r0 => RR (.tuple #[r0, z]) w := by
 match c, hc with
 | [c0, c1], _ =>
   refine lV o rfl (by simp [one]) (by simp) fun w6 o6 x6 s6 => ?_
   refine Va o6 (by simp [bM]) ?_
   simp only [bM, aLd, aLc, aLf, aLe, aLi]
   exact hR _ x6
theorem aA7 {x : ByteArray} {e : Int} {n : Nat} {w : aNE} :
 aT pg Gk #[rv x e, .int .i64 n] w (fun r w' => ∃ x' s, r = .tuple #[rv x' (Aw (fZ x) e n).2.2, .string s] /\ fZ x' = (Aw (fZ x) e n).2.1 /\ fZ s = (Aw (fZ x) e n).1 /\ aW w w' eT) := by
 refine atX ?_
 obtain ⟨RR, hRR⟩ : ∃ RR : aNF -> aNE -> Prop, RR = fun r w' => ∃ x' s, r = .tuple #[rv x' (Aw (fZ x) e n).2.2, .string s] /\ fZ x' = (Aw (fZ x) e n).2.1 /\ fZ s = (Aw (fZ x) e n).1 /\ aW w w' eT := ⟨_, rfl⟩
 rw [<- hRR]
 have hll := gM x
 unfold awR QN
 refine nO fun w1 o1 x1 s1 => ?_
 have o1 : eM w1 w.heap.size [.string x, .int .i64 e] := o1
 refine tH fun w2 o2 x2 s2 => ?_
 have o1 := o1.ext x2 (fun h => h)
 have x02 := x1.seq x2
 have z1 := x1.size
 have c0 := o1.cell (off := 0)
 have c1 := o1.cell (off := 1)
 have l1 := mP (off := 0) o1 (by simp)
 simp only [aK7, aK8, aLf, aLe, aLi] at c0 c1 l1
 by_cases he : e = 0
 rotate_left
 .have n1 : (e != 0) = true := by simpa using he
  have ht : Aw (fZ x) e n = ([], fZ x, e) := by unfold Aw; rw [if_pos he]
  simp (disch := omega) only [aD, bX, aLa, aS, aA, cE, mN, gP, c1, aH, cY, n1, l1, aG]
  refine aIZ o2 rfl fun w' x' => ?_
  rw [hRR, ht]
  exact ⟨x, ⟨#[]⟩, rfl, rfl, rfl, x02.new x' (by omega)⟩
 subst he
 have n1 : ((0 : Int) != 0) = false := rfl
 have d0 : decide ((n : Int) < 0) = false := by simp
 by_cases hsh : x.size < n
 .have d1 : decide ((x.size : Int) < (n : Int)) = true := by simp; omega
  have ht : Aw (fZ x) 0 n = ([], fZ x, 10) := by unfold Aw; rw [if_neg (by decide), if_pos (by omega)]
  simp (disch := omega) only [aD, bX, aLa, aS, d0, aA, cE, mN, aE, gP, c1, aH, cY, n1, c0, dU, dE, d1, aG]
  refine GA o1 rfl (by simp) fun w3 o3 x3 s3 => ?_
  simp only [aLd, aLc] at o3
  have l3 := mP (off := 0) o3 (by simp)
  simp only [aLf, aLe, aLi] at l3
  simp (disch := omega) only [l3, aA]
  refine aIZ (o2.ext x3 (by omega)) rfl fun w' x' => ?_
  rw [hRR, ht]
  exact ⟨x, ⟨#[]⟩, rfl, rfl, rfl, (x02.new x3 (by omega)).new x' (by omega)⟩
 .have d1 : decide ((x.size : Int) < (n : Int)) = false := by simp; omega
  have ht : Aw (fZ x) 0 n = ((fZ x).take n, (fZ x).drop n, 0) := by unfold Aw; rw [if_neg (by decide), if_neg (by omega)]
  simp (disch := omega) only [aD, bX, aLa, aS, d0, aA, cE, mN, aE, gP, c1, aH, cY, n1, c0, dU, dE, d1, mT, aK9, jY]
  refine aFK o1 rfl (by simp) fun w3 o3 x3 s3 => ?_
  simp only [aLd, aLc] at o3
  have l3 := mP (off := 0) o3 (by simp)
  simp only [aLf, aLe, aLi] at l3
  simp (disch := omega) only [l3, aA]
  refine aIZ (o2.ext x3 (by omega)) rfl fun w' x' => ?_
  rw [hRR, ht]
  refine ⟨_, _, rfl, ?_, ?_, (x02.new x3 (by omega)).new x' (by omega)⟩
  .rw [Bz, aLH (by rw [aLs]; omega)]
  .rw [Bz]; simp
theorem IG {x : ByteArray} {e : Int} {n : Nat} {w : aNE} (hn : 1 <= n /\ n <= 8) :
 aT pg vG #[rv x e, .int .i64 n] w (fun r w' => ∃ x', r = .tuple #[rv x' (Aw (fZ x) e n).2.2, .int .u64 (sE (Aw (fZ x) e n).1 : Nat)] /\ fZ x' = (Aw (fZ x) e n).2.1 /\ aW w w' eT) := by
 refine afM ?_
 obtain ⟨RR, hRR⟩ : ∃ RR : aNF -> aNE -> Prop, RR = fun r w' => ∃ x', r = .tuple #[rv x' (Aw (fZ x) e n).2.2, .int .u64 (sE (Aw (fZ x) e n).1 : Nat)] /\ fZ x' = (Aw (fZ x) e n).2.1 /\ aW w w' eT := ⟨_, rfl⟩
 rw [<- hRR]
 unfold agF Hs HZ
 refine nO fun w1 o1 x1 s1 => ?_
 have o1 : eM w1 w.heap.size [.string x, .int .i64 e] := o1
 refine tH fun w2 o2 x2 s2 => ?_
 have o1 := o1.ext x2 (fun h => h)
 have x02 := x1.seq x2
 have z1 := x1.size
 have c1 := o1.cell (off := 1)
 have l1 := mP (off := 0) o1 (by simp)
 simp only [aK7, aK8, aLf, aLe, aLi] at c1 l1
 have d1 : decide ((n : Int) < 1) = false := by simp; omega
 have d2 : decide (8 < (n : Int)) = false := by simp; omega
 have main : Dc RR (.int .i64 n) (.pointer (some ⟨w.heap.size, 0, none⟩)) (.pointer (some ⟨w1.heap.size, 0, none⟩)) w2 := by
  unfold Dc Le
  simp (disch := omega) only [aD, l1, aA]
  refine (aA7).mono ?_
  rintro r w3 ⟨x', s, rfl, hx', hs, x3⟩
  simp (disch := omega) only [pT, pS, aA]
  refine lV (o1.ext x3 (fun h => h)) rfl (by simp [one]) (by simp) fun w4 o4 x4 s4 => ?_
  simp only [bM, aLd, aLc] at o4
  have z2 := x02.size
  have z3 := x3.size
  have x04 : aW w w4 eT := (x02.seq x3).new x4 (aLm _)
  have o2 := (o2.ext x3 (fun h => h)).ext x4 (by omega)
  have hlen : (fZ s).length <= 8 := by
   rw [hs]; unfold Aw
   split
   .simp
   .split
    .simp
    .simp; omega
  have hss := gM s
  unfold KD JT LN LI JV
  refine cS.rule (fun m (v : aNF × aNF × aNF) w' => ∃ (i : Nat) (mm : Int), m = s.size - i /\ i <= s.size /\ v = (.int .u64 (sE ((fZ s).take i) : Nat), .int .u64 mm, .int .i64 i) /\ (i < 8 -> mm = ((256 ^ i : Nat) : Int)) /\ w' = w4) s.size ⟨0, 1, rfl, by omega, rfl, fun _ => rfl, rfl⟩ ?_
  rintro m v w5 ⟨i, mm, rfl, hi, rfl, hmm, hw⟩
  rw [hw]; clear hw w5
  unfold C7
  by_cases hlt : i < s.size
  .have d3 : decide ((i : Int) < (s.size : Int)) = true := by simp; omega
   have hmm := hmm (by omega)
   subst hmm
   obtain ⟨c, hc⟩ : ∃ c, c = (fZ s)[i]'(by omega) := ⟨_, rfl⟩
   have hg : s[i]'hlt = c := by rw [QE, hc]
   have htk : (fZ s).take (i + 1) = (fZ s).take i ++ [c] := by rw [aL6, aLg (by omega), <- hc] <;> rfl
   have hnl : sE ((fZ s).take (i + 1)) = sE ((fZ s).take i) + 256 ^ i * c.toNat := by
    rw [htk, amG, aLn, aL3 (by omega)]
   have hb0 := Qm ((fZ s).take i)
   have hb1 := Qm ((fZ s).take (i + 1))
   rw [aLn, aL3 (by omega)] at hb0 hb1
   have hp : 256 ^ i <= 256 ^ 7 := aLj (by omega) (by omega)
   have hp1 : 256 ^ (i + 1) <= 256 ^ 8 := aLj (by omega) (by omega)
   have hcl : c.toNat < 256 := aLO c
   have hps : 256 ^ (i + 1) = 256 ^ i * 256 := aLM ..
   have hcm : 256 ^ i * c.toNat <= 256 ^ i * 256 := Nat.mul_le_mul_left _ (by omega)
   rw [hnl] at hb1
   obtain ⟨m2, hm2⟩ : ∃ z, IntKind.u64.wrap (((256 ^ i : Nat) : Int) * 256) = z := ⟨_, rfl⟩
   have hm3 : i + 1 < 8 -> m2 = ((256 ^ (i + 1) : Nat) : Int) := fun h => by
    have hp2 : 256 ^ (i + 1) <= 256 ^ 7 := aLj (by omega) (by omega)
    rw [<- hm2, hps, Int.natCast_mul]
    exact kS (by omega) (by omega)
   generalize hcx : c.toNat = cx at *
   have hgx : (s[i]'hlt).toNat = cx := by rw [hg, hcx]
   have ew : IntKind.u64.wrap (cx : Int) = (cx : Int) := kS (by omega) (by omega)
   have em : (cx : Int) * ((256 ^ i : Nat) : Int) = ((256 ^ i * cx : Nat) : Int) := by rw [Int.natCast_mul, Int.mul_comm]
   generalize sE ((fZ s).take i) = N at *
   generalize 256 ^ i = P at *
   generalize P * cx = Z at *
   have ez : IntKind.u64.wrap (Z : Int) = (Z : Int) := kS (by omega) (by omega)
   have ea : (N : Int) + (Z : Int) = ((N + Z : Nat) : Int) := by omega
   have en : IntKind.u64.wrap ((N + Z : Nat) : Int) = ((N + Z : Nat) : Int) := kS (by omega) (by omega)
   simp (disch := omega) only [aD, dU, jD, aK9, hgx, oN, hm2, bK, aP, aA, iT, ew, em, ez, ea, en, aS, d3, and_true, aG]
   exact ⟨s.size - (i + 1), by omega, i + 1, m2, rfl, by omega, by rw [hnl] <;> rfl, hm3⟩
  .have d3 : decide ((i : Int) < (s.size : Int)) = false := by simp; omega
   obtain rfl : i = s.size := by omega
   have l4 := mP (off := 0) o4 (by simp)
   simp only [aLf, aLe, aLi] at l4
   unfold C4
   simp (disch := omega) only [aD, dU, oN, bK, aP, aA, aS, d3, l4, aE]
   refine aIZ o2 rfl fun w' x' => ?_
   rw [hRR, <- hss, aMU, hs]
   exact ⟨_, rfl, hx', x04.new x' (by omega)⟩
 by_cases he : e = 0
 .have n1 : (e == 0) = true := by simpa using he
  simp (disch := omega) only [aD, bX, aLa, aA, gP, c1, aH, dQ, n1, pB, bE, if_true, bJ, aS, d1, dI, aLb, if_false, dE, d2, aE]
  exact main
 .have n1 : (e == 0) = false := by simpa using he
  simp (disch := omega) only [aD, bX, aLa, aA, gP, c1, aH, dQ, n1, sL, bE, aLb, if_false, aE, cK]
  exact main
theorem aD2 {c : UInt8} {n : Nat} {w : aNE} (hn : n <= 131072) :
 aT pg IQ #[sU c, .int .i64 n] w (fun r w' => r = .string ⟨(List.replicate n c).toArray⟩ /\ aW w w' eT) := by
 refine aoX ?_
 obtain ⟨RR, hRR⟩ : ∃ RR : aNF -> aNE -> Prop, RR = fun r w' => r = .string ⟨(List.replicate n c).toArray⟩ /\ aW w w' eT := ⟨_, rfl⟩
 rw [<- hRR]
 unfold arS Nf NF
 refine asO (by omega) (by omega) fun w1 o1 x1 s1 => ?_
 simp only [aK9] at o1 ⊢
 obtain ⟨p, hp⟩ : ∃ p, p = w.heap.size := ⟨_, rfl⟩
 rw [<- hp] at o1 ⊢
 unfold OZ PU Pn NJ Pj
 refine cS.rule (fun m (t : aNF) w' => ∃ i : Nat, m = n - i /\ t = .int .i64 i /\ i <= n /\ eM w' p (List.replicate i (sU c) ++ List.replicate (n - i) (.int .u8 0)) /\ aW w1 w' (fun y => y = p)) n
  ⟨0, rfl, rfl, by omega, by simpa using o1, aW.refl _ _⟩ ?_
 rintro m t w2 ⟨i, rfl, rfl, hi, o2, x2⟩
 unfold G2
 by_cases hlt : i < n
 .have d1 : decide ((i : Int) < (n : Int)) = true := by simp; omega
  have ti : (i : Int).toNat = i := aK9 _
  have e1 : (i : Int) + 1 = ((i + 1 : Nat) : Int) := by omega
  simp (disch := omega) only [aD, aS, d1, dA, ti, aLa, bK, aP, aA, aG]
  refine VS o2 (by simp [one, sU]) (by simp; omega) fun w3 o3 x3 s3 => ?_
  rw [aMO _ _ (by simp), aLV, aMR, show n - i = (n - (i + 1)) + 1 from by omega, aLT, aLd] at o3
  simp (disch := omega) only [e1]
  refine ⟨n - (i + 1), by omega, i + 1, rfl, rfl, by omega, ?_, x2.seq x3⟩
  rw [aM3, aLF]
  exact o3
 .have d1 : decide ((i : Int) < (n : Int)) = false := by simp; omega
  have hin : i = n := by omega
  subst hin
  unfold FH
  have hb : Bs w2 (.slice (some ⟨p, 0, none⟩) i i) (List.replicate i c) := by
   have := o2.bs (off := 0) (c := i) (l := List.replicate i c) (by simp) (fun j hj => by
    rw [aLV] at hj
    rw [aLa, aLy (by simp; omega)]
    simp [aMz, hj])
   rw [aLV] at this
   exact this
  have hcv := iH hb
  simp (disch := omega) only [aD, aS, d1, bK, aP, aA, hcv, aE]
  rw [hRR]
  exact ⟨rfl, x1.trans x2 fun y hy h => by omega⟩
abbrev rhC (H : LH) : List aNF := [.int .u64 (H.kind : Nat), .int .u64 (H.form : Nat), .int .i64 (H.size : Nat), .int .u64 (H.count : Nat), .int .u64 (H.bytes : Nat)]
def rhV (H : LH) : aNF := .agg #[.int .u64 (H.kind : Nat), .int .u64 (H.form : Nat), .int .i64 (H.size : Nat), .int .u64 (H.count : Nat), .int .u64 (H.bytes : Nat)]
theorem aGq {RR : aNF -> aNE -> Prop} {H : LH} {p q : Nat} {z : List aNF} {w : aNE} (oq : eM w q (rhC H)) (op : eM w p z) (hz : z.length = 5) (hne : p ≠ q) (hc : H.count < 2 ^ 62)
 (hk : ∀ w', aW w w' (fun y => y = p) -> RR (.tuple #[rhV H, .int .i64 (if 131072 < H.count then 12 else 0 : Int)]) w') :
 Ay RR (.pointer (some ⟨p, 0, none⟩)) (.pointer (some ⟨q, 0, none⟩)) w := by
 unfold Ay
 have k3 := oq.cell (off := 3)
 simp only [aK7, aK8] at k3
 have l := AN (off := 0) oq (by simp)
 simp only [aLf, aLe, aLi] at l
 obtain ⟨z0, z1, z2, z3, z4, rfl⟩ : ∃ z0 z1 z2 z3 z4, z = [z0, z1, z2, z3, z4] := by
  match z, hz with
  | [z0, z1, z2, z3, z4], _ => exact ⟨_, _, _, _, _, rfl⟩
 by_cases h : 131072 < H.count
 .have d1 : decide ((H.count : Int) > 131072) = true := decide_eq_true (by omega)
  have d2 : decide ((131072 : Int) < (H.count : Int)) = true := decide_eq_true (by omega)
  rw [if_pos h] at hk
  simp (disch := omega) only [aD, aV, aLa, aA, gV, k3, aH, dE, d1, l, aG]
  refine sH op rfl (by simp [one]) (by simp) fun w1 o1 x1 s1 => ?_
  refine vS o1 (by simp [bM]) ?_
  simp only [bM, aLd, aLc, aLf, aLe, aLi]
  exact hk w1 x1
 .have d1 : decide ((H.count : Int) > 131072) = false := decide_eq_false (by omega)
  have d2 : decide ((131072 : Int) < (H.count : Int)) = false := decide_eq_false (by omega)
  rw [if_neg h] at hk
  simp (disch := omega) only [aD, aV, aLa, aA, gV, k3, aH, dE, d1, l, aE]
  refine sH op rfl (by simp [one]) (by simp) fun w1 o1 x1 s1 => ?_
  refine vS o1 (by simp [bM]) ?_
  simp only [bM, aLd, aLc, aLf, aLe, aLi]
  exact hk w1 x1
theorem aF2 {RR : aNF -> aNE -> Prop} {kd fm W p q : Nat} {b : ByteArray} {z : List aNF} {x0 : UInt8} {rs : List UInt8} {w : aNE} (hb : fZ b = x0 :: rs) (hkd : kd = x0.toNat % 4) (hfm : fm = x0.toNat / 4 % 4)
 (oq : eM w q [.int .u64 kd, .int .u64 fm, .int .i64 (mF kd fm : Nat), .int .u64 0, .int .u64 0]) (op : eM w p z) (hz : z.length = 5) (hne : p ≠ q) (hW : 2 <= kd -> W = 2 ^ QC fm)
 (hk : ∀ w', aW w w' (fun y => y = p ∨ y = q) -> RR (.tuple #[rhV (qI (x0 :: rs)).1, .int .i64 (qI (x0 :: rs)).2]) w') :
 CT RR (.string b) (.pointer (some ⟨p, 0, none⟩)) (.pointer (some ⟨q, 0, none⟩)) (.int .u64 W) w := by
 unfold CT R3
 have k2 := oq.cell (off := 2)
 simp only [aK7, aK8] at k2
 have hsz := SK kd fm
 have hL : qI (x0 :: rs) = if (x0 :: rs).length < mF kd fm then (⟨kd, fm, mF kd fm, 0, 0⟩, 10)
     else (⟨kd, fm, mF kd fm, sE ((x0 :: rs).take (mF kd fm)) / 2 ^ qT kd fm % 2 ^ tN kd fm, sE ((x0 :: rs).take (mF kd fm)) / 2 ^ qT kd fm / 2 ^ tN kd fm⟩,
      if 131072 < sE ((x0 :: rs).take (mF kd fm)) / 2 ^ qT kd fm % 2 ^ tN kd fm then 12 else 0) := by
  subst hkd hfm; rfl
 rw [hL] at hk
 have hkd4 : kd < 4 := by omega
 have hfm4 : fm < 4 := by omega
 clear hL hkd hfm
 generalize hszg : mF kd fm = sz at *
 simp (disch := omega) only [aD, dH, bR, aLa, jJ, and_true, true_and, aY, aA, aV, cA, gV, bO, k2, aH]
 refine (IG (x := b) (e := 0) (n := sz) (by omega)).mono ?_
 rintro r w1 ⟨y, rfl, hy, x1⟩
 rw [hb] at hy ⊢
 generalize x0 :: rs = l at *
 obtain ⟨z0, z1, z2, z3, z4, rfl⟩ : ∃ z0 z1 z2 z3 z4, z = [z0, z1, z2, z3, z4] := by
  match z, hz with
  | [z0, z1, z2, z3, z4], _ => exact ⟨_, _, _, _, _, rfl⟩
 simp (disch := omega) only [pT, pS, aA, oR]
 refine tH fun w2 o2 x2 s2 => ?_
 refine lV o2 rfl (by simp [one]) (by simp) fun w3 o3 x3 s3 => ?_
 simp only [bM, aLd, aLc] at o3
 have x13 : aW w1 w3 eT := x2.new x3 (by omega)
 have x03 := x1.seq x13
 have z1' := x1.size
 have lq := oq.lt
 have lp := op.lt
 have oq3 := oq.ext x03 (fun h => h)
 have op3 := op.ext x03 (fun h => h)
 by_cases hs : l.length < sz
 .have ht : Aw l 0 sz = ([], l, 10) := by unfold Aw; rw [if_neg (by simp), if_pos hs]
  rw [ht] at o3 ⊢
  rw [if_pos hs] at hk
  simp only at o3 ⊢
  have k1 := o3.cell (off := 1)
  have k1d := (kA o3).cell (off := 1)
  simp only [aK7, aK8] at k1 k1d
  have n1 : ((10 : Int) != 0) = true := rfl
  have lh := AN (off := 0) (kA oq3) (by simp)
  simp only [aLf, aLe, aLi] at lh
  simp (disch := omega) only [bX, aLa, Result.ok.injEq, Next.value.injEq, and_true, aA, gP, true_and, k1, aH, cY, n1, lh, k1d, aG]
  refine sH (kA op3) rfl (by simp [one]) (by simp) fun w4 o4 x4 s4 => ?_
  have k1e := (((kA o3).ext x4 (by omega))).cell (off := 1)
  simp only [aK7, aK8] at k1e
  simp (disch := omega) only [k1e, aH, true_and]
  refine vS o4 (by simp [bM]) ?_
  simp only [bM, aLd, aLc, aLf, aLe, aLi]
  exact hk w4 (((x03.seq (aW.dr _ _)).mono fun _ _ h => h.elim).seq (x4.mono fun _ _ h => .inl h))
 have ht : Aw l 0 sz = (l.take sz, l.drop sz, 0) := by unfold Aw; rw [if_neg (by simp), if_neg hs]
 rw [ht] at o3 ⊢
 rw [if_neg hs] at hk
 simp only at o3 ⊢
 have k1 := o3.cell (off := 1)
 have k0 := oq3.cell (off := 0)
 have k2 := oq3.cell (off := 2)
 simp only [aK7, aK8] at k0 k1 k2
 have n1 : ((0 : Int) != 0) = false := rfl
 have hx40 := aaV (l := l) hsz.2
 obtain ⟨X, hX⟩ : ∃ X, X = sE (l.take sz) := ⟨_, rfl⟩
 rw [<- hX] at hx40 hk ⊢
 have endg : ∀ (H : LH) (w4 : aNE), eM w4 q (rhC H) -> aW w3 w4 (fun y => y = q) -> H = ⟨kd, fm, sz, X / 2 ^ qT kd fm % 2 ^ tN kd fm, X / 2 ^ qT kd fm / 2 ^ tN kd fm⟩ →
     Ay RR (.pointer (some ⟨p, 0, none⟩)) (.pointer (some ⟨q, 0, none⟩)) w4 := by
  intro H w4 o4 x4 hH
  have hcb : H.count < 2 ^ 62 := by
   rw [hH]
   have h1 := Nat.mod_le (X / 2 ^ qT kd fm) (2 ^ tN kd fm)
   have h2 := aMa X (2 ^ qT kd fm)
   show X / 2 ^ qT kd fm % 2 ^ tN kd fm < 2 ^ 62
   omega
  refine aGq o4 (op3.ext x4 hne) rfl hne hcb fun w5 x5 => ?_
  rw [hH]
  exact hk w5 (((x03.mono fun _ _ h => h.elim).seq (x4.mono fun _ _ h => .inr h)).seq (x5.mono fun _ _ h => .inl h))
 by_cases hk2 : kd < 2
 .have hW20 : tN kd fm = 20 := by unfold tN; rw [if_pos hk2]
  have hp := aC1 (k := kd) (f := fm) (l := l) hk2
  rw [hszg, <- hX] at hp
  have m1 : X / 2 ^ qT kd fm % 2 ^ tN kd fm = X / 2 ^ qT kd fm := by rw [hW20]; exact aLP hp
  have m2 : X / 2 ^ qT kd fm / 2 ^ tN kd fm = 0 := by rw [hW20]; exact aNz hp
  have d1 : decide ((kd : Int) < 2) = true := decide_eq_true (by omega)
  by_cases hs1 : sz = 1
  .have n2 : ((sz : Int) == 1) = true := by rw [hs1] <;> rfl
   have hdn : qT kd fm = 3 := by unfold qT; rw [if_pos ⟨hk2, by rw [hszg]; exact hs1⟩]
   have e1 : ((X : Int)).tdiv 8 = ((X / 8 : Nat) : Int) := by rw [aLr (by omega)]; omega
   simp (disch := omega) only [bX, aLa, Result.ok.injEq, Next.value.injEq, and_true, aA, gP, true_and, e1, kS, k1, aH, cY, n1, k0, aS, d1, pB, bE, if_true, bJ, bO, k2, dQ, n2, aG, aE]
   refine MO oq3 rfl (by simp) fun w4 o4 x4 s4 => ?_
   simp only [aLd, aLc] at o4
   exact endg ⟨kd, fm, sz, X / 8, 0⟩ w4 o4 x4 (by rw [m1, m2, hdn])
  .have n2 : ((sz : Int) == 1) = false := beq_eq_false_iff_ne.2 (by omega)
   have hdn : qT kd fm = 4 := by unfold qT; rw [if_neg (by rw [hszg]; exact fun h => hs1 h.2)]
   have e1 : ((X : Int)).tdiv 16 = ((X / 16 : Nat) : Int) := by rw [aLr (by omega)]; omega
   simp (disch := omega) only [bX, aLa, Result.ok.injEq, Next.value.injEq, and_true, aA, gP, true_and, e1, kS, k1, aH, cY, n1, k0, aS, d1, pB, bE, if_true, bJ, bO, k2, dQ, n2, aG, aE]
   refine MO oq3 rfl (by simp) fun w4 o4 x4 s4 => ?_
   simp only [aLd, aLc] at o4
   exact endg ⟨kd, fm, sz, X / 16, 0⟩ w4 o4 x4 (by rw [m1, m2, hdn])
 .have d1 : decide ((kd : Int) < 2) = false := decide_eq_false (by omega)
  have hWd : tN kd fm = QC fm := by unfold tN; rw [if_neg hk2]
  have hdn : qT kd fm = 4 := by unfold qT; rw [if_neg (fun h => hk2 h.1)]
  have hW' := hW (by omega)
  have hlb := axD fm
  have hWp : 0 < W := by rw [hW']; exact aLC _
  have e1 : ((X : Int)).tdiv 16 = ((X / 16 : Nat) : Int) := by rw [aLr (by omega)]; omega
  have e2 : (((X / 16 : Nat) : Int)).tmod (W : Int) = ((X / 16 % W : Nat) : Int) := by rw [aLB (by omega)] <;> rfl
  have hdl : X / 16 / W <= X / 16 := aMa _ _
  have wq : IntKind.u64.wrap ((X / 16 / W : Nat) : Int) = ((X / 16 / W : Nat) : Int) := by generalize X / 16 / W = D at *; exact kS (by omega) (by omega)
  have e3 : (((X / 16 : Nat) : Int)).tdiv (W : Int) = ((X / 16 / W : Nat) : Int) := by rw [aLr (by omega)] <;> rfl
  simp (disch := omega) only [bX, aLa, Result.ok.injEq, Next.value.injEq, and_true, aA, gP, true_and, e1, kS, rD, e2, oR, e3, wq, k1, aH, cY, n1, k0, aS, d1, sL, bE, aLb, if_false, aE, cK]
  refine MO oq3 rfl (by simp) fun w4 o4 x4 s4 => ?_
  simp only [aLd, aLc] at o4
  refine MO o4 rfl (by simp) fun w5 o5 x5 s5 => ?_
  simp only [aLd, aLc] at o5
  exact endg ⟨kd, fm, sz, X / 16 % W, X / 16 / W⟩ w5 o5 (x4.seq x5) (by rw [hWd, hdn, hW'])
theorem aFE {b : ByteArray} {w : aNE} :
 aT pg Mc #[.string b] w (fun r w' => r = .tuple #[rhV (qI (fZ b)).1, .int .i64 (qI (fZ b)).2] /\ aW w w' eT) := by
 refine auQ ?_
 obtain ⟨RR, hRR⟩ : ∃ RR : aNF -> aNE -> Prop, RR = fun r w' => r = .tuple #[rhV (qI (fZ b)).1, .int .i64 (qI (fZ b)).2] /\ aW w w' eT := ⟨_, rfl⟩
 rw [<- hRR]
 have key : ∀ w', aW w w' eT -> RR (.tuple #[rhV (qI (fZ b)).1, .int .i64 (qI (fZ b)).2]) w' := fun w' h2 => by rw [hRR]; exact ⟨rfl, h2⟩
 unfold awA RM RU
 refine Bt fun w1 o1 x1 s1 => ?_
 refine Bt fun w2 o2 x2 s2 => ?_
 have z1 := x1.size
 obtain ⟨p, hp⟩ : ∃ p, p = w.heap.size := ⟨_, rfl⟩
 obtain ⟨q, hq⟩ : ∃ q, q = w1.heap.size := ⟨_, rfl⟩
 rw [<- hp] at o1 ⊢
 rw [<- hq] at o2 ⊢
 have l1 := o1.lt
 have hne : p ≠ q := by omega
 have o12 := o1.ext x2 (fun h => h)
 have x02 := x1.seq x2
 have hsz := gM b
 cases hl : fZ b with
 | nil =>
   rw [hl] at key
   have hbe : b = ⟨#[]⟩ := XW (by rw [hl] <;> rfl)
   subst hbe
   have l := AN (off := 0) o2 (by simp)
   simp only [aLf, aLe, aLi] at l
   simp (disch := omega) only [aD, zX, ahH, aY, cD, aLa, bR, aA, gV, l, aG]
   refine sH o12 rfl (by simp [one]) (by simp) fun w3 o3 x3 s3 => ?_
   refine vS o3 (by simp [bM]) ?_
   simp only [bM, aLd, aLc, aLf, aLe, aLi]
   exact key w3 (x02.trans x3 fun y hy h => by omega)
 | cons x0 rs =>
   rw [hl] at key hsz
   rw [aLw] at hsz
   have hen := aoO (x := b) (by omega)
   have hx0 : x0.toNat < 256 := aLO x0
   have g0 : (b[0]'(by omega)).toNat = x0.toNat := by
    have := QE b 0 (by omega)
    rw [this]; simp only [hl, aMF]
   have t0 : (0 : Int).toNat = 0 := rfl
   obtain ⟨kd, hkd⟩ : ∃ kd, kd = x0.toNat % 4 := ⟨_, rfl⟩
   obtain ⟨fm, hfm⟩ : ∃ fm, fm = x0.toNat / 4 % 4 := ⟨_, rfl⟩
   have f1 : ((x0.toNat : Int)).tmod 4 = (kd : Int) := by rw [aLB (by omega)]; omega
   have f2 : ((x0.toNat : Int)).tdiv 4 = ((x0.toNat / 4 : Nat) : Int) := by rw [aLr (by omega)]; omega
   have f3 : (((x0.toNat / 4 : Nat) : Int)).tmod 4 = (fm : Int) := by rw [aLB (by omega)]; omega
   have hkd4 : kd < 4 := by omega
   have hfm4 : fm < 4 := by omega
   have tf : (fm : Int).toNat = fm := aK9 _
   have mid : ∀ (W : Nat) (w4 : aNE), eM w4 q [.int .u64 kd, .int .u64 fm, .int .i64 (mF kd fm : Nat), .int .u64 0, .int .u64 0] -> aW w2 w4 (fun y => y = q) -> (2 <= kd -> W = 2 ^ QC fm) →
       CT RR (.string b) (.pointer (some ⟨p, 0, none⟩)) (.pointer (some ⟨q, 0, none⟩)) (.int .u64 W) w4 := by
    intro W w4 o4 x4 hW
    refine aF2 hl hkd hfm o4 (o12.ext x4 hne) rfl hne hW fun w5 x5 => key w5 ?_
    exact (x02.trans x4 fun y hy h => by omega).trans x5 fun y hy h => by omega
   simp (disch := omega) only [aD, zX, hen, jD, t0, g0, aY, cD, aLa, bR, aA, gV, oR, f2, xK, rD, f3, iT, kS, f1, aE]
   refine MO o2 rfl (by simp) fun w3 o3 x3 s3 => ?_
   simp only [aLd, aLc] at o3
   try simp (disch := omega) only [true_and]
   refine MO o3 rfl (by simp) fun w4 o4 x4 s4 => ?_
   simp only [aLd, aLc] at o4
   have k0 := o4.cell (off := 0)
   simp only [aK7] at k0
   have x24 := x3.seq x4
   by_cases hk2 : kd < 2
   .have d1 : decide ((kd : Int) < 2) = true := decide_eq_true (by omega)
    simp (disch := omega) only [k0, aH, aA, aS, d1, aG]
    refine XO (cells := #[.int .i64 1, .int .i64 2, .int .i64 1, .int .i64 3]) (by decide) (by decide) (by kernel_rfl) fun w5 o5 x5 s5 => ?_
    have o45 := o4.ext x5 (fun h => h)
    have k1 := o45.cell (off := 1)
    simp only [aK7, aK8] at k1
    have kf := o5.cell (off := fm)
    have kf2 : ([.int .i64 1, .int .i64 2, .int .i64 1, .int .i64 3] : List aNF)[fm]? = some (.int .i64 (mF kd fm : Nat)) := by
     unfold mF
     rw [if_pos hk2]
     rcases (show fm = 0 ∨ fm = 1 ∨ fm = 2 ∨ fm = 3 by omega) with h | h | h | h <;> (rw [h] <;> rfl)
    have kf : w5.cell? ⟨w4.heap.size, fm, none⟩ = some (.int .i64 (mF kd fm : Nat)) := kf.trans kf2
    simp (disch := omega) only [k1, aH, aA, iD, tf, aLa, bO, kf]
    refine pD o45 rfl (by simp) fun w6 o6 x6 s6 => ?_
    simp only [aLd, aLc] at o6
    exact mid 1024 w6 o6 ((x24.seq (x5.mono fun _ _ h => h.elim)).seq x6) (fun h => by omega)
   .have d1 : decide ((kd : Int) < 2) = false := decide_eq_false (by omega)
    simp (disch := omega) only [k0, aH, aA, aS, d1, aE]
    refine XO (cells := #[.int .i64 3, .int .i64 3, .int .i64 4, .int .i64 5]) (by decide) (by decide) (by kernel_rfl) fun w5 o5 x5 s5 => ?_
    have o45 := o4.ext x5 (fun h => h)
    have k1 := o45.cell (off := 1)
    simp only [aK7, aK8] at k1
    have kf := o5.cell (off := fm)
    have kf2 : ([.int .i64 3, .int .i64 3, .int .i64 4, .int .i64 5] : List aNF)[fm]? = some (.int .i64 (mF kd fm : Nat)) := by
     unfold mF
     rw [if_neg hk2]
     rcases (show fm = 0 ∨ fm = 1 ∨ fm = 2 ∨ fm = 3 by omega) with h | h | h | h <;> (rw [h] <;> rfl)
    have kf : w5.cell? ⟨w4.heap.size, fm, none⟩ = some (.int .i64 (mF kd fm : Nat)) := kf.trans kf2
    simp (disch := omega) only [k1, aH, aA, iD, tf, aLa, bO, kf]
    refine pD o45 rfl (by simp) fun w6 o6 x6 s6 => ?_
    simp only [aLd, aLc] at o6
    refine agK (cells := #[.int .u64 1024, .int .u64 1024, .int .u64 16384, .int .u64 262144]) (by decide) (by decide) (by kernel_rfl) fun w7 o7 x7 s7 => ?_
    have o67 := o6.ext x7 (fun h => h)
    have k7 := o67.cell (off := 1)
    simp only [aK7, aK8] at k7
    have kg := o7.cell (off := fm)
    have kg2 : ([.int .u64 1024, .int .u64 1024, .int .u64 16384, .int .u64 262144] : List aNF)[fm]? = some (.int .u64 (2 ^ QC fm : Nat)) := by
     unfold QC
     rcases (show fm = 0 ∨ fm = 1 ∨ fm = 2 ∨ fm = 3 by omega) with h | h | h | h <;> (rw [h] <;> rfl)
    have kg : w7.cell? ⟨w6.heap.size, fm, none⟩ = some (.int .u64 (2 ^ QC fm : Nat)) := kg.trans kg2
    simp (disch := omega) only [k7, aH, aA, kV, tf, aLa, gV, kg]
    exact mid (2 ^ QC fm) w7 o67 (((x24.seq (x5.mono fun _ _ h => h.elim)).seq x6).seq (x7.mono fun _ _ h => h.elim)) (fun h => rfl)
def RBh (w : aNE) (lo hi : Nat) (b : aNF) (B : List Bool) (left : Int) : Prop := RB w lo hi b (B.take left.toNat) (-left).toNat
theorem RBh.ext {w w' : aNE} {lo hi : Nat} {b : aNF} {B : List Bool} {left : Int} {M : Nat -> Prop} (h : RBh w lo hi b B left) (x : aW w w' M) (hM : ∀ b, lo <= b -> b < hi -> ¬ M b) : RBh w' lo hi b B left := RB.ext h x hM
theorem RBh.form {w : aNE} {lo hi : Nat} {b : aNF} {B : List Bool} {left : Int} (h : RBh w lo hi b B left) : ∃ a k c i, b = .agg #[.slice a k c, .int .i64 i] := by
 obtain ⟨v, rfl, hs, _⟩ := h
 obtain ⟨a, c, rfl, _⟩ := GG hs
 exact ⟨_, _, _, _, rfl⟩
theorem RBh.step {w : aNE} {lo hi n : Nat} {b : aNF} {B : List Bool} {left : Int} (hl : left <= B.length)
 (h : RB w lo hi b ((B.take left.toNat).take ((B.take left.toNat).length - min n (B.take left.toNat).length)) ((-left).toNat + (n - min n (B.take left.toNat).length))) : RBh w lo hi b B (left - n) := by
 have hlen : (B.take left.toNat).length = left.toNat := by rw [aLn]; omega
 rw [hlen, aNv] at h
 have e1 : min (left.toNat - min n left.toNat) left.toNat = (left - n).toNat := by omega
 have e2 : (-left).toNat + (n - min n left.toNat) = (-(left - n)).toNat := by omega
 rw [e1, e2] at h
 exact h
theorem aH5 {lo hi n : Nat} {b : aNF} {B : List Bool} {left : Int} {w : aNE} (h : RBh w lo hi b B left) (hn : n <= 56) (hl : left <= B.length) (hB : B.length <= 10000000) (hk : -1000000000 <= left) :
 aT pg zJ #[b, .int .i64 n] w (fun r w' => ∃ b', r = .tuple #[b', .int .u64 (LW B left n : Nat)] /\ RBh w' lo hi b' B (left - n) /\ aW w w' eT) := by
 have hlen : (B.take left.toNat).length <= 10000000 := by rw [aLn]; omega
 refine (aqD h hn hlen (by omega)).mono ?_
 rintro r w1 ⟨b', rfl, h1, x1⟩
 exact ⟨b', rfl, RBh.step hl h1, x1⟩
theorem aKq {cb cap lo hi m : Nat} {C : List (Nat × Nat)} {rest : List aNF} {bv : aNF} {B : List Bool} {left : Int} {w : aNE} (hF : YD C m) (hm : m <= 11) (hC : C.length <= 256) (oc : eM w cb (cc C ++ rest)) (h : RBh w lo hi bv B left) (hhi : hi <= w.heap.size) (hl : left <= B.length) (hB : B.length <= 10000000) (hk : -100000000 <= left) :
 aT pg Qx #[.slice (some ⟨cb, 0, none⟩) C.length cap, bv] w (fun r w' => ∃ b', r = .tuple #[b', .int .u8 (EF C m (LW B left m) : Nat)] /\ RBh w' lo hi b' B (left - bitsOf C (EF C m (LW B left m))) /\ aW w w' eT) := by
 refine ayS ?_
 obtain ⟨RR, hRR⟩ : ∃ RR : aNF -> aNE -> Prop, RR = fun r w' => ∃ b', r = .tuple #[b', .int .u8 (EF C m (LW B left m) : Nat)] /\ RBh w' lo hi b' B (left - bitsOf C (EF C m (LW B left m))) /\ aW w w' eT := ⟨_, rfl⟩
 rw [<- hRR]
 have hX := Ke B left m
 have hhit := apO hF hX
 obtain ⟨bs, c0, hsy, hbs0, hc0⟩ := OM.1 hhit
 have hun : ∀ s, G6 C m (LW B left m) s = true -> EF C m (LW B left m) = s := fun s hs => axJ hF hX hs
 generalize hsye : EF C m (LW B left m) = sy at *
 have hbo := apR hsy
 rw [hbo] at hRR
 have hsyl := (aL5.1 hsy).1
 have hbm := (hF.le sy bs c0 hsy).1
 have hdiv : ∀ b, b <= m -> LW B left m / 2 ^ (m - b) = LW B left b := fun b hb => (aB3 hl hb).1
 rw [hdiv bs hbm] at hc0
 unfold aAX Ro Sb
 have hz := oc.lt
 refine nO fun w1 o1 x1 s1 => ?_
 refine jU fun w2 o2 x2 s2 => ?_
 have z1 := x1.size
 obtain ⟨p3, hp3⟩ : ∃ p, p = w.heap.size := ⟨_, rfl⟩
 obtain ⟨p4, hp4⟩ : ∃ p, p = w1.heap.size := ⟨_, rfl⟩
 rw [<- hp3] at o1 ⊢
 rw [<- hp4] at o2 ⊢
 have x02 := x1.seq x2
 have oc2 := oc.ext x02 (fun h => h)
 unfold QT RP Rk QU Q1
 refine cS.rule (fun k (t : aNF × aNF) w' => ∃ (bits : Nat) (bv' : aNF), k = 12 - bits /\ t = (.int .i64 (LW B left (bits - 1) : Nat), .int .i64 (bits : Nat)) /\ 1 <= bits /\ bits <= bs /\ eM w' p3 bv'.cells.toList /\ RBh w' lo hi bv' B (left - (bits - 1 : Nat)) /\ aW w2 w' (fun y => y = p3)) 11
  ⟨1, bv, rfl, ?_, by omega, by omega, o1.ext x2 (fun h => h), ?_, aW.refl _ _⟩ ?_
 .have : LW B left (1 - 1) = 0 := by have := Ke B left 0; simpa using this
  rw [this] <;> rfl
 .have e : left - ((1 - 1 : Nat) : Int) = left := by omega
  rw [e]
  exact h.ext x02 (fun _ _ _ h => h)
 rintro k t w3 ⟨bits, bv', rfl, rfl, hb1, hbb, o3, h3, x3⟩
 have z2 := x2.size
 have z3 := x3.size
 unfold I6 RY
 have d1 : decide ((bits : Int) <= 11) = true := by simp; omega
 simp (disch := omega) only [aD, Bi, d1, aA, aG]
 unfold Tx Ui agO T7
 obtain ⟨a', k', c', i', rfl⟩ := h3.form
 have o3 : eM w3 p3 [.slice a' k' c', .int .i64 i'] := o3
 have q3 := fM (off := 0) o3 (by simp)
 simp only [aLf, aLe, aLi] at q3
 have q3 : (aL 133 (.pointer (some ⟨p3, 0, none⟩))).run pg w3 = .ok (.value (.agg #[.slice a' k' c', .int .i64 i'])) w3 := q3
 simp (disch := omega) only [aD, q3, oN, aA]
 refine (aH5 (n := 1) h3 (by omega) (by omega) hB (by omega)).mono ?_
 rintro r w4 ⟨b4, rfl, h4, x4⟩
 have z4 := x4.size
 obtain ⟨a4, k4, c4, i4, rfl⟩ := h4.form
 simp (disch := omega) only [pT, pS, aA, bY, bK]
 refine jU fun w5 o5 x5 s5 => ?_
 refine cL o5 rfl (by simp [one]) (by simp) fun w6 o6 x6 s6 => ?_
 simp only [bM, aLd, aLc] at o6
 have q6 := fM (off := 0) o6 (by simp)
 simp only [aLf, aLe, aLi] at q6
 have x46 : aW w4 w6 eT := x5.new x6 (by omega)
 have x36 := x4.seq x46
 have o36 := o3.ext x36 (fun h => h)
 simp (disch := omega) only [q6, aA]
 refine cL o36 rfl (by simp [one]) (by simp) fun w7 o7 x7 s7 => ?_
 simp only [bM, aLd, aLc] at o7
 have l1 := o1.lt
 have h7 := (h4.ext x46 (fun _ _ _ h => h)).ext x7 (fun b h1 h2 h3 => by omega)
 have x27 : aW w2 w7 (fun y => y = p3) := (x3.seq (x36.mono fun _ _ h => h.elim)).seq x7
 have o72 := o2.ext x27 (by omega)
 have ocr := oc2.ext x27 (by omega)
 have hadd := aBc (B := B) (left := left) (bits - 1) 1 hl
 rw [show bits - 1 + 1 = bits from by omega, show (2 : Nat) ^ 1 = 2 from rfl] at hadd
 have r1 := Ke B (left - (bits - 1 : Nat)) 1
 have r2 := Ke B left (bits - 1)
 have hp : 2 ^ (bits - 1) <= 2 ^ 11 := aLj (by omega) (by omega)
 have e1 : IntKind.i64.wrap ((LW B (left - (bits - 1 : Nat)) 1 : Nat) : Int) = ((LW B (left - (bits - 1 : Nat)) 1 : Nat) : Int) := aP (by omega) (by omega)
 have e2 : ((LW B left (bits - 1) : Nat) : Int) * 2 + ((LW B (left - (bits - 1 : Nat)) 1 : Nat) : Int) = ((LW B left bits : Nat) : Int) := by omega
 have rb := Ke B left bits
 have hpb : 2 ^ bits <= 2 ^ 11 := aLj (by omega) (by omega)
 simp (disch := omega) only [aP, e1, e2]
 have hl7 : left - ((bits - 1 : Nat) : Int) - ((1 : Nat) : Int) = left - (bits : Nat) := by omega
 rw [hl7] at h7
 unfold Tt TY
 refine cS.rule (fun k (t : aNF) w' => ∃ s : Nat, k = C.length - s /\ t = .int .i64 s /\ s <= C.length /\ (bits = bs -> s <= sy) /\ w' = w7) C.length
  ⟨0, rfl, rfl, by omega, by omega, rfl⟩ ?_
 rintro k t w8 ⟨s, rfl, rfl, hs, hsb, rfl⟩
 unfold MA
 by_cases hlt : s < C.length
 .have d2 : decide ((s : Int) < (C.length : Int)) = true := by simp; omega
  have ts : (s : Int).toNat = s := aK9 _
  have g := aGC hlt
  have hcl := Ev C
  have g0 := ocr.cell (off := s * 2)
  rw [aLy (by omega), g.1] at g0
  have g1 := ocr.cell (off := s * 2 + 1)
  rw [aLy (by omega), g.2] at g1
  have hse : C[s]? = some C[s] := aLg hlt
  generalize C[s] = e at *
  obtain ⟨b, c⟩ := e
  simp only at g0 g1
  by_cases hbe : b = bits
  .have d3 : ((b : Int) == (bits : Int)) = true := by simp [hbe]
   by_cases hce : c = LW B left bits
   .have d4 : ((c : Int) == ((LW B left bits : Nat) : Int)) = true := by simp [hce]
    have hit : G6 C m (LW B left m) s = true := by
     rw [OM]
     refine ⟨b, c, hse, by omega, ?_⟩
     rw [hdiv b (by omega), hbe, hce]
    have hss : sy = s := hun s hit
    have hbb2 : bs = bits := by
     rw [hss, hse] at hsy
     have := aLA hsy
     cases this
     exact hbe
    have q7 := fM (off := 0) o7 (by simp)
    simp only [aLf, aLe, aLi] at q7
    have w8e : IntKind.u8.wrap (s : Int) = s := xK (by omega) (by omega)
    simp (disch := omega) only [aD, cW, dM, ts, aLa, eS, w8e, aA, bK, aP, cO, bO, aS, d2, g0, aH, dQ, d3, pB, bE, if_true, bJ, dB, g1, d4, q7, and_true, aG]
    refine cL o72 rfl (by simp [one]) (by simp) fun w9 o9 x9 s9 => ?_
    refine lX o9 (by simp [bM]) ?_
    simp only [bM, aLd, aLc, aLf, aLe, aLi]
    rw [hRR]
    have l2 := o2.lt
    refine ⟨_, by rw [hss], ?_, (x02.trans x27 fun y hy h => by omega).trans x9 fun y hy h => by omega⟩
    rw [hbb2]
    exact h7.ext x9 (fun b h1 h2 h3 => by omega)
   .have d4 : ((c : Int) == ((LW B left bits : Nat) : Int)) = false := beq_eq_false_iff_ne.2 (by omega)
    simp (disch := omega) only [aD, cW, dM, ts, aLa, eS, xK, aA, bK, aP, cO, bO, aS, d2, g0, aH, dQ, d3, pB, bE, if_true, bJ, dB, g1, d4, and_true, aE, aG]
    refine ⟨C.length - (s + 1), by omega, s + 1, rfl, by simp, by omega, fun hbq => ?_⟩
    have := hsb hbq
    rcases aLv s sy with h9 | h9
    .omega
    .exfalso
     obtain rfl : s = sy := by omega
     rw [hse] at hsy
     cases aLA hsy
     exact hce (by rw [<- hbe]; exact hc0.symm)
  .have d3 : ((b : Int) == (bits : Int)) = false := beq_eq_false_iff_ne.2 (by omega)
   simp (disch := omega) only [aD, cW, dM, ts, aLa, eS, xK, aA, bK, aP, cO, bO, aS, d2, g0, aH, dQ, d3, sL, bE, aLb, if_false, aE, cK, and_true, aG]
   refine ⟨C.length - (s + 1), by omega, s + 1, rfl, by simp, by omega, fun hbq => ?_⟩
   have := hsb hbq
   rcases aLv s sy with h9 | h9
   .omega
   .exfalso
    obtain rfl : s = sy := by omega
    rw [hse] at hsy
    cases aLA hsy
    exact hbe hbq.symm
 .have d2 : decide ((s : Int) < (C.length : Int)) = false := by simp; omega
  have hne : bits < bs := by
   rcases aLv bits bs with h9 | h9
   .exact h9
   .have := hsb (by omega)
    omega
  have e3 : (bits : Int) + 1 = ((bits + 1 : Nat) : Int) := by omega
  simp (disch := omega) only [aD, cW, eS, aA, bK, aP, aS, d2, aE]
  unfold Mu
  simp (disch := omega) only [aD, bK, e3, aP, aA]
  refine ⟨12 - (bits + 1), by omega, bits + 1, .agg #[.slice a4 k4 c4, .int .i64 i4], rfl, rfl, by omega, by omega, o7, ?_, x27⟩
  exact h7
theorem asP {cb cap n : Nat} {C : List (Nat × Nat)} {rest : List aNF} {x : ByteArray} {w : aNE} (hF : YD C (pI C)) (hm : pI C <= 11) (hC : C.length <= 256) (oc : eM w cb (cc C ++ rest)) (hx : x.size <= 1000000) (hn : n <= 100000) :
 aT pg BM #[.slice (some ⟨cb, 0, none⟩) C.length cap, .string x, .int .i64 n] w (fun r w' => zF (rU C (fZ x) n) r /\ aW w w' eT) := by
 refine ajF ?_
 obtain ⟨RR, hRR⟩ : ∃ RR : aNF -> aNE -> Prop, RR = fun r w' => zF (rU C (fZ x) n) r /\ aW w w' eT := ⟨_, rfl⟩
 rw [<- hRR]
 have key : ∀ r w', zF (rU C (fZ x) n) r -> aW w w' eT -> RR r w' := fun r w' h1 h2 => by rw [hRR]; exact ⟨h1, h2⟩
 unfold aeY Lt LD
 have hll := gM x
 have hlc := oc.lt
 cases he : Yf (fZ x) with
 | none =>
   refine (ayG he hx).mono ?_
   rintro r w1 ⟨rfl, x1⟩
   have n0 : ((11 : Int) != 0) = true := rfl
   simp (disch := omega) only [aD, pT, pS, aA, cY]
   refine jU fun w2 o2 x2 s2 => ?_
   refine cL o2 rfl (by simp [one]) (by simp) fun w3 o3 x3 s3 => ?_
   simp (disch := omega) only [n0, aG]
   exact key _ _ (by unfold rU; rw [he] <;> rfl) (x1.seq (x2.new x3 (by omega)))
 | some k =>
   have hk := Ij he
   have hstr : rU C (fZ x) n = if (Ce C (pI C) (aZ (fZ x)) n (k : Int)).2 < 0 then .error 11
       else if 0 < (Ce C (pI C) (aZ (fZ x)) n (k : Int)).2 then .error 15
       else .ok (Ce C (pI C) (aZ (fZ x)) n (k : Int)).1 := by unfold rU; rw [he]
   rw [hstr] at key
   refine (aAC he hx).mono ?_
   rintro r w1 ⟨bv, hi, rfl, hhi, hrb, x1⟩
   have z1 := x1.size
   have hBl := lY (fZ x)
   generalize fZ x = l at *
   have hrb : RBh w1 w.heap.size hi bv (aZ l) k := by
    unfold RBh
    rw [show ((k : Int)).toNat = k from aK9 k, show (-(k : Int)).toNat = 0 from by omega]
    exact hrb
   obtain ⟨a1, k1, c1, i1, rfl⟩ := hrb.form
   have n0 : ((0 : Int) != 0) = false := rfl
   simp (disch := omega) only [aD, pT, pS, aA, cY]
   refine jU fun w2 o2 x2 s2 => ?_
   refine cL o2 rfl (by simp [one]) (by simp) fun w3 o3 x3 s3 => ?_
   simp only [bM, aLd, aLc] at o3
   have x13 : aW w1 w3 eT := x2.new x3 (by omega)
   have x03 := x1.seq x13
   have z13 := x13.size
   have hrb3 := hrb.ext x13 (fun _ _ _ h => h)
   have oc3 := oc.ext x03 (fun h => h)
   obtain ⟨p8, hp8⟩ : ∃ p, p = w1.heap.size := ⟨_, rfl⟩
   rw [<- hp8] at o3 ⊢
   have l3 := o3.lt
   simp (disch := omega) only [n0, aE]
   unfold Kb Ku J2 Ll Ly
   have hbit : ∀ s, bitsOf C s <= 11 := fun s => by
    unfold bitsOf
    rw [aLl]
    cases hs : C[s]? with
    | none => simp
    | some e =>
      have := (hF.le s e.1 e.2 hs).1
      simp only [aM6]
      omega
   refine cS.rule (fun m (t : aNF × aNF) w' => ∃ (i : Nat) (ov bv : aNF), m = n - i /\ t = (ov, .int .i64 i) /\ i <= n /\
    eM w' p8 bv.cells.toList /\ RBh w' w.heap.size hi bv (aZ l) (Ce C (pI C) (aZ l) i (k : Int)).2 /\ sV w' w3.heap.size 1 ov i (u8s (Ce C (pI C) (aZ l) i (k : Int)).1) /\ aW w3 w' (fun y => y = p8 ∨ w3.heap.size <= y)) n
    ⟨0, _, .agg #[.slice a1 k1 c1, .int .i64 i1], rfl, rfl, by omega, o3, hrb3, sV.nil _ _ _, aW.refl _ _⟩ ?_
   rintro m t w4 ⟨i, ov, bv, rfl, rfl, hi', o4, h4, os4, x4⟩
   have z4 := x4.size
   have bd := aBe (C := C) (m := pI C) (B := aZ l) hbit i (k : Int)
   have hBs := amJ (C := C) (m := pI C) (B := aZ l) i (k : Int)
   have hsy := azP (C := C) (m := pI C) (B := aZ l) hF (n := i) (left := (k : Int))
   obtain ⟨a4, k4, c4, i4, rfl⟩ := h4.form
   obtain ⟨g, hg⟩ : ∃ g, Ce C (pI C) (aZ l) i (k : Int) = g := ⟨_, rfl⟩
   rw [hg] at bd hBs hsy h4 os4
   obtain ⟨gs, gl⟩ := g
   simp only at bd hBs hsy h4 os4
   have o4 : eM w4 p8 [.slice a4 k4 c4, .int .i64 i4] := o4
   have q4 := fM (off := 0) o4 (by simp)
   simp only [aLf, aLe, aLi] at q4
   unfold Dp
   by_cases hlt : i < n
   .have d1 : decide ((i : Int) < (n : Int)) = true := by simp; omega
    have ex : ∀ y : Nat, (y = p8 ∨ w3.heap.size <= y) -> ¬ y = cb := by omega
    have oc4 := oc3.ext x4 (by omega)
    simp (disch := omega) only [aD, aS, d1, bK, aP, aA, q4, aG]
    refine (aKq hF hm hC oc4 h4 (by omega) (by omega) (by omega) (by omega)).mono ?_
    rintro r w5 ⟨b5, rfl, h5, x5⟩
    have z5 := x5.size
    obtain ⟨a5, k5, c5, i5, rfl⟩ := h5.form
    simp (disch := omega) only [pT, pS, aA]
    refine jU fun w6 o6 x6 s6 => ?_
    refine cL o6 rfl (by simp [one]) (by simp) fun w7 o7 x7 s7 => ?_
    simp only [bM, aLd, aLc] at o7
    have q7 := fM (off := 0) o7 (by simp)
    simp only [aLf, aLe, aLi] at q7
    have x57 : aW w5 w7 eT := x6.new x7 (by omega)
    have x47 := x5.seq x57
    have l7 := o7.lt
    simp (disch := omega) only [q7, aA]
    refine cL (o4.ext x47 (fun h => h)) rfl (by simp [one]) (by simp) fun w8 o8 x8 s8 => ?_
    simp only [bM, aLd, aLc] at o8
    have x48 : aW w4 w8 (fun y => y = p8) := (x47.mono fun _ _ h => h.elim).seq x8
    have z48 := x48.size
    have os8 := ((os4.ne (p := w4.heap.size) (aLm _)).ext x48 (fun b hb h => by have := hb.1; omega))
    obtain ⟨sy, hsye⟩ : ∃ sy, sy = EF C (pI C) (LW (aZ l) gl (pI C)) := ⟨_, rfl⟩
    rw [<- hsye] at h5 hBs ⊢
    have z57 := x57.size
    refine aCl os8 (by omega) (by omega) (by omega) fun v9 w9 o9 x9 => ?_
    have e2 : (i : Int) + 1 = ((i + 1 : Nat) : Int) := by omega
    simp (disch := omega) only [e2]
    refine ⟨n - (i + 1), by omega, i + 1, _, .agg #[.slice a5 k5 c5, .int .i64 i5], rfl, rfl, by omega, o8.ext x9 (by omega), ?_, ?_, ?_⟩
    .rw [hBs]
     exact ((h5.ext x57 (fun _ _ _ h => h)).ext x8 (fun b h1 h2 h3 => by omega)).ext x9 (fun b h1 h2 h3 => by have := h3.1; omega)
    .rw [hBs]
     have := o9.osl
     rw [show u8s gs ++ [.int .u8 (sy : Nat)] = u8s (gs ++ [sy]) from by show _ = List.map _ (gs ++ [sy]); rw [aLz] <;> rfl] at this
     exact this
    .exact (x4.seq (x48.mono fun _ _ h => .inl h)).seq (x9.mono fun y _ h => .inr (by have := h.1; omega))
   .have d1 : decide ((i : Int) < (n : Int)) = false := by simp; omega
    have hin : i = n := by omega
    subst hin
    rw [hg] at key
    simp only at key
    have x04 : aW w w4 eT := x03.trans x4 fun y hy h => by omega
    unfold CX
    simp (disch := omega) only [aD, aS, d1, bK, aP, aA, q4, aE]
    refine (arC (lo := w.heap.size) (hi := hi) (lack := (-gl).toNat) (L := (aZ l).take gl.toNat) h4 (by rw [aLn]; omega) (by omega)).mono ?_
    rintro r w5 ⟨rfl, x5⟩
    have hgl : (((aZ l).take gl.toNat).length : Int) - ((-gl).toNat : Nat) = gl := by rw [aLn]; omega
    rw [hgl]
    by_cases h1 : gl < 0
    .have d2 : decide (gl < 0) = true := decide_eq_true h1
     rw [if_pos h1] at key
     simp (disch := omega) only [aS, d2, dE, aA, aG]
     exact key _ _ rfl (x04.seq x5)
    have d2 : decide (gl < 0) = false := decide_eq_false h1
    rw [if_neg h1] at key
    by_cases h2 : 0 < gl
    .have d3 : decide (0 < gl) = true := decide_eq_true h2
     have d4 : decide (gl > 0) = true := decide_eq_true h2
     rw [if_pos h2] at key
     simp (disch := omega) only [aS, d2, dE, d3, aA, aG, aE]
     exact key _ _ rfl (x04.seq x5)
    have d3 : decide (0 < gl) = false := decide_eq_false h2
    have d4 : decide (gl > 0) = false := decide_eq_false h2
    rw [if_neg h2] at key
    have hb := (os4.ext x5 (fun _ _ h => h)).sl
    rw [<- WB (fun s hs => by have := hsy s hs; omega)] at hb
    have hcv := iH hb
    simp (disch := omega) only [aS, d2, dE, d3, aA, aE, hcv]
    exact key _ _ rfl (x04.seq x5)
end Go.Proofs.YtgpimhlgaokobaaGreat
