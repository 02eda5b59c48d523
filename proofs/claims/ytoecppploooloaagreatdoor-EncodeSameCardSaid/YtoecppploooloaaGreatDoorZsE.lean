/- Parts of the proof of EncodeSame: merged and given short names by a program of ours. -/
import Derived.Test.YtoecppploooloaaGreatDoorZsD
set_option linter.unusedVariables false
set_option linter.unusedSimpArgs false
open Array renaming length_toList → aCC
open Bool renaming false_eq_true → aA8, not_false → aBd, not_true → aBe
open Int renaming toNat_natCast → aA9, fdiv_eq_ediv_of_nonneg → aBM
open List renaming getElem?_cons_zero → aA6, getElem?_cons_succ → aA7, mem_map → aB3, getElem_mem → aB5, getElem_of_mem → aB6, getElem?_toArray → aB7, drop_zero → aBB, take_zero → aBE, map_cons → aBH, map_append → aBK, length_eq_zero_iff → aBT, append_nil → aBV, getElem?_take_of_lt → aBW, nil_append → aBZ, length_map → aBf, length_append → aBg, getElem?_eq_getElem → aBh, getD_eq_getElem?_getD → aBi, set_cons_zero → aBj, set_cons_succ → aBl, length_take → aBo, take_of_length_le → aBp, length_drop → aBr, getElem?_eq_none → aBs, length_cons → aBu, getElem?_append_left → aBv, append_assoc → aBy, getElem?_map → aBz, map_set → aC0, getLast?_eq_getElem? → aC7, map_replicate → aCG, take_append_drop → aCH, take_length → aCM, map_take → aCO, getElem?_drop → aCR, mem_append → aCc, mem_of_mem_take → aCe, cons_append → aCm, ext_getElem? → aCq, mem_singleton → aDa, eq_of_mem_replicate → aDb, getElem_map → aDk, countP_le_length → aDm, map_nil → aDp
open Nat renaming add_mul → aB0, add_zero → aB1, le_trans → aB4, mul_one → aB9, mul_le_mul_right → aBL, two_pow_pos → aBQ, min_eq_left → aBU, mul_comm → aBX, zero_add → aBc, le_refl → aBk, lt_or_ge → aBt, pow_le_pow_right → aBw, zero_le → aC5, add_assoc → aCA, sub_zero → aCN, add_sub_cancel → aCS, zero_mul → aCY, pow_add → aCf, eq_zero_or_pos → aCl, div_div_eq_div_mul → aCs, le_total → aDn
open Option renaming map_some → aBJ, isNone_some → aBa, isNone_none → aBb, getD_some → aCD
open Option.some renaming inj → aBO
open UInt8 renaming toNat_lt → aCg
namespace Go.Proofs.YtoecppploooloaaGreatDoor
open Go Go.En Go.Pu
set_option maxRecDepth 4000
theorem Wc (b : Bool) : kR undef b = false := by cases b <;> rfl
def aeZ (ns out : List Nat) (i : Nat) (at' : Int) : Prop := (at' = -1 /\ ∀ j, j < i -> ¬ (0 < ns.getD j 0 /\ out.getD j 0 < 11)) ∨ (∃ a : Nat, at' = a /\ a < ns.length /\ 0 < ns.getD a 0 /\ out.getD a 0 < 11)
theorem anA {pb : Nat} {ov : aDt} {room : Int} {ns out : List Nat} {w : aDs} (hs : Sl w ov (SB ns)) (hn : ∀ n ∈ ns, n <= 4294967295) (hl : ns.length <= 256) (h : Qn ns out) (ob : lN w pb (oc out)) {kn : aDt -> aDt -> aDt -> aDt -> aDs -> Prop}
 (hK : ∀ at' w', aeZ ns out ns.length at' -> jN w w' mC -> kn ov (.slice (some ⟨pb, 0, none⟩) ns.length ns.length) (.int .i64 room) (.int .i64 at') w') :
 xA kn ov (.slice (some ⟨pb, 0, none⟩) ns.length ns.length) (.int .i64 room) (.int .i64 (-1)) w := by
 unfold xA Dz
 obtain ⟨a, c, hv, hc⟩ := hs.len
 rw [aBf] at hv
 subst hv
 have hlen := h.len
 simp (disch := omega) only [gI, fK, dJ]
 unfold Dl C1
 refine kO.rule (fun m (t : aDt × aDt) w' => ∃ (i : Nat) (at' : Int), m = ns.length - i /\ t = (.int .i64 at', .int .i64 i) /\ i <= ns.length /\ aeZ ns out i at' /\ jN w w' mC) ns.length
  ⟨0, -1, rfl, rfl, by omega, .inl ⟨rfl, fun j h => by omega⟩, jN.refl _ _⟩ ?_
 rintro m t w1 ⟨i, at', rfl, rfl, hi, hp, x1⟩
 unfold wT Da
 by_cases hlt : i < ns.length
 .have d1 : decide ((i : Int) < (ns.length : Int)) = true := by simp; omega
  have x1d : jN w (dr w1) mC := x1.seq (jN.dr _ _)
  obtain ⟨b1, off1, rfl, hcell1⟩ := slA (hs.ext x1 (kL _)) (by omega)
  have g1 := hcell1 i hlt
  rw [Qi hlt] at g1
  have g1d : (dr w1).cell? ⟨b1, off1 + i, none⟩ = _ := g1
  have f1 := (ob.ext x1d (fun h => h)).cell (off := i)
  rw [MN (by omega)] at f1
  have keep : ¬ (0 < ns.getD i 0 /\ out.getD i 0 < 11) -> aeZ ns out (i + 1) at' := fun hb => by
   rcases hp with ⟨q1, q2⟩ | q
   .refine .inl ⟨q1, fun j hj => ?_⟩
    rcases aBt j i with h' | h'
    .exact q2 j h'
    .have : j = i := by omega
     subst this; exact hb
   .exact .inr q
  have keep2 : (0 : Int) <= at' -> aeZ ns out (i + 1) at' := fun hb => by
   rcases hp with ⟨q1, q2⟩ | q
   .omega
   .exact .inr q
  have new : 0 < ns.getD i 0 -> out.getD i 0 < 11 -> aeZ ns out (i + 1) (i : Int) := fun q1 q2 => .inr ⟨i, rfl, hlt, q1, q2⟩
  unfold xH
  by_cases h0 : 0 < ns.getD i 0
  .have d2 : decide ((0 : Int) < ((ns.getD i 0 : Nat) : Int)) = true := by simp only [decide_eq_true_eq]; omega
   by_cases h11 : out.getD i 0 < 11
   .have d3 : decide (((out.getD i 0 : Nat) : Int) < (11 : Int)) = true := by simp only [decide_eq_true_eq]; omega
    rcases hp with ⟨rfl, q2⟩ | ⟨a, rfl, ha, ha0, ha11⟩
    .have d4 : decide ((-1 : Int) < 0) = true := rfl
     simp (disch := omega) only [gI, gY, d1, fJ, aA9, hJ, gX, dJ, true_and, gA, g1, gD, iA, d2, gV, gR, if_true, gO, fZ, aBc, gS, f1, d3, d4, gU, gB, gJ, Wc]
     exact ⟨ns.length - (i + 1), by omega, i + 1, _, rfl, rfl, by omega, new h0 h11, x1d⟩
    .have d4 : decide ((a : Int) < 0) = false := by simp
     have f2 := (ob.ext x1d (fun h => h)).cell (off := a)
     rw [MN (by omega)] at f2
     have g2 : (dr w1).cell? ⟨b1, off1 + a, none⟩ = _ := hcell1 a ha
     rw [Qi ha] at g2
     by_cases h5 : out.getD a 0 < out.getD i 0
     .have d5 : decide (((out.getD a 0 : Nat) : Int) < ((out.getD i 0 : Nat) : Int)) = true := by simp only [decide_eq_true_eq]; omega
      simp (disch := omega) only [gI, gY, d1, fJ, aA9, hJ, gX, dJ, true_and, gA, g1, gD, iA, d2, gV, gR, if_true, gO, fZ, aBc, gS, f1, d3, d4, gT, aA8, if_false, f2, d5, gU, gB, gJ, Wc]
      exact ⟨ns.length - (i + 1), by omega, i + 1, _, rfl, rfl, by omega, new h0 h11, x1d⟩
     .have d5 : decide (((out.getD a 0 : Nat) : Int) < ((out.getD i 0 : Nat) : Int)) = false := by simp only [decide_eq_false_iff_not]; omega
      by_cases h6 : out.getD i 0 = out.getD a 0
      .have d6 : (((out.getD i 0 : Nat) : Int) == ((out.getD a 0 : Nat) : Int)) = true := by rw [h6]; simp
       by_cases h7 : ns.getD i 0 < ns.getD a 0
       .have d7 : decide (((ns.getD i 0 : Nat) : Int) < ((ns.getD a 0 : Nat) : Int)) = true := by simp only [decide_eq_true_eq]; omega
        simp (maxSteps := 4000000) (disch := omega) only [gI, jD, dJ, stepR_skip, hJ, iC, iM, iP, iL, iO, jJ, iW, gM, iG, iI, iJ, iH, gY, iN, iA, iF, iX, iV, iK, gR, iR, iQ, iE, jW, jV, kH, kC, kG, kF, kI, kE, kD, gD, Result.ok.injEq, Next.value.injEq, true_and, and_true, gX, iB, iU, iT, iS, jI, aA9, gV, gU, gW, gT, gO, gJ, gP, gN, gB, fV, if_true, if_false, aA8, aBc, aBa, aBb, aBe, aBd, aA7, aA6, fQ, fT, fM, fR, gK, fL, bH, bR, gE, eF, eH, fK, fJ, gA, cU, dL, gC, fZ, gS, eI, eQ, dM, dK, Wc, d1, g1, g1d, d2, f1, d3, d4, f2, g2, d5, d6, d7]
        exact ⟨ns.length - (i + 1), by omega, i + 1, _, rfl, rfl, by omega, new h0 h11, x1d⟩
       .have d7 : decide (((ns.getD i 0 : Nat) : Int) < ((ns.getD a 0 : Nat) : Int)) = false := by simp only [decide_eq_false_iff_not]; omega
        simp (maxSteps := 4000000) (disch := omega) only [gI, jD, dJ, stepR_skip, hJ, iC, iM, iP, iL, iO, jJ, iW, gM, iG, iI, iJ, iH, gY, iN, iA, iF, iX, iV, iK, gR, iR, iQ, iE, jW, jV, kH, kC, kG, kF, kI, kE, kD, gD, Result.ok.injEq, Next.value.injEq, true_and, and_true, gX, iB, iU, iT, iS, jI, aA9, gV, gU, gW, gT, gO, gJ, gP, gN, gB, fV, if_true, if_false, aA8, aBc, aBa, aBb, aBe, aBd, aA7, aA6, fQ, fT, fM, fR, gK, fL, bH, bR, gE, eF, eH, fK, fJ, gA, cU, dL, gC, fZ, gS, eI, eQ, dM, dK, Wc, d1, g1, g1d, d2, f1, d3, d4, f2, g2, d5, d6, d7]
        exact ⟨ns.length - (i + 1), by omega, i + 1, _, rfl, rfl, by omega, .inr ⟨a, rfl, ha, ha0, ha11⟩, x1d⟩
      .have d6 : (((out.getD i 0 : Nat) : Int) == ((out.getD a 0 : Nat) : Int)) = false := beq_eq_false_iff_ne.2 (by omega)
       simp (maxSteps := 4000000) (disch := omega) only [gI, jD, dJ, stepR_skip, hJ, iC, iM, iP, iL, iO, jJ, iW, gM, iG, iI, iJ, iH, gY, iN, iA, iF, iX, iV, iK, gR, iR, iQ, iE, jW, jV, kH, kC, kG, kF, kI, kE, kD, gD, Result.ok.injEq, Next.value.injEq, true_and, and_true, gX, iB, iU, iT, iS, jI, aA9, gV, gU, gW, gT, gO, gJ, gP, gN, gB, fV, if_true, if_false, aA8, aBc, aBa, aBb, aBe, aBd, aA7, aA6, fQ, fT, fM, fR, gK, fL, bH, bR, gE, eF, eH, fK, fJ, gA, cU, dL, gC, fZ, gS, eI, eQ, dM, dK, Wc, d1, g1, g1d, d2, f1, d3, d4, f2, g2, d5, d6]
       exact ⟨ns.length - (i + 1), by omega, i + 1, _, rfl, rfl, by omega, .inr ⟨a, rfl, ha, ha0, ha11⟩, x1d⟩
   .have d3 : decide (((out.getD i 0 : Nat) : Int) < (11 : Int)) = false := by simp only [decide_eq_false_iff_not]; omega
    simp (disch := omega) only [gI, gY, d1, fJ, aA9, hJ, gX, dJ, true_and, gA, g1, gD, iA, d2, gV, gR, if_true, gO, fZ, aBc, gS, f1, d3, gW, aA8, if_false, fV, gJ, Wc, gB]
    exact ⟨ns.length - (i + 1), by omega, i + 1, _, rfl, rfl, by omega, keep (by omega), x1d⟩
  .have d2 : decide ((0 : Int) < ((ns.getD i 0 : Nat) : Int)) = false := by simp only [decide_eq_false_iff_not]; omega
   simp (disch := omega) only [gI, gY, d1, fJ, aA9, hJ, gX, dJ, true_and, gA, g1, gD, iA, d2, gW, gR, aA8, if_false, fV, gJ, Wc, gB]
   exact ⟨ns.length - (i + 1), by omega, i + 1, _, rfl, rfl, by omega, keep (by omega), x1d⟩
 .have d1 : decide ((i : Int) < (ns.length : Int)) = false := by simp; omega
  obtain rfl : i = ns.length := by omega
  simp (disch := omega) only [gI, gY, d1, true_and, dJ, fV]
  exact hK at' w1 hp x1
theorem anC {pb : Nat} {ov : aDt} {ns out : List Nat} {w : aDs} (hs : Sl w ov (SB ns)) (hn : ∀ n ∈ ns, n <= 4294967295) (hl : ns.length <= 256) (h : Qn ns out) (ob : lN w pb (oc out)) (hat : ¬ Mz ov (fun y => y = pb)) {RR : aDt -> aDs -> Prop}
 (hK : ∀ out w', Qn ns out -> nJ out <= 2048 -> lN w' pb (oc out) -> jN w w' (fun y => y = pb) -> tJ RR ov (.slice (some ⟨pb, 0, none⟩) ns.length ns.length) (.int .i64 (2048 - (nJ out : Nat))) w') :
 tQ RR ov (.slice (some ⟨pb, 0, none⟩) ns.length ns.length) (.int .i64 (2048 - (nJ out : Nat))) w := by
 unfold tQ DE C4
 refine kO.rule (fun m (t : aDt) w' => ∃ out : List Nat, m = agN out /\ t = .int .i64 (2048 - (nJ out : Nat)) /\ Qn ns out /\ lN w' pb (oc out) /\ jN w w' (fun y => y = pb)) (agN out) ⟨out, rfl, rfl, h, ob, jN.refl _ _⟩ ?_
 rintro m t w1 ⟨out, rfl, rfl, h1, ob1, x1⟩
 have hlen := h1.len
 have hkb : nJ out <= 1024 * ns.length := by
  rw [<- hlen]
  have : ∀ l : List Nat, nJ l <= 1024 * l.length := fun l => by
   induction l with
   | nil => simp [nJ]
   | cons x l ih =>
     rw [uQ, aBu]
     have : wA x <= 1024 := by
      unfold wA
      split
      .omega
      .have : 2 ^ (11 - x) <= 2 ^ 10 := aBw (by omega) (by omega)
       omega
     omega
  exact this out
 unfold wZ Dp
 by_cases hneg : 2048 < nJ out
 .have d1 : decide ((2048 : Int) - ((nJ out : Nat) : Int) < 0) = true := by simp only [decide_eq_true_eq]; omega
  simp (disch := omega) only [gI, gY, d1, dJ, gB]
  unfold DB JB Dr CZ
  refine anA (room := 2048 - ((nJ out : Nat) : Int)) (hs.ext x1 hat) hn hl h1 ob1 fun at' w2 hp x2 => ?_
  rcases hp with ⟨_, q⟩ | ⟨a, rfl, ha, ha0, ha11⟩
  .exfalso
   have := ahQ h1 hl q
   omega
  have ob2 := ob1.ext x2 (fun h => h)
  have f1 := ob2.cell (off := a)
  rw [MN (by omega)] at f1
  have hon := h1.on a ha ha0
  have hks := Tz (l := out) (i := a) (out.getD a 0 + 1) (by omega)
  have hsl := YJ (fun o => 11 - o) (l := out) (i := a) (out.getD a 0 + 1) (by omega)
  have hset := h1.set (o := out.getD a 0 + 1) ha ha0 (by omega) (by omega)
  rw [<- qG (by omega)] at hks hsl
  have hk1 : wA (out.getD a 0) = 2 * 2 ^ (10 - out.getD a 0) := by
   unfold wA
   rw [if_neg (by omega), <- Nat.pow_succ', show (10 - out.getD a 0).succ = 11 - out.getD a 0 from by omega]
  have hk2 : wA (out.getD a 0 + 1) = 2 ^ (10 - out.getD a 0) := by
   unfold wA
   rw [if_neg (by omega)]
   congr 1; omega
  rw [hk1, hk2] at hks
  have hsl2 : agN (out.set a (out.getD a 0 + 1)) + (11 - out.getD a 0) = agN out + (11 - (out.getD a 0 + 1)) := hsl
  generalize hov : out.getD a 0 = o at *
  have e1 : (11 : Int) - (o : Int) = ((11 - o : Nat) : Int) := by omega
  have e2 : ((11 - o : Nat) : Int) - 1 = ((10 - o : Nat) : Int) := by omega
  have hsh := anP (n := 10 - o) (by omega)
  have hp10 : 2 ^ (10 - o) <= 2 ^ 10 := aBw (by omega) (by omega)
  have e3 : (2048 : Int) - ((nJ out : Nat) : Int) + ((2 ^ (10 - o) : Nat) : Int) = 2048 - ((nJ (out.set a (o + 1)) : Nat) : Int) := by omega
  have e4 : (o : Int) + 1 = ((o + 1 : Nat) : Int) := by omega
  unfold wW
  simp (disch := omega) only [gI, fZ, aA9, aBc, dJ, gS, f1, gD, iC, e1, gX, e2, iG, hsh, hJ, e3, e4]
  refine LA ob2 rfl (by rw [aBf]; omega) fun w3 ob3 x3 s3 => ?_
  rw [ajT] at ob3
  exact ⟨agN (out.set a (o + 1)), by omega, _, rfl, rfl, hset, ob3, (x1.seq (x2.mono fun _ _ h => h.elim)).trans x3 fun _ _ h => h⟩
 .have d1 : decide ((2048 : Int) - ((nJ out : Nat) : Int) < 0) = false := by simp only [decide_eq_false_iff_not]; omega
  simp (disch := omega) only [gI, gY, d1, dJ, fV]
  exact hK out w1 h1 (by omega) ob1 x1
def afV (r : Nat) (ns out : List Nat) (i : Nat) (at' : Int) : Prop := (at' = -1 /\ ∀ j, j < i -> ¬ (0 < ns.getD j 0 /\ 2 ^ (11 - out.getD j 0) <= r)) ∨ (∃ a : Nat, at' = a /\ a < ns.length /\ 0 < ns.getD a 0 /\ 2 ^ (11 - out.getD a 0) <= r)
theorem amP {pb : Nat} {ov : aDt} {r : Nat} {ns out : List Nat} {w : aDs} (hs : Sl w ov (SB ns)) (hn : ∀ n ∈ ns, n <= 4294967295) (hl : ns.length <= 256) (h : Qn ns out) (hr : r <= 2048) (ob : lN w pb (oc out)) {kn : aDt -> aDt -> aDt -> aDt -> aDs -> Prop}
 (hK : ∀ at' w', afV r ns out ns.length at' -> jN w w' mC -> kn ov (.slice (some ⟨pb, 0, none⟩) ns.length ns.length) (.int .i64 r) (.int .i64 at') w') :
 zS kn ov (.slice (some ⟨pb, 0, none⟩) ns.length ns.length) (.int .i64 r) (.int .i64 (-1)) w := by
 unfold zS EJ
 obtain ⟨a, c, hv, hc⟩ := hs.len
 rw [aBf] at hv
 subst hv
 have hlen := h.len
 simp (disch := omega) only [gI, fK, dJ]
 unfold ED EC
 refine kO.rule (fun m (t : aDt × aDt) w' => ∃ (i : Nat) (at' : Int), m = ns.length - i /\ t = (.int .i64 at', .int .i64 i) /\ i <= ns.length /\ afV r ns out i at' /\ jN w w' mC) ns.length
  ⟨0, -1, rfl, rfl, by omega, .inl ⟨rfl, fun j h => by omega⟩, jN.refl _ _⟩ ?_
 rintro m t w1 ⟨i, at', rfl, rfl, hi, hp, x1⟩
 unfold Av Er
 by_cases hlt : i < ns.length
 .have d1 : decide ((i : Int) < (ns.length : Int)) = true := by simp; omega
  have x1d : jN w (dr w1) mC := x1.seq (jN.dr _ _)
  obtain ⟨b1, off1, rfl, hcell1⟩ := slA (hs.ext x1 (kL _)) (by omega)
  have g1 := hcell1 i hlt
  rw [Qi hlt] at g1
  have g1d : (dr w1).cell? ⟨b1, off1 + i, none⟩ = _ := g1
  have f1 := (ob.ext x1d (fun h => h)).cell (off := i)
  rw [MN (by omega)] at f1
  have keep : ¬ (0 < ns.getD i 0 /\ 2 ^ (11 - out.getD i 0) <= r) -> afV r ns out (i + 1) at' := fun hb => by
   rcases hp with ⟨q1, q2⟩ | q
   .refine .inl ⟨q1, fun j hj => ?_⟩
    rcases aBt j i with h' | h'
    .exact q2 j h'
    .have : j = i := by omega
     subst this; exact hb
   .exact .inr q
  have keep2 : (0 : Int) <= at' -> afV r ns out (i + 1) at' := fun hb => by
   rcases hp with ⟨q1, q2⟩ | q
   .omega
   .exact .inr q
  have new : 0 < ns.getD i 0 -> 2 ^ (11 - out.getD i 0) <= r -> afV r ns out (i + 1) (i : Int) := fun q1 q2 => .inr ⟨i, rfl, hlt, q1, q2⟩
  have hoi := h.le (i := i) (by omega)
  rw [<- qG (by omega)] at hoi
  have e8 : (11 : Int) - ((out.getD i 0 : Nat) : Int) = ((11 - out.getD i 0 : Nat) : Int) := by omega
  have hsh := anP (n := 11 - out.getD i 0) (by omega)
  unfold zE
  by_cases h0 : 0 < ns.getD i 0
  .have d2 : decide ((0 : Int) < ((ns.getD i 0 : Nat) : Int)) = true := by simp only [decide_eq_true_eq]; omega
   by_cases h11 : 2 ^ (11 - out.getD i 0) <= r
   .have d3 : decide (((2 ^ (11 - out.getD i 0) : Nat) : Int) <= (r : Int)) = true := by simp only [decide_eq_true_eq]; omega
    rcases hp with ⟨rfl, q2⟩ | ⟨a, rfl, ha, ha0, har⟩
    .have d4 : decide ((-1 : Int) < 0) = true := rfl
     simp (disch := omega) only [gI, gY, d1, fJ, aA9, hJ, gX, dJ, true_and, gA, g1, gD, iA, d2, gV, gR, if_true, gO, fZ, aBc, gS, f1, iC, e8, iG, hsh, iN, d3, d4, gU, gB, gJ, Wc]
     exact ⟨ns.length - (i + 1), by omega, i + 1, _, rfl, rfl, by omega, new h0 h11, x1d⟩
    .have d4 : decide ((a : Int) < 0) = false := by simp
     have f2 := (ob.ext x1d (fun h => h)).cell (off := a)
     rw [MN (by omega)] at f2
     have g2 : (dr w1).cell? ⟨b1, off1 + a, none⟩ = _ := hcell1 a ha
     rw [Qi ha] at g2
     by_cases h5 : out.getD a 0 < out.getD i 0
     .have d5 : decide (((out.getD a 0 : Nat) : Int) < ((out.getD i 0 : Nat) : Int)) = true := by simp only [decide_eq_true_eq]; omega
      simp (maxSteps := 4000000) (disch := omega) only [gI, jD, dJ, stepR_skip, hJ, iC, iM, iP, iL, iO, jJ, iW, gM, iG, iI, iJ, iH, gY, iN, iA, iF, iX, iV, iK, gR, iR, iQ, iE, jW, jV, kH, kC, kG, kF, kI, kE, kD, gD, Result.ok.injEq, Next.value.injEq, true_and, and_true, gX, iB, iU, iT, iS, jI, aA9, gV, gU, gW, gT, gO, gJ, gP, gN, gB, fV, if_true, if_false, aA8, aBc, aBa, aBb, aBe, aBd, aA7, aA6, fQ, fT, fM, fR, gK, fL, bH, bR, gE, eF, eH, fK, fJ, gA, cU, dL, gC, fZ, gS, eI, eQ, dM, dK, Wc, d1, g1, g1d, d2, f1, e8, hsh, d3, d4, f2, g2, d5]
      exact ⟨ns.length - (i + 1), by omega, i + 1, _, rfl, rfl, by omega, new h0 h11, x1d⟩
     .have d5 : decide (((out.getD a 0 : Nat) : Int) < ((out.getD i 0 : Nat) : Int)) = false := by simp only [decide_eq_false_iff_not]; omega
      by_cases h6 : out.getD i 0 = out.getD a 0
      .have d6 : (((out.getD i 0 : Nat) : Int) == ((out.getD a 0 : Nat) : Int)) = true := by rw [h6]; simp
       by_cases h7 : ns.getD a 0 < ns.getD i 0
       .have d7 : decide (((ns.getD a 0 : Nat) : Int) < ((ns.getD i 0 : Nat) : Int)) = true := by simp only [decide_eq_true_eq]; omega
        simp (maxSteps := 4000000) (disch := omega) only [gI, jD, dJ, stepR_skip, hJ, iC, iM, iP, iL, iO, jJ, iW, gM, iG, iI, iJ, iH, gY, iN, iA, iF, iX, iV, iK, gR, iR, iQ, iE, jW, jV, kH, kC, kG, kF, kI, kE, kD, gD, Result.ok.injEq, Next.value.injEq, true_and, and_true, gX, iB, iU, iT, iS, jI, aA9, gV, gU, gW, gT, gO, gJ, gP, gN, gB, fV, if_true, if_false, aA8, aBc, aBa, aBb, aBe, aBd, aA7, aA6, fQ, fT, fM, fR, gK, fL, bH, bR, gE, eF, eH, fK, fJ, gA, cU, dL, gC, fZ, gS, eI, eQ, dM, dK, Wc, d1, g1, g1d, d2, f1, e8, hsh, d3, d4, f2, g2, d5, d6, d7]
        exact ⟨ns.length - (i + 1), by omega, i + 1, _, rfl, rfl, by omega, new h0 h11, x1d⟩
       .have d7 : decide (((ns.getD a 0 : Nat) : Int) < ((ns.getD i 0 : Nat) : Int)) = false := by simp only [decide_eq_false_iff_not]; omega
        simp (maxSteps := 4000000) (disch := omega) only [gI, jD, dJ, stepR_skip, hJ, iC, iM, iP, iL, iO, jJ, iW, gM, iG, iI, iJ, iH, gY, iN, iA, iF, iX, iV, iK, gR, iR, iQ, iE, jW, jV, kH, kC, kG, kF, kI, kE, kD, gD, Result.ok.injEq, Next.value.injEq, true_and, and_true, gX, iB, iU, iT, iS, jI, aA9, gV, gU, gW, gT, gO, gJ, gP, gN, gB, fV, if_true, if_false, aA8, aBc, aBa, aBb, aBe, aBd, aA7, aA6, fQ, fT, fM, fR, gK, fL, bH, bR, gE, eF, eH, fK, fJ, gA, cU, dL, gC, fZ, gS, eI, eQ, dM, dK, Wc, d1, g1, g1d, d2, f1, e8, hsh, d3, d4, f2, g2, d5, d6, d7]
        exact ⟨ns.length - (i + 1), by omega, i + 1, _, rfl, rfl, by omega, .inr ⟨a, rfl, ha, ha0, har⟩, x1d⟩
      .have d6 : (((out.getD i 0 : Nat) : Int) == ((out.getD a 0 : Nat) : Int)) = false := beq_eq_false_iff_ne.2 (by omega)
       simp (maxSteps := 4000000) (disch := omega) only [gI, jD, dJ, stepR_skip, hJ, iC, iM, iP, iL, iO, jJ, iW, gM, iG, iI, iJ, iH, gY, iN, iA, iF, iX, iV, iK, gR, iR, iQ, iE, jW, jV, kH, kC, kG, kF, kI, kE, kD, gD, Result.ok.injEq, Next.value.injEq, true_and, and_true, gX, iB, iU, iT, iS, jI, aA9, gV, gU, gW, gT, gO, gJ, gP, gN, gB, fV, if_true, if_false, aA8, aBc, aBa, aBb, aBe, aBd, aA7, aA6, fQ, fT, fM, fR, gK, fL, bH, bR, gE, eF, eH, fK, fJ, gA, cU, dL, gC, fZ, gS, eI, eQ, dM, dK, Wc, d1, g1, g1d, d2, f1, e8, hsh, d3, d4, f2, g2, d5, d6]
       exact ⟨ns.length - (i + 1), by omega, i + 1, _, rfl, rfl, by omega, .inr ⟨a, rfl, ha, ha0, har⟩, x1d⟩
   .have d3 : decide (((2 ^ (11 - out.getD i 0) : Nat) : Int) <= (r : Int)) = false := by simp only [decide_eq_false_iff_not]; omega
    simp (disch := omega) only [gI, gY, d1, fJ, aA9, hJ, gX, dJ, true_and, gA, g1, gD, iA, d2, gV, gR, if_true, gO, fZ, aBc, gS, f1, iC, e8, iG, hsh, iN, d3, gW, aA8, if_false, fV, gJ, Wc, gB]
    exact ⟨ns.length - (i + 1), by omega, i + 1, _, rfl, rfl, by omega, keep (by omega), x1d⟩
  .have d2 : decide ((0 : Int) < ((ns.getD i 0 : Nat) : Int)) = false := by simp only [decide_eq_false_iff_not]; omega
   simp (disch := omega) only [gI, gY, d1, fJ, aA9, hJ, gX, dJ, true_and, gA, g1, gD, iA, d2, gW, gR, aA8, if_false, fV, gJ, Wc, gB]
   exact ⟨ns.length - (i + 1), by omega, i + 1, _, rfl, rfl, by omega, keep (by omega), x1d⟩
 .have d1 : decide ((i : Int) < (ns.length : Int)) = false := by simp; omega
  obtain rfl : i = ns.length := by omega
  simp (disch := omega) only [gI, gY, d1, true_and, dJ, fV]
  exact hK at' w1 hp x1
theorem anG {pb : Nat} {ov : aDt} {ns out : List Nat} {w : aDs} (hs : Sl w ov (SB ns)) (hn : ∀ n ∈ ns, n <= 4294967295) (hl : ns.length <= 256) (h2 : 2 <= ns.countP GP) (h : Qn ns out) (hk : nJ out <= 2048) (ob : lN w pb (oc out)) (hat : ¬ Mz ov (fun y => y = pb)) {RR : aDt -> aDs -> Prop}
 (hK : ∀ out w', Qn ns out -> nJ out = 2048 -> lN w' pb (oc out) -> jN w w' (fun y => y = pb) -> RR (.slice (some ⟨pb, 0, none⟩) ns.length ns.length) w') :
 tJ RR ov (.slice (some ⟨pb, 0, none⟩) ns.length ns.length) (.int .i64 (2048 - (nJ out : Nat))) w := by
 unfold tJ DC DD
 refine kO.rule (fun m (t : aDt) w' => ∃ out : List Nat, m = 2048 - nJ out /\ t = .int .i64 (2048 - (nJ out : Nat)) /\ Qn ns out /\ nJ out <= 2048 /\ lN w' pb (oc out) /\ jN w w' (fun y => y = pb)) (2048 - nJ out) ⟨out, rfl, rfl, h, hk, ob, jN.refl _ _⟩ ?_
 rintro m t w1 ⟨out, rfl, rfl, h1, hk1, ob1, x1⟩
 have hlen := h1.len
 have e0 : (2048 : Int) - ((nJ out : Nat) : Int) = ((2048 - nJ out : Nat) : Int) := by omega
 rw [e0]
 unfold xF Dk
 by_cases hpos : nJ out < 2048
 .have d1 : decide ((0 : Int) < ((2048 - nJ out : Nat) : Int)) = true := by simp only [decide_eq_true_eq]; omega
  simp (disch := omega) only [gI, iA, d1, dJ, gB]
  unfold Du Ju C8 Dc
  refine amP (r := 2048 - nJ out) (hs.ext x1 hat) hn hl h1 (by omega) ob1 fun at' w2 hp x2 => ?_
  obtain ⟨t0, ht0, ht1, _⟩ := apW (c := ns.length) h2
  rcases hp with ⟨_, q⟩ | ⟨a, rfl, ha, ha0, har⟩
  .exfalso
   obtain ⟨j, j1, j2, j3⟩ := adZ h1 ht0 ht1 hpos
   exact q j j1 ⟨j2, j3⟩
  obtain ⟨b, hb, hb0, hba⟩ := apW (c := a) h2
  have hge2 := aoT h1 ha hb (fun e => hba e.symm) ha0 hb0 har hk1
  have ob2 := ob1.ext x2 (fun h => h)
  have f1 := ob2.cell (off := a)
  rw [MN (by omega)] at f1
  have hon := h1.on a ha ha0
  have hks := Tz (l := out) (i := a) (out.getD a 0 - 1) (by omega)
  have hset := h1.set (o := out.getD a 0 - 1) ha ha0 (by omega) (by omega)
  rw [<- qG (by omega)] at hks
  have hk3 : wA (out.getD a 0) = 2 ^ (11 - out.getD a 0) := by unfold wA; rw [if_neg (by omega)]
  have hk2 : wA (out.getD a 0 - 1) = 2 * 2 ^ (11 - out.getD a 0) := by
   unfold wA
   rw [if_neg (by omega), <- Nat.pow_succ']
   congr 1; omega
  rw [hk3, hk2] at hks
  generalize hov : out.getD a 0 = o at *
  have e1 : (11 : Int) - (o : Int) = ((11 - o : Nat) : Int) := by omega
  have hsh := anP (n := 11 - o) (by omega)
  have hp10 := aBQ (11 - o)
  have e3 : ((2048 - nJ out : Nat) : Int) - ((2 ^ (11 - o) : Nat) : Int) = 2048 - ((nJ (out.set a (o - 1)) : Nat) : Int) := by omega
  have e4 : (o : Int) - 1 = ((o - 1 : Nat) : Int) := by omega
  unfold AE
  simp (disch := omega) only [gI, fZ, aA9, aBc, dJ, gS, f1, gD, iC, e1, gX, iG, hsh, e3, e4]
  refine LA ob2 rfl (by rw [aBf]; omega) fun w3 ob3 x3 s3 => ?_
  rw [ajT] at ob3
  exact ⟨2048 - nJ (out.set a (o - 1)), by omega, _, rfl, rfl, hset, by omega, ob3, (x1.seq (x2.mono fun _ _ h => h.elim)).trans x3 fun _ _ h => h⟩
 .have d1 : decide ((0 : Int) < ((2048 - nJ out : Nat) : Int)) = false := by simp only [decide_eq_false_iff_not]; omega
  unfold AB
  simp (disch := omega) only [gI, iA, d1, dJ, fV]
  exact hK out w1 h1 (by omega) ob1 x1
theorem anS {ov : aDt} {S : Nat} {ns : List Nat} {w : aDs} (hs : Sl w ov (SB ns)) (hn : ∀ n ∈ ns, n <= 4294967295) (hl : ns.length <= 256) (h2 : 2 <= ns.countP GP) (hS0 : 0 < S) (hS : S <= 2147483647) :
 jE pg BJ #[ov, .int .u64 S] w (fun r w' => ∃ pb out, r = .slice (some ⟨pb, 0, none⟩) ns.length ns.length /\ w.heap.size <= pb /\ lN w' pb (oc out) /\ Qn ns out /\ nJ out = 2048 /\ jN w w' mC) := by
 refine SF ?_
 obtain ⟨a, c, hv, hc⟩ := hs.len
 rw [aBf] at hv hc
 subst hv
 unfold Q4 Dd DI
 simp (disch := omega) only [gI, fK, dJ]
 refine XM (by omega) (by omega) fun w1 o1 x1 s1 => ?_
 rw [aA9] at o1 ⊢
 have ho1 : lN w1 w.heap.size (oc (List.replicate ns.length 0)) := by
  unfold oc; rw [aCG]; exact o1
 have hat : ¬ Mz (.slice a ns.length c) (fun y => y = w.heap.size) := fun h => hs.old (DO h fun b hb => by omega)
 have hs1 := hs.ext x1 (kL _)
 refine amZ hs1 hn hl hS0 hS ho1 hat fun out w2 h2' ob2 x2 => ?_
 refine anC (hs1.ext x2 hat) hn hl h2' ob2 hat fun out w3 h3 hk3 ob3 x3 => ?_
 refine anG ((hs1.ext x2 hat).ext x3 hat) hn hl h2 h3 hk3 ob3 hat fun out w4 h4 hk4 ob4 x4 => ?_
 exact ⟨_, out, rfl, aBk _, ob4, h4, hk4, ((x1.trans x2 fun b hb h => by omega).trans x3 fun b hb h => by omega).trans x4 fun b hb h => by omega⟩
theorem axA {pb : Nat} {out : List Nat} {w : aDs} (ob : lN w pb (oc out)) (h0 : 0 < out.length) (hl : out.length <= 100000) (hb : ∀ o ∈ out, o <= 1000000) :
 jE pg BA #[.slice (some ⟨pb, 0, none⟩) out.length out.length] w (fun r w' => (∃ m : Nat, r = .int .i64 m /\ (∀ x ∈ out, x <= m) /\ m ∈ out) /\ w' = w) := by
 refine S3 ?_
 unfold QT Dg Dy
 have d0 : decide ((out.length : Int) < 1) = false := by simp; omega
 have g0 := ob.cell (off := 0)
 rw [MN h0] at g0
 have t0 : (0 : Int).toNat = 0 := rfl
 simp (disch := omega) only [gI, gC, dJ, gY, d0, fV]
 unfold Ej EV
 simp (disch := omega) only [gI, fZ, t0, aBc, dJ, gS, g0, gD]
 unfold Ei EA EI Em EK
 refine kO.rule (fun m (t : aDt × aDt) w' => ∃ i q : Nat, m = out.length - i /\ t = (.int .i64 q, .int .i64 i) /\ 1 <= i /\ i <= out.length /\ (∀ x ∈ out.take i, x <= q) /\ q ∈ out.take i /\ w' = w) (out.length - 1)
  ⟨1, out.getD 0 0, by omega, rfl, by omega, by omega, ?_, ?_, rfl⟩ ?_
 .intro x hx
  rw [EM (i := 0) h0] at hx
  simp at hx; simp; omega
 .rw [EM (i := 0) h0]; simp
 rintro m t w1 ⟨i, q, rfl, rfl, hi1, hi, hle, hmem, rfl⟩
 unfold Ah
 by_cases hlt : i < out.length
 .have d1 : decide ((i : Int) < (out.length : Int)) = true := by simp; omega
  have g1 := ob.cell (off := i)
  rw [MN hlt] at g1
  have ht := EM hlt
  have hxb : out.getD i 0 <= 1000000 := by rw [qG hlt]; exact hb _ (aB5 hlt)
  have hqb : q <= 1000000 := hb q (aCe hmem)
  generalize out.getD i 0 = x at *
  have hmx : (if (q : Int) < (x : Int) then (x : Int) else (q : Int)) = ((max q x : Nat) : Int) := by split <;> omega
  have hmx2 : (if (x : Int) > (q : Int) then (x : Int) else (q : Int)) = ((max q x : Nat) : Int) := by split <;> omega
  simp (disch := omega) only [gI, gC, fZ, aA9, aBc, hJ, gX, dJ, gS, gY, d1, g1, gD, iQ, hmx, and_true, gB]
  refine ⟨out.length - (i + 1), by omega, i + 1, max q x, rfl, rfl, by omega, by omega, ?_, ?_⟩
  .intro y hy
   rw [ht] at hy
   rcases aCc.1 hy with hy | hy
   .have := hle y hy; omega
   .rw [aDa.1 hy]; omega
  .rw [ht, aCc]
   rcases aDn q x with h | h
   .rw [Nat.max_eq_right h]; exact .inr (aDa.2 rfl)
   .rw [Nat.max_eq_left h]; exact .inl hmem
 .have d1 : decide ((i : Int) < (out.length : Int)) = false := by simp; omega
  obtain rfl : i = out.length := by omega
  rw [aCM] at *
  unfold zF
  simp (disch := omega) only [gI, gC, hJ, gX, dJ, gY, d1, and_true, fV]
  exact ⟨q, rfl, hle, hmem⟩
def acW (ns : List Nat) : Bool := decide (ns.length <= 256 /\ 2 <= ns.countP GP /\ ns.sum <= 2147483647)
theorem anX {ov : aDt} {ns : List Nat} {w : aDs} (hs : Sl w ov (SB ns)) (hn : ∀ n ∈ ns, n <= 4294967295) (hl : ns.length <= 300) {RR : aDt -> aDs -> Prop}
 (hK : ∀ last, VX ns ns.length last -> GA RR ov (.int .u64 ns.sum) (.int .i64 (ns.countP GP : Nat)) (.int .i64 last) w) :
 Gm RR ov (.int .u64 0) (.int .i64 0) (.int .i64 0) w := by
 unfold Gm KF J9
 obtain ⟨a, c, hv, hc⟩ := hs.len
 rw [aBf] at hv
 subst hv
 simp (disch := omega) only [gI, fK, dJ]
 unfold Ld JW
 refine kO.rule (fun m (t : aDt × aDt × aDt × aDt) w' => ∃ i last : Nat, m = ns.length - i /\ t = (.int .u64 (ns.take i).sum, .int .i64 ((ns.take i).countP GP : Nat), .int .i64 last, .int .i64 i) /\ i <= ns.length /\ VX ns i last /\ last <= i /\ w' = w) ns.length
  ⟨0, 0, rfl, by simp, by omega, .inl ⟨rfl, fun j h => by omega⟩, by omega, rfl⟩ ?_
 rintro m t w1 ⟨i, last, rfl, rfl, hi, hla, hli, rfl⟩
 unfold FT Kj
 by_cases hlt : i < ns.length
 .have d1 : decide ((i : Int) < (ns.length : Int)) = true := by simp; omega
  obtain ⟨b, off, rfl, hcell⟩ := slA hs (by omega)
  have g1 := hcell i hlt
  rw [Qi hlt] at g1
  have hni : ns.getD i 0 <= 4294967295 := by rw [qG hlt]; exact hn _ (aB5 hlt)
  have hsl := ahY (B := 4294967295) (l := ns.take i) fun n hn' => hn n (aCe hn')
  rw [aBo, aBU (by omega)] at hsl
  have hsl2 : i * 4294967295 <= 300 * 4294967295 := aBL _ (by omega)
  have hct : (ns.take i).countP GP <= i := by
   have := aDm (l := ns.take i) (p := GP)
   rw [aBo] at this; omega
  have hsum : (ns.take (i + 1)).sum = (ns.take i).sum + ns.getD i 0 := by rw [EM hlt, List.sum_append]; simp
  have hcnt : (ns.take (i + 1)).countP GP = (ns.take i).countP GP + (if 0 < ns.getD i 0 then 1 else 0) := by
   rw [EM hlt, List.countP_append, List.countP_singleton]
   unfold GP; simp only [decide_eq_true_eq]
  have hstep := hla.step
  generalize ns.getD i 0 = n at *
  have e1 : (((ns.take i).sum : Nat) : Int) + (n : Int) = (((ns.take i).sum + n : Nat) : Int) := by omega
  by_cases h0 : 0 < n
  .have d2 : decide ((0 : Int) < (n : Int)) = true := by simp; omega
   rw [if_pos h0] at hcnt hstep
   unfold Cf
   simp (disch := omega) only [gI, gY, d1, fJ, aA9, hJ, gX, dJ, gA, g1, gD, cU, iB, iA, d2, gB, e1, and_true]
   exact ⟨ns.length - (i + 1), by omega, i + 1, i, rfl, by rw [hsum, hcnt] <;> rfl, by omega, hstep, by omega⟩
  .have d2 : decide ((0 : Int) < (n : Int)) = false := by simp; omega
   rw [if_neg h0] at hcnt hstep
   unfold Cf
   simp (disch := omega) only [gI, gY, d1, fJ, aA9, hJ, gX, dJ, gA, g1, gD, cU, iB, iA, d2, fV, e1, and_true, gB]
   exact ⟨ns.length - (i + 1), by omega, i + 1, last, rfl, by rw [hsum, hcnt] <;> rfl, by omega, hstep, by omega⟩
 .have d1 : decide ((i : Int) < (ns.length : Int)) = false := by simp; omega
  obtain rfl : i = ns.length := by omega
  rw [aBp (aBk _)]
  simp (disch := omega) only [gI, gY, d1, hJ, dJ, fV]
  exact hK last hla
def axL (w : aDs) (base : Nat) (ns : List Nat) (r : aDt) : Prop :=
 (acW ns = false /\ r = .tuple #[.slice none 0 0, .int .i64 1]) ∨
 (acW ns = true /\ ∃ (last : Nat) (v : aDt) (wl : List Nat), VX ns ns.length last /\ last < ns.length /\ wl.length = last + 1 /\ pH wl ≠ 0 /\ (∀ x ∈ wl, x <= 11) /\ (∀ i, i < last + 1 -> (0 < wl.getD i 0 ↔ 0 < ns.getD i 0)) /\
  r = .tuple #[v, .int .i64 0] /\ yW w base 1 v (last + 1) ((R9 wl).map nR))
theorem ahZ {ns out : List Nat} {d last : Nat} (h : Qn (ns.take (last + 1)) out) (hk : nJ out = 2048) (hd : ∀ o ∈ out, o <= d) (hdm : d ∈ out) (hl : last < ns.length) (hl2 : ns.length <= 256) (hlast : 0 < ns.getD last 0) (h2 : 2 <= (ns.take (last + 1)).countP GP) :
 pH (out.map (wOf d)) = d /\ d ≠ 0 /\ d <= 11 /\ ∀ i, i < last + 1 -> (0 < (out.map (wOf d)).getD i 0 ↔ 0 < ns.getD i 0) := by
 have hlen := h.len
 have htl : (ns.take (last + 1)).length = last + 1 := by rw [aBo]; omega
 have htd : ∀ i, i < last + 1 -> (ns.take (last + 1)).getD i 0 = ns.getD i 0 := fun i hi => by
  rw [aBi, aBi, aBW hi]
 have hd11 : d <= 11 := by
  obtain ⟨i, hi, rfl⟩ := aB6 hdm
  exact h.le hi
 have hon := h.on last (by omega) (by rw [htd last (by omega)]; exact hlast)
 have hd0 : 1 <= d := by
  have := hd (out.getD last 0) (by rw [qG (by omega)]; exact aB5 _)
  omega
 have hW := aqG hd11 hd hk
 have hget : ∀ i, i < last + 1 -> (out.map (wOf d)).getD i 0 = wOf d (out.getD i 0) := fun i hi => by
  rw [qG (by rw [aBf]; omega), aDk, qG (by omega)]
 have hiff : ∀ i, i < last + 1 -> (0 < (out.map (wOf d)).getD i 0 ↔ 0 < ns.getD i 0) := fun i hi => by
  rw [hget i hi, <- htd i hi]
  have hdi := hd (out.getD i 0) (by rw [qG (by omega)]; exact aB5 _)
  constructor
  .intro h0
   rcases aCl ((ns.take (last + 1)).getD i 0) with h' | h'
   .rw [h.off i (by omega) h'] at h0
    simp [wOf] at h0
   .exact h'
  .intro h0
   have := h.on i (by omega) h0
   unfold wOf
   rw [if_neg (by omega)]; omega
 have hlast2 : 2 <= last + 1 := by
  have := aDm (l := ns.take (last + 1)) (p := GP)
  omega
 refine ⟨aoL ?_ hd11 (by rw [aBf]; omega) (by rw [aBf]; omega) ?_ hW, by omega, hd11, hiff⟩
 .intro w hw
  obtain ⟨o, ho, rfl⟩ := aB3.1 hw
  have := hd o ho
  unfold wOf
  split <;> omega
 .intro hq
  rw [aC7, aBf, hlen, htl, aCS] at hq
  have := (hiff last (by omega)).2 hlast
  rw [aBi, hq] at this
  simp at this
theorem alO {base i x : Nat} {d10 v' t51 t52 t53 : aDt} {cells : List aDt} {w : aDs} (o : yW w base 1 v' i cells) (hb : base <= w.heap.size) (hi : i <= 100000) (hx : x < 256) {kn : aDt -> aDt -> aDt -> aDt -> aDt -> aDs -> Prop}
 (hK : ∀ v2 w2, yW w2 base 1 v2 (i + 1) (cells ++ [.int .u8 x]) -> jN w w2 (fun y => base <= y) -> kn d10 v2 t51 t52 t53 w2) : D0 kn d10 v' (.int .i64 x) t51 t52 t53 w := by
 unfold D0
 obtain ⟨av, cv, rfl⟩ := o.len
 have e8 : IntKind.u8.wrap (x : Int) = (x : Int) := jI (by omega) (by omega)
 simp (disch := omega) only [gI, fM, e8, dJ]
 refine uE (cells := #[.int .u8 x]) (by decide) (by decide) (by kernel_rfl) fun w5 o5 x5 s5 => ?_
 have z5 := x5.size
 refine mU (m := 1) (news := [.int .u8 x]) (o.ext x5 (fun _ _ h => h)) (o5.cl (off := 0) (l := [.int .u8 x]) (n := 1) rfl (fun i hi => by rw [aBc])) (by simp [one]) (by omega) (by omega) fun v6 w6 o6 x6 => ?_
 exact hK v6 w6 o6 ((x5.mono fun _ _ h => h.elim).seq x6)
theorem azP {ov : aDt} {ns : List Nat} {w : aDs} (hs : Sl w ov (SB ns)) (hn : ∀ n ∈ ns, n <= 4294967295) (hl : ns.length <= 300) :
 jE pg JP #[ov] w (fun r w' => axL w' w.heap.size ns r /\ jN w w' mC) := by
 refine Zo ?_
 unfold aaR Ly JV
 refine anX hs hn hl fun last hlast => ?_
 unfold GA Lr
 obtain ⟨a, c, hv, hc⟩ := hs.len
 rw [aBf] at hv hc
 subst hv
 have no : ¬ (ns.length <= 256 /\ 2 <= ns.countP GP /\ ns.sum <= 2147483647) -> acW ns = false := fun h => by unfold acW; exact decide_eq_false h
 have hcl : ns.countP GP <= ns.length := aDm
 have hsl := ahY (B := 4294967295) hn
 have hsl2 : ns.length * 4294967295 <= 300 * 4294967295 := aBL _ (by omega)
 by_cases h4 : 256 < ns.length
 .have d4 : decide ((256 : Int) < (ns.length : Int)) = true := by simp; omega
  simp (disch := omega) only [gI, fK, hJ, dJ, iA, d4, gU, gR, if_true, gB, gJ]
  exact ⟨.inl ⟨no (by omega), rfl⟩, jN.refl _ _⟩
 have d4 : decide ((256 : Int) < (ns.length : Int)) = false := by simp; omega
 by_cases h5 : ns.countP GP < 2
 .have d5 : decide (((ns.countP GP : Nat) : Int) < 2) = true := by simp only [decide_eq_true_eq]; omega
  simp (disch := omega) only [gI, fK, hJ, dJ, iA, d4, gT, gR, aA8, if_false, gO, gY, d5, gU, if_true, gB, gJ]
  exact ⟨.inl ⟨no (by omega), rfl⟩, jN.refl _ _⟩
 have d5 : decide (((ns.countP GP : Nat) : Int) < 2) = false := by simp only [decide_eq_false_iff_not]; omega
 by_cases h7 : 2147483647 < ns.sum
 .have d7 : decide ((2147483647 : Int) < ((ns.sum : Nat) : Int)) = true := by simp only [decide_eq_true_eq]; omega
  simp (disch := omega) only [gI, fK, hJ, dJ, iA, d4, gT, gR, aA8, if_false, gO, gY, d5, d7, gB]
  exact ⟨.inl ⟨no (by omega), rfl⟩, jN.refl _ _⟩
 have d7 : decide ((2147483647 : Int) < ((ns.sum : Nat) : Int)) = false := by simp only [decide_eq_false_iff_not]; omega
 have hok : acW ns = true := by unfold acW; exact decide_eq_true (by omega)
 have hl2 : last < ns.length /\ 0 < ns.getD last 0 /\ ∀ j, last < j -> j < ns.length -> ns.getD j 0 = 0 := by
  rcases hlast with ⟨rfl, h⟩ | h
  .exfalso
   have : ns.countP GP = 0 := Yp fun n hn => by
    obtain ⟨i, hi, rfl⟩ := aB6 hn
    rw [<- qG hi]; exact h i hi
   omega
  .exact h
 obtain ⟨l1, l2, l3⟩ := hl2
 have hS0 : 0 < ns.sum := by
  have := arE (l := ns) (n := ns.getD last 0) (by rw [qG l1]; exact aB5 _)
  omega
 have hz : ∀ n ∈ ns.drop (last + 1), n = 0 := fun n hn => by
  obtain ⟨i, hi, rfl⟩ := aB6 hn
  rw [aBr] at hi
  rw [List.getElem_drop, <- qG (by omega)]
  exact l3 _ (by omega) (by omega)
 have hcnt : 2 <= (ns.take (last + 1)).countP GP := by
  have : ns.countP GP = (ns.take (last + 1) ++ ns.drop (last + 1)).countP GP := by rw [aCH]
  rw [List.countP_append, Yp hz] at this
  omega
 have htl : (ns.take (last + 1)).length = last + 1 := by rw [aBo]; omega
 have e1 : (last : Int) + 1 = ((last + 1 : Nat) : Int) := by omega
 obtain ⟨b0, off0, rfl, _⟩ := slA hs (by omega)
 have e2 : mN (some ⟨b0, off0, none⟩) c 0 1 = some ⟨b0, off0, none⟩ := by have := Qu (b := b0) (o := off0) (m := c) (l := 0) (by omega); simpa using this
 have hsub : Sl w (.slice (some ⟨b0, off0, none⟩) (last + 1) c) (SB (ns.take (last + 1))) := by
  have := axF hs (k := last + 1) (by omega)
  rw [<- aCO] at this
  exact this
 simp (disch := omega) only [gI, fK, hJ, e1, gX, dJ, dL, e2, aA9, aCN, iA, d4, gT, gR, aA8, if_false, gO, gY, d5, d7, fV]
 refine (anS hsub (fun n h => hn n (aCe h)) (by omega) hcnt hS0 (by omega)).mono ?_
 rintro r w1 ⟨pb, out, rfl, hpb, ob, hLen, hkr, x1⟩
 rw [htl]
 have hol : out.length = last + 1 := by rw [hLen.len, htl]
 have hm := axA (w := w1) (pb := pb) (out := out) ob (by omega) (by omega) (fun o ho => by
  obtain ⟨i, hi, rfl⟩ := aB6 ho
  have := hLen.le hi; omega)
 rw [hol] at hm
 refine hm.mono ?_
 rintro r w2 ⟨⟨d, rfl, hd1, hd2⟩, rfl⟩
 obtain ⟨hdep, hd0, hd11, hiff⟩ := ahZ hLen hkr hd1 hd2 l1 (by omega) l2 hcnt
 obtain ⟨wl, hwl⟩ : ∃ wl, out.map (wOf d) = wl := ⟨_, rfl⟩
 have hwll : wl.length = last + 1 := by rw [<- hwl, aBf, hol]
 have hwget : ∀ i, i < last + 1 -> wl.getD i 0 = wOf d (out.getD i 0) := fun i hi => by
  rw [<- hwl, qG (by rw [aBf]; omega), aDk, qG (by omega)]
 rw [hwl] at hdep hiff
 have hw11 := (OT hdep hd0).1
 unfold LD J0 Lg
 simp (disch := omega) only [gI, gC, dJ]
 unfold Ki KK
 refine kO.rule (fun m (t : aDt × aDt) w' => ∃ (i : Nat) (v' : aDt), m = last + 1 - i /\ t = (v', .int .i64 i) /\ i <= last + 1 /\ yW w' w2.heap.size 1 v' i ((R9 (wl.take i)).map nR) /\ jN w2 w' mC) (last + 1)
  ⟨0, _, rfl, rfl, by omega, yW.nil _ _ _, jN.refl _ _⟩ ?_
 rintro m t w3 ⟨i, v', rfl, rfl, hi, o3, x3⟩
 have z3 := x3.size
 have z1 := x1.size
 unfold Ih MQ
 by_cases hlt : i < last + 1
 .have d1 : decide ((i : Int) < ((last + 1 : Nat) : Int)) = true := by simp only [decide_eq_true_eq]; omega
  have f1 := (ob.ext x3 (fun h => h)).cell (off := i)
  rw [MN (by omega)] at f1
  have hs1 := EM (ns := wl) (i := i) (by omega)
  rw [hwget i hlt] at hs1
  have hod := hd1 (out.getD i 0) (by rw [qG (by omega)]; exact aB5 _)
  have hwo : wOf d (out.getD i 0) = if out.getD i 0 = 0 then 0 else d + 1 - out.getD i 0 := rfl
  generalize out.getD i 0 = o at *
  have hcells : ∀ x : Nat, wOf d o = x -> x < 256 -> ((R9 (wl.take i)).map nR ++ [.int .u8 x]) = (R9 (wl.take (i + 1))).map nR := fun x hx hx2 => by
   rw [hs1, hx]
   simp only [R9, aBK, aBH, aDp, ajY hx2]
  unfold Nq MU UM M3
  by_cases h0 : 0 < o
  .have d2 : decide ((0 : Int) < (o : Int)) = true := by simp; omega
   have e3 : (d : Int) + 1 - (o : Int) = ((d + 1 - o : Nat) : Int) := by omega
   rw [if_neg (by omega)] at hwo
   simp (disch := omega) only [gI, gY, d1, fZ, aA9, aBc, hJ, gX, dJ, gS, f1, gD, iA, d2, iC, e3, gB]
   refine alO o3 z3 (by omega) (by omega) fun v4 w4 o4 x4 => ?_
   rw [hcells _ hwo (by omega)] at o4
   unfold DL
   simp (disch := omega) only [gI, hJ, gX, dJ]
   exact ⟨last + 1 - (i + 1), by omega, i + 1, _, rfl, rfl, by omega, o4, x3.trans x4 fun b hb h => by omega⟩
  .have d2 : decide ((0 : Int) < (o : Int)) = false := by simp; omega
   rw [if_pos (by omega)] at hwo
   simp (disch := omega) only [gI, gY, d1, fZ, aA9, aBc, hJ, gX, dJ, gS, f1, gD, iA, d2, iC, fV, gB]
   refine alO (x := 0) o3 z3 (by omega) (by omega) fun v4 w4 o4 x4 => ?_
   rw [hcells _ hwo (by omega)] at o4
   unfold DL
   simp (disch := omega) only [gI, hJ, gX, dJ]
   exact ⟨last + 1 - (i + 1), by omega, i + 1, _, rfl, rfl, by omega, o4, x3.trans x4 fun b hb h => by omega⟩
 .have d1 : decide ((i : Int) < ((last + 1 : Nat) : Int)) = false := by simp only [decide_eq_false_iff_not]; omega
  obtain rfl : i = last + 1 := by omega
  rw [aBp (by omega)] at o3
  unfold Iz
  simp (disch := omega) only [gI, gY, d1, dJ, fV]
  refine ⟨.inr ⟨hok, last, v', wl, hlast, l1, hwll, by omega, fun x hx => by have := hw11 x hx; omega, hiff, rfl, o3.1, ?_⟩, x1.seq x3⟩
  rcases o3.2 with h | ⟨b, c, rest', q1, q2, q3⟩
  .exact .inl h
  .exact .inr ⟨b, c, rest', q1, by omega, q3⟩
def wrB (l : List Nat) : List Nat := (126 + l.length) :: QZ (l.take (l.length - 1))
theorem ajC (l : List Nat) : (wrB l).length = 1 + (l.length - 1 + 1) / 2 := by
 unfold wrB
 rw [aBu, Wp, aBo, aBU (by omega)]; omega
theorem ZE {base i x : Nat} {l0 n4 v' i6 : aDt} {cells : List aDt} {w : aDs} (o : yW w base 1 v' i cells) (hb : base <= w.heap.size) (hi : i <= 100000) (hx : x < 256) {kn : aDt -> aDt -> aDt -> aDt -> aDs -> Prop}
 (hK : ∀ v2 w2, yW w2 base 1 v2 (i + 1) (cells ++ [.int .u8 x]) -> jN w w2 (fun y => base <= y) -> kn l0 n4 v2 i6 w2) : yE kn l0 n4 v' i6 (.int .u8 x) w := by
 unfold yE
 obtain ⟨av, cv, rfl⟩ := o.len
 refine uE (cells := #[.int .u8 x]) (by decide) (by decide) (by kernel_rfl) fun w5 o5 x5 s5 => ?_
 have z5 := x5.size
 refine mU (m := 1) (news := [.int .u8 x]) (o.ext x5 (fun _ _ h => h)) (o5.cl (off := 0) (l := [.int .u8 x]) (n := 1) rfl (fun i hi => by rw [aBc])) (by simp [one]) (by omega) (by omega) fun v6 w6 o6 x6 => ?_
 exact hK v6 w6 o6 ((x5.mono fun _ _ h => h.elim).seq x6)
theorem aiF {v : aDt} {l : List UInt8} {w : aDs} (h : Bs w v l) (hl : l.length <= 100000) (hd : pH (kQ l) = 0 ∨ 129 < l.length) :
 jE pg AN #[v] w (fun r w' => r = .tuple #[.slice none 0 0, .int .i64 (if pH (kQ l) = 0 then 1 else 12)] /\ w' = w) := by
 refine Le ?_
 obtain ⟨a, n, c, rfl, hn, hc, hh⟩ := id h
 rw [aBf] at hn
 subst hn
 unfold MP BI BO
 refine (Zr h hl).mono ?_
 rintro r w1 ⟨rfl, rfl⟩
 by_cases h0 : pH (kQ l) = 0
 .have n1 : (((pH (kQ l) : Nat) : Int) == 0) = true := by rw [h0] <;> rfl
  simp (disch := omega) only [gI, iJ, n1, fQ, dJ, iC, gX, hJ, fM, iA, and_true, gB]
  rw [if_pos h0]
 .have n1 : (((pH (kQ l) : Nat) : Int) == 0) = false := beq_eq_false_iff_ne.2 (by omega)
  have d1 : decide ((129 : Int) < (l.length : Int)) = true := by simp; omega
  simp (disch := omega) only [gI, iJ, n1, fQ, dJ, iC, gX, hJ, fM, iA, d1, gB, and_true, fV]
  rw [if_neg h0]
theorem apK {v : aDt} {l : List UInt8} {d : Nat} {w : aDs} (h : Bs w v l) (hd : pH (kQ l) = d) (hd0 : d ≠ 0) (hl : l.length <= 129) :
 jE pg AN #[v] w (fun r w' => ∃ v', r = .tuple #[v', .int .i64 0] /\ yW w' w.heap.size 1 v' (wrB (kQ l)).length ((R9 (wrB (kQ l))).map nR) /\ jN w w' mC) := by
 refine Le ?_
 obtain ⟨hall, hd11, hl2, hl256, hlast, hsum⟩ := OT hd hd0
 have hnl := nX l
 obtain ⟨b, off, c, rfl, hc, hcell⟩ := Yg h (by omega)
 unfold MP BI BO
 refine (Zr h (by omega)).mono ?_
 rintro r w1 ⟨rfl, rfl⟩
 rw [hd]
 have n1 : ((d : Int) == 0) = false := beq_eq_false_iff_ne.2 (by omega)
 have d1 : decide ((129 : Int) < (l.length : Int)) = false := by simp; omega
 have e1 : (l.length : Int) - 1 = ((l.length - 1 : Nat) : Int) := by omega
 have e2 : (127 : Int) + ((l.length - 1 : Nat) : Int) = ((126 + l.length : Nat) : Int) := by omega
 have e8 : IntKind.u8.wrap ((126 + l.length : Nat) : Int) = ((126 + l.length : Nat) : Int) := jI (by omega) (by omega)
 simp (disch := omega) only [gI, iJ, n1, fQ, dJ, iC, e1, gX, hJ, e2, fM, e8, iA, d1, fV]
 refine uE (cells := #[.int .u8 (126 + l.length : Nat)]) (by decide) (by decide) (by kernel_rfl) fun w2 o2 x2 s2 => ?_
 obtain ⟨m, hm⟩ : ∃ m, m = (kQ l).take (l.length - 1) := ⟨_, rfl⟩
 have hml : m.length = l.length - 1 := by rw [hm, aBo, hnl]; omega
 have hmg : ∀ i, i < l.length - 1 -> m.getD i 0 = (kQ l).getD i 0 := fun i hi => by
  rw [hm, aBi, aBi, aBW hi]
 have hm11 : ∀ x ∈ m, x <= 11 := fun x hx => by rw [hm] at hx; have := hall x (aCe hx); omega
 have hm16 : ∀ x ∈ m, x < 16 := fun x hx => by have := hm11 x hx; omega
 have hwr : wrB (kQ l) = (126 + l.length) :: QZ m := by unfold wrB; rw [hnl, hm]
 have hpl := Wp m
 have ho2 : yW w2 w1.heap.size 1 (.slice (some ⟨w1.heap.size, 0, none⟩) 1 1) (0 + 1) ((R9 ((126 + l.length) :: (QZ m).take 0)).map nR) := by
  refine ⟨by simp, .inr ⟨_, 1, [], rfl, aBk _, ?_, rfl, aBk _⟩⟩
  simp only [R9, aBE, aBH, aDp, ajY (show 126 + l.length < 256 by omega), aBV]
  exact o2
 unfold GF Gr Gg FV Fx
 refine kO.rule (fun q (t : aDt × aDt) w' => ∃ (j : Nat) (v' : aDt), q = l.length - 1 + 1 - j /\ t = (v', .int .i64 (2 * j : Nat)) /\ j <= (m.length + 1) / 2 /\ yW w' w1.heap.size 1 v' (j + 1) ((R9 ((126 + l.length) :: (QZ m).take j)).map nR) /\ jN w1 w' mC) (l.length - 1 + 1)
  ⟨0, _, rfl, rfl, by omega, ho2, x2⟩ ?_
 rintro q t w3 ⟨j, v', rfl, rfl, hj, o3, x3⟩
 have z3 := x3.size
 unfold Cv HG
 by_cases hlt : 2 * j < l.length - 1
 .have d2 : decide (((2 * j : Nat) : Int) < ((l.length - 1 : Nat) : Int)) = true := by simp only [decide_eq_true_eq]; omega
  obtain ⟨_, _, _, he, _, hcell3⟩ := Yg (h.ext x3 (kL _)) (by omega)
  cases he
  have g1 := hcell3 (2 * j) (by omega)
  have hg1 := apZ (l := l) (i := 2 * j) (by omega)
  rw [<- hg1, <- hmg (2 * j) hlt] at g1
  have hs1 := EM (ns := QZ m) (i := j) (by omega)
  rw [aoK (by omega)] at hs1
  have hx11 : m.getD (2 * j) 0 <= 11 := hm11 _ (FO (by omega))
  have hy11 := avE hm16 (2 * j + 1)
  have e3 : ((2 * j : Nat) : Int) + 1 = ((2 * j + 1 : Nat) : Int) := by omega
  have hcells : ∀ z : Nat, z = m.getD (2 * j) 0 * 16 + m.getD (2 * j + 1) 0 -> z < 256 -> ((R9 ((126 + l.length) :: (QZ m).take j)).map nR ++ [.int .u8 z]) = (R9 ((126 + l.length) :: (QZ m).take (j + 1))).map nR := fun z hz hz2 => by
   rw [hs1, <- hz]
   simp only [R9, aBK, aBH, aDp, ajY hz2, aCm]
  have hodd : ¬ 2 * j + 1 < l.length - 1 -> m.getD (2 * j + 1) 0 = 0 := fun h => by
   rw [aBi, aBs (by omega)] <;> rfl
  have g2 : 2 * j + 1 < l.length - 1 -> w3.cell? ⟨b, off + (2 * j + 1), none⟩ = some (.int .u8 (m.getD (2 * j + 1) 0 : Nat)) := fun h => by
   have := hcell3 (2 * j + 1) (by omega)
   rw [<- apZ (l := l) (i := 2 * j + 1) (by omega), <- hmg (2 * j + 1) h] at this
   exact this
  generalize m.getD (2 * j) 0 = x at *
  generalize m.getD (2 * j + 1) 0 = y at *
  have t4 : (4 : Int).toNat = 4 := rfl
  have e4 : IntKind.u8.wrap ((x : Int) * 2 ^ (min 4 IntKind.u8.bits)) = ((x * 16 : Nat) : Int) := by
   rw [show min 4 IntKind.u8.bits = 4 from rfl]
   have : (x : Int) * 2 ^ 4 = ((x * 16 : Nat) : Int) := by omega
   rw [this]
   exact jI (by omega) (by omega)
  unfold Ic H8 OL Hg
  by_cases h2 : 2 * j + 1 < l.length - 1
  .have d3 : decide (((2 * j + 1 : Nat) : Int) < ((l.length - 1 : Nat) : Int)) = true := by simp only [decide_eq_true_eq]; omega
   have g2 := g2 h2
   have e5 := ZM (a := x * 16) (b := y) (by omega) (by omega)
   have e6 : x * 16 ||| y = x * 16 + y := by
    rw [Nat.or_comm]
    have := ajJ (x := y) (i := 4) (by omega) x
    rw [show x * 2 ^ 4 = x * 16 from rfl] at this
    rw [this]; omega
   rw [e6] at e5
   simp (disch := omega) only [gI, gY, d2, fR, aA9, hJ, e3, gX, dJ, gK, d3, gB, g1, gD, iG, t4, e4, g2, jJ, e5]
   refine ZE (x := x * 16 + y) o3 (by omega) (by omega) (by omega) fun v4 w4 o4 x4 => ?_
   rw [hcells _ rfl (by omega)] at o4
   unfold yT
   have e7 : ((2 * j : Nat) : Int) + 2 = ((2 * (j + 1) : Nat) : Int) := by omega
   simp (disch := omega) only [gI, hJ, e7, gX, dJ]
   exact ⟨l.length - 1 + 1 - (j + 1), by omega, j + 1, _, rfl, rfl, by omega, o4, x3.trans x4 fun b hb h => by omega⟩
  .have d3 : decide (((2 * j + 1 : Nat) : Int) < ((l.length - 1 : Nat) : Int)) = false := by simp only [decide_eq_false_iff_not]; omega
   have hy0 := hodd h2
   simp (disch := omega) only [gI, gY, d2, fR, aA9, hJ, e3, gX, dJ, gK, d3, fV, g1, gD, iG, t4, e4, gB]
   refine ZE (x := x * 16) o3 (by omega) (by omega) (by omega) fun v4 w4 o4 x4 => ?_
   rw [hcells _ (by omega) (by omega)] at o4
   unfold yT
   have e7 : ((2 * j : Nat) : Int) + 2 = ((2 * (j + 1) : Nat) : Int) := by omega
   simp (disch := omega) only [gI, hJ, e7, gX, dJ]
   exact ⟨l.length - 1 + 1 - (j + 1), by omega, j + 1, _, rfl, rfl, by omega, o4, x3.trans x4 fun b hb h => by omega⟩
 .have d2 : decide (((2 * j : Nat) : Int) < ((l.length - 1 : Nat) : Int)) = false := by simp only [decide_eq_false_iff_not]; omega
  have hjE : j = (QZ m).length := by omega
  rw [aBp (by omega), <- hwr] at o3
  have hwl : (wrB (kQ l)).length = j + 1 := by rw [hwr, aBu]; omega
  unfold CJ
  simp (disch := omega) only [gI, gY, d2, dJ, fV]
  exact ⟨v', rfl, by rw [hwl]; exact o3, x3⟩
def avX (w : aDs) (base n : Nat) (r : aDt) : Prop :=
 (∃ e : Int, e ≠ 0 /\ r = .tuple #[.slice none 0 0, .int .i64 e]) ∨
 (∃ (v : aDt) (bytes : List UInt8), r = .tuple #[v, .int .i64 0] /\ yW w base 1 v bytes.length (bytes.map nR) /\ 1 <= bytes.length /\ bytes.length <= 11 * n / 8 + 100)
def P3 (kind form n m bits : Nat) : Nat := kind + form * 4 + n * 2 ^ 4 + m * 2 ^ (4 + bits)
theorem asJ {a b : Nat} (ha : a < 2 ^ 64) (hb : b < 2 ^ 64) : Zt .u64 (a : Int) (b : Int) = ((a ||| b : Nat) : Int) := alZ ha hb
theorem afB {RR : aDt -> aDs -> Prop} {sv bv : aDt} {l B : List UInt8} {kind form bits size : Nat} {w : aDs} (h : Bs w sv l) (hb : Bs w bv B) (hl : l.length <= 131072) (hk : kind < 4) (hf : form < 4) (hbits : bits <= 18) (hsz : 1 <= size /\ size <= 8) (hB : B.length < 2 ^ 18) (hn : l.length < 2 ^ bits)
 (hk' : ∀ r w', yW w' w.heap.size 1 r (nK (P3 kind form l.length B.length bits) size ++ B).length ((nK (P3 kind form l.length B.length bits) size ++ B).map nR) -> jN w w' mC -> RR (.tuple #[r, .int .i64 0]) w') :
 sE RR sv (.int .i64 (kind : Nat)) bv (.int .i64 (form : Nat)) (.int .i64 (bits : Nat)) (.int .i64 (size : Nat)) w := by
 unfold sE
 refine (HC w).mono ?_
 rintro r w1 ⟨rfl, hlt1, hw1, x1⟩
 have z1 := x1.size
 have h1 := h.ext x1 (kL _)
 have hb1 := hb.ext x1 (kL _)
 have hbv := hb1
 obtain ⟨a, c, rfl, hc⟩ := h1.len
 obtain ⟨a2, c2, rfl, hc2⟩ := hb1.len
 rw [aBf] at hbv
 have t2 : (2 : Int).toNat = 2 := rfl
 have t4 : (4 : Int).toNat = 4 := rfl
 have e1 := abY (a := form) (n := 2) (by omega) (by omega)
 have e2 := abY (a := l.length) (n := 4) (by omega) (by omega)
 have e3 : Zt .i64 (kind : Int) ((form * 2 ^ 2 : Nat) : Int) = ((kind + form * 4 : Nat) : Int) := by
  rw [Xu (by omega) (by omega), Nat.or_comm, PN 2 (by omega)]; congr 1; omega
 have e4 : Zt .i64 ((kind + form * 4 : Nat) : Int) ((l.length * 2 ^ 4 : Nat) : Int) = ((kind + form * 4 + l.length * 2 ^ 4 : Nat) : Int) := by
  rw [Xu (by omega) (by omega), Nat.or_comm, PN 4 (by omega)]; congr 1; omega
 have e5 : IntKind.u64.wrap ((kind + form * 4 + l.length * 2 ^ 4 : Nat) : Int) = ((kind + form * 4 + l.length * 2 ^ 4 : Nat) : Int) := iB (by omega) (by omega)
 have e6 : IntKind.u64.wrap (B.length : Int) = (B.length : Int) := iB (by omega) (by omega)
 have e7 : (4 : Int) + (bits : Int) = ((4 + bits : Nat) : Int) := by omega
 have hp22 : 2 ^ (4 + bits) <= 2 ^ 22 := aBw (by omega) (by omega)
 have hm40 : B.length * 2 ^ (4 + bits) < 2 ^ 40 := by
  have h1 : B.length * 2 ^ (4 + bits) <= (2 ^ 18 - 1) * 2 ^ 22 := Nat.mul_le_mul (by omega) hp22
  have : (2 ^ 18 - 1) * 2 ^ 22 < 2 ^ 40 := by decide
  omega
 have e8 : IntKind.u64.wrap ((B.length : Int) * 2 ^ (min (4 + bits) IntKind.u64.bits)) = ((B.length * 2 ^ (4 + bits) : Nat) : Int) := by
  have hmin : min (4 + bits) IntKind.u64.bits = 4 + bits := by
   have : IntKind.u64.bits = 64 := rfl
   omega
  rw [hmin]
  have : (B.length : Int) * 2 ^ (4 + bits) = ((B.length * 2 ^ (4 + bits) : Nat) : Int) := by push_cast; rfl
  rw [this]
  exact iB (by omega) (by omega)
 have hlow : kind + form * 4 + l.length * 2 ^ 4 < 2 ^ (4 + bits) := by
  rw [aCf]
  generalize 2 ^ bits = Y at *
  omega
 have e9 : Zt .u64 ((kind + form * 4 + l.length * 2 ^ 4 : Nat) : Int) ((B.length * 2 ^ (4 + bits) : Nat) : Int) = ((P3 kind form l.length B.length bits : Nat) : Int) := by
  rw [asJ (by omega) (by omega), ajJ hlow, P3, aBX (2 ^ (4 + bits))]
 have hX : P3 kind form l.length B.length bits < 2 ^ 64 := by unfold P3; omega
 have t8 : ((4 + bits : Nat) : Int).toNat = 4 + bits := aA9 _
 simp (disch := omega) only [gI, jD, dJ, stepR_skip, hJ, iC, iM, iP, iL, iO, jJ, iW, gM, iG, iI, iJ, iH, gY, iN, iA, iF, iX, iV, iK, gR, iR, iQ, iE, jW, jV, kH, kC, kG, kF, kI, kE, kD, gD, Result.ok.injEq, Next.value.injEq, true_and, and_true, gX, iB, iU, iT, iS, jI, aA9, gV, gU, gW, gT, gO, gJ, gP, gN, gB, fV, if_true, if_false, aA8, aBc, aBa, aBb, aBe, aBd, aA7, aA6, fQ, fL, fA, fR, cU, eS, eH, dK, bN, fS, fC, aM, dF, aX, bM, bP, aQ, cP, cG, eQ, aF, gS, aI, cK, aT, bV, fT, cI, cJ, aD, gA, fB, aP, aG, bQ, gQ, aK, fH, dT, dP, gG, dA, eU, dI, eF, fG, fF, cF, dC, gK, dO, cB, aS, bU, bT, fN, aE, aH, aN, aY, bF, cN, bK, aA, eY, aL, cL, fJ, fE, gF, bJ, eP, eN, bY, fW, fI, eJ, dH, cO, dB, bD, aZ, aO, fZ, aJ, dE, dQ, bG, cC, fK, dL, gC, fM, eZ, eT, dU, aR, cH, dG, fY, fX, fD, cZ, aW, dV, fU, cR, eX, fP, cD, bO, eD, bB, dX, dW, cM, eL, eK, bE, cY, bA, dR, dY, eE, bL, cS, cQ, dN, bS, cW, cV, fO, bZ, eI, eM, gE, dZ, dS, dM, dD, bH, bR, bX, bW, aU, cX, aV, t2, t4, e1, e2, e3, e4, e5, e6, e7, e8, e9, t8, aBf]
 refine (Co (x := P3 kind form l.length B.length bits) (n := size) hw1 (fun y hy => by omega) hX hsz (aC5 _)).mono ?_
 rintro r w2 ⟨rfl, hw2, x2⟩
 have z2 := x2.size
 rw [aBZ] at hw2
 have x02 : jN w w2 mC := x1.trans x2 fun y hy h => by omega
 have hb2 := hb.ext x02 (kL _)
 rw [aBf] at hb2
 have hp5 : (nK (P3 kind form l.length B.length bits) size).length <= 8 := by rw [kZ]; exact hsz.2
 refine (ZO hw2 (fun y hy => by omega) hb2 (by omega)).mono ?_
 rintro r w3 ⟨rfl, hw3, x3⟩
 have z3 := x3.size
 refine (SS hw3 (by rw [aBg]; omega)).mono ?_
 rintro r w4 ⟨o4, x4⟩
 refine hk' r w4 (Pk o4 (by omega)) ((x02.trans x3 fun y hy h => by omega).seq x4)
def aAy (w : aDs) (base lim : Nat) (r : aDt) : Prop :=
 r = .tuple #[.slice none 0 0, .int .i64 1] ∨ ∃ (v : aDt) (bytes : List UInt8), r = .tuple #[v, .int .i64 0] /\ Bs w v bytes /\ AtI v base w.heap.size /\ bytes.length <= lim
theorem afQ {lv sv : aDt} {wl l : List UInt8} {w : aDs} (hw : Bs w lv wl) (hwl : wl.length <= 100000) (h : Bs w sv l) (hl : l.length <= 131072) :
 jE pg xC #[lv, sv] w (fun r w' => aAy w' w.heap.size (11 * l.length / 8 + 12) r /\ jN w w' mC) := by
 refine Qz ?_
 unfold MC B8
 have hv := h
 obtain ⟨a, c, rfl, hc⟩ := h.len
 rw [aBf] at hv ⊢
 by_cases hlt : l.length < 256
 .have d1 : decide ((l.length : Int) < 256) = true := decide_eq_true (by omega)
  simp (disch := omega) only [gI, jD, dJ, stepR_skip, hJ, iC, iM, iP, iL, iO, jJ, iW, gM, iG, iI, iJ, iH, gY, iN, iA, iF, iX, iV, iK, gR, iR, iQ, iE, jW, jV, kH, kC, kG, kF, kI, kE, kD, gD, Result.ok.injEq, Next.value.injEq, true_and, and_true, gX, iB, iU, iT, iS, jI, aA9, gV, gU, gW, gT, gO, gJ, gP, gN, gB, fV, if_true, if_false, aA8, aBc, aBa, aBb, aBe, aBd, aA7, aA6, fQ, fL, fA, fR, cU, eS, eH, dK, bN, fS, fC, aM, dF, aX, bM, bP, aQ, cP, cG, eQ, aF, gS, aI, cK, aT, bV, fT, cI, cJ, aD, gA, fB, aP, aG, bQ, gQ, aK, fH, dT, dP, gG, dA, eU, dI, eF, fG, fF, cF, dC, gK, dO, cB, aS, bU, bT, fN, aE, aH, aN, aY, bF, cN, bK, aA, eY, aL, cL, fJ, fE, gF, bJ, eP, eN, bY, fW, fI, eJ, dH, cO, dB, bD, aZ, aO, fZ, aJ, dE, dQ, bG, cC, fK, dL, gC, fM, eZ, eT, dU, aR, cH, dG, fY, fX, fD, cZ, aW, dV, fU, cR, eX, fP, cD, bO, eD, bB, dX, dW, cM, eL, eK, bE, cY, bA, dR, dY, eE, bL, cS, cQ, dN, bS, cW, cV, fO, bZ, eI, eM, gE, dZ, dS, dM, dD, bH, bR, bX, bW, aU, cX, aV, d1]
  refine (afO hw hwl hv hl).mono ?_
  rintro r w1 ⟨ho, x1⟩
  rcases ho with ⟨hb, rfl⟩ | ⟨hd, hall, v, bytes, rfl, hbs, hat, hlen, hback⟩
  .simp (disch := omega) only [gI, jD, dJ, stepR_skip, hJ, iC, iM, iP, iL, iO, jJ, iW, gM, iG, iI, iJ, iH, gY, iN, iA, iF, iX, iV, iK, gR, iR, iQ, iE, jW, jV, kH, kC, kG, kF, kI, kE, kD, gD, Result.ok.injEq, Next.value.injEq, true_and, and_true, gX, iB, iU, iT, iS, jI, aA9, gV, gU, gW, gT, gO, gJ, gP, gN, gB, fV, if_true, if_false, aA8, aBc, aBa, aBb, aBe, aBd, aA7, aA6, fQ, fL, fA, fR, cU, eS, eH, dK, bN, fS, fC, aM, dF, aX, bM, bP, aQ, cP, cG, eQ, aF, gS, aI, cK, aT, bV, fT, cI, cJ, aD, gA, fB, aP, aG, bQ, gQ, aK, fH, dT, dP, gG, dA, eU, dI, eF, fG, fF, cF, dC, gK, dO, cB, aS, bU, bT, fN, aE, aH, aN, aY, bF, cN, bK, aA, eY, aL, cL, fJ, fE, gF, bJ, eP, eN, bY, fW, fI, eJ, dH, cO, dB, bD, aZ, aO, fZ, aJ, dE, dQ, bG, cC, fK, dL, gC, fM, eZ, eT, dU, aR, cH, dG, fY, fX, fD, cZ, aW, dV, fU, cR, eX, fP, cD, bO, eD, bB, dX, dW, cM, eL, eK, bE, cY, bA, dR, dY, eE, bL, cS, cQ, dN, bS, cW, cV, fO, bZ, eI, eM, gE, dZ, dS, dM, dD, bH, bR, bX, bW, aU, cX, aV]
   exact ⟨.inl rfl, x1⟩
  .simp (disch := omega) only [gI, jD, dJ, stepR_skip, hJ, iC, iM, iP, iL, iO, jJ, iW, gM, iG, iI, iJ, iH, gY, iN, iA, iF, iX, iV, iK, gR, iR, iQ, iE, jW, jV, kH, kC, kG, kF, kI, kE, kD, gD, Result.ok.injEq, Next.value.injEq, true_and, and_true, gX, iB, iU, iT, iS, jI, aA9, gV, gU, gW, gT, gO, gJ, gP, gN, gB, fV, if_true, if_false, aA8, aBc, aBa, aBb, aBe, aBd, aA7, aA6, fQ, fL, fA, fR, cU, eS, eH, dK, bN, fS, fC, aM, dF, aX, bM, bP, aQ, cP, cG, eQ, aF, gS, aI, cK, aT, bV, fT, cI, cJ, aD, gA, fB, aP, aG, bQ, gQ, aK, fH, dT, dP, gG, dA, eU, dI, eF, fG, fF, cF, dC, gK, dO, cB, aS, bU, bT, fN, aE, aH, aN, aY, bF, cN, bK, aA, eY, aL, cL, fJ, fE, gF, bJ, eP, eN, bY, fW, fI, eJ, dH, cO, dB, bD, aZ, aO, fZ, aJ, dE, dQ, bG, cC, fK, dL, gC, fM, eZ, eT, dU, aR, cH, dG, fY, fX, fD, cZ, aW, dV, fU, cR, eX, fP, cD, bO, eD, bB, dX, dW, cM, eL, eK, bE, cY, bA, dR, dY, eE, bL, cS, cQ, dN, bS, cW, cV, fO, bZ, eI, eM, gE, dZ, dS, dM, dD, bH, bR, bX, bW, aU, cX, aV]
   exact ⟨.inr ⟨v, bytes, rfl, hbs, hat, by omega⟩, x1⟩
 .have d1 : decide ((l.length : Int) < 256) = false := decide_eq_false (by omega)
  simp (disch := omega) only [gI, jD, dJ, stepR_skip, hJ, iC, iM, iP, iL, iO, jJ, iW, gM, iG, iI, iJ, iH, gY, iN, iA, iF, iX, iV, iK, gR, iR, iQ, iE, jW, jV, kH, kC, kG, kF, kI, kE, kD, gD, Result.ok.injEq, Next.value.injEq, true_and, and_true, gX, iB, iU, iT, iS, jI, aA9, gV, gU, gW, gT, gO, gJ, gP, gN, gB, fV, if_true, if_false, aA8, aBc, aBa, aBb, aBe, aBd, aA7, aA6, fQ, fL, fA, fR, cU, eS, eH, dK, bN, fS, fC, aM, dF, aX, bM, bP, aQ, cP, cG, eQ, aF, gS, aI, cK, aT, bV, fT, cI, cJ, aD, gA, fB, aP, aG, bQ, gQ, aK, fH, dT, dP, gG, dA, eU, dI, eF, fG, fF, cF, dC, gK, dO, cB, aS, bU, bT, fN, aE, aH, aN, aY, bF, cN, bK, aA, eY, aL, cL, fJ, fE, gF, bJ, eP, eN, bY, fW, fI, eJ, dH, cO, dB, bD, aZ, aO, fZ, aJ, dE, dQ, bG, cC, fK, dL, gC, fM, eZ, eT, dU, aR, cH, dG, fY, fX, fD, cZ, aW, dV, fU, cR, eX, fP, cD, bO, eD, bB, dX, dW, cM, eL, eK, bE, cY, bA, dR, dY, eE, bL, cS, cQ, dN, bS, cW, cV, fO, bZ, eI, eM, gE, dZ, dS, dM, dD, bH, bR, bX, bW, aU, cX, aV, d1]
  refine (adO hw hwl hv hl).mono ?_
  rintro r w1 ⟨ho, x1⟩
  rcases ho with ⟨hb, rfl⟩ | ⟨hd, hall, v, bytes, rfl, hbs, hat, hlen, hback⟩
  .simp (disch := omega) only [gI, jD, dJ, stepR_skip, hJ, iC, iM, iP, iL, iO, jJ, iW, gM, iG, iI, iJ, iH, gY, iN, iA, iF, iX, iV, iK, gR, iR, iQ, iE, jW, jV, kH, kC, kG, kF, kI, kE, kD, gD, Result.ok.injEq, Next.value.injEq, true_and, and_true, gX, iB, iU, iT, iS, jI, aA9, gV, gU, gW, gT, gO, gJ, gP, gN, gB, fV, if_true, if_false, aA8, aBc, aBa, aBb, aBe, aBd, aA7, aA6, fQ, fL, fA, fR, cU, eS, eH, dK, bN, fS, fC, aM, dF, aX, bM, bP, aQ, cP, cG, eQ, aF, gS, aI, cK, aT, bV, fT, cI, cJ, aD, gA, fB, aP, aG, bQ, gQ, aK, fH, dT, dP, gG, dA, eU, dI, eF, fG, fF, cF, dC, gK, dO, cB, aS, bU, bT, fN, aE, aH, aN, aY, bF, cN, bK, aA, eY, aL, cL, fJ, fE, gF, bJ, eP, eN, bY, fW, fI, eJ, dH, cO, dB, bD, aZ, aO, fZ, aJ, dE, dQ, bG, cC, fK, dL, gC, fM, eZ, eT, dU, aR, cH, dG, fY, fX, fD, cZ, aW, dV, fU, cR, eX, fP, cD, bO, eD, bB, dX, dW, cM, eL, eK, bE, cY, bA, dR, dY, eE, bL, cS, cQ, dN, bS, cW, cV, fO, bZ, eI, eM, gE, dZ, dS, dM, dD, bH, bR, bX, bW, aU, cX, aV]
   exact ⟨.inl rfl, x1⟩
  .simp (disch := omega) only [gI, jD, dJ, stepR_skip, hJ, iC, iM, iP, iL, iO, jJ, iW, gM, iG, iI, iJ, iH, gY, iN, iA, iF, iX, iV, iK, gR, iR, iQ, iE, jW, jV, kH, kC, kG, kF, kI, kE, kD, gD, Result.ok.injEq, Next.value.injEq, true_and, and_true, gX, iB, iU, iT, iS, jI, aA9, gV, gU, gW, gT, gO, gJ, gP, gN, gB, fV, if_true, if_false, aA8, aBc, aBa, aBb, aBe, aBd, aA7, aA6, fQ, fL, fA, fR, cU, eS, eH, dK, bN, fS, fC, aM, dF, aX, bM, bP, aQ, cP, cG, eQ, aF, gS, aI, cK, aT, bV, fT, cI, cJ, aD, gA, fB, aP, aG, bQ, gQ, aK, fH, dT, dP, gG, dA, eU, dI, eF, fG, fF, cF, dC, gK, dO, cB, aS, bU, bT, fN, aE, aH, aN, aY, bF, cN, bK, aA, eY, aL, cL, fJ, fE, gF, bJ, eP, eN, bY, fW, fI, eJ, dH, cO, dB, bD, aZ, aO, fZ, aJ, dE, dQ, bG, cC, fK, dL, gC, fM, eZ, eT, dU, aR, cH, dG, fY, fX, fD, cZ, aW, dV, fU, cR, eX, fP, cD, bO, eD, bB, dX, dW, cM, eL, eK, bE, cY, bA, dR, dY, eE, bL, cS, cQ, dN, bS, cW, cV, fO, bZ, eI, eM, gE, dZ, dS, dM, dD, bH, bR, bX, bW, aU, cX, aV]
   exact ⟨.inr ⟨v, bytes, rfl, hbs, hat, hlen⟩, x1⟩
theorem aoB {sv lv : aDt} {l wl : List UInt8} {w : aDs} (h : Bs w sv l) (hl : l.length <= 131072) (hw : Bs w lv wl) (hwl : wl.length <= 100000) :
 jE pg Bx #[sv, lv, .bool true] w (fun r w' => avX w' w.heap.size l.length r /\ jN w w' mC) := by
 refine Sa ?_
 obtain ⟨RR, hRR⟩ : ∃ RR : aDt -> aDs -> Prop, RR = fun r w' => avX w' w.heap.size l.length r /\ jN w w' mC := ⟨_, rfl⟩
 rw [<- hRR]
 unfold Q6 EO Es
 have hv := h
 obtain ⟨a, c, rfl, hc⟩ := h.len
 rw [aBf] at hv ⊢
 by_cases h0 : l.length = 0
 .have n0 : ((l.length : Int) == 0) = true := by rw [h0] <;> rfl
  simp (disch := omega) only [gI, jD, dJ, stepR_skip, hJ, iC, iM, iP, iL, iO, jJ, iW, gM, iG, iI, iJ, iH, gY, iN, iA, iF, iX, iV, iK, gR, iR, iQ, iE, jW, jV, kH, kC, kG, kF, kI, kE, kD, gD, Result.ok.injEq, Next.value.injEq, true_and, and_true, gX, iB, iU, iT, iS, jI, aA9, gV, gU, gW, gT, gO, gJ, gP, gN, gB, fV, if_true, if_false, aA8, aBc, aBa, aBb, aBe, aBd, aA7, aA6, fQ, fL, fA, fR, cU, eS, eH, dK, bN, fS, fC, aM, dF, aX, bM, bP, aQ, cP, cG, eQ, aF, gS, aI, cK, aT, bV, fT, cI, cJ, aD, gA, fB, aP, aG, bQ, gQ, aK, fH, dT, dP, gG, dA, eU, dI, eF, fG, fF, cF, dC, gK, dO, cB, aS, bU, bT, fN, aE, aH, aN, aY, bF, cN, bK, aA, eY, aL, cL, fJ, fE, gF, bJ, eP, eN, bY, fW, fI, eJ, dH, cO, dB, bD, aZ, aO, fZ, aJ, dE, dQ, bG, cC, fK, dL, gC, fM, eZ, eT, dU, aR, cH, dG, fY, fX, fD, cZ, aW, dV, fU, cR, eX, fP, cD, bO, eD, bB, dX, dW, cM, eL, eK, bE, cY, bA, dR, dY, eE, bL, cS, cQ, dN, bS, cW, cV, fO, bZ, eI, eM, gE, dZ, dS, dM, dD, bH, bR, bX, bW, aU, cX, aV, n0]
  rw [hRR]
  exact ⟨.inl ⟨1, by decide, rfl⟩, jN.refl _ _⟩
 have hne : l ≠ [] := fun e => h0 (by rw [e] <;> rfl)
 have n0 : ((l.length : Int) == 0) = false := beq_eq_false_iff_ne.2 (by omega)
 have d1 : decide ((l.length : Int) > 131072) = false := decide_eq_false (by omega)
 have d2 : decide ((131072 : Int) < (l.length : Int)) = false := decide_eq_false (by omega)
 have tail : ∀ (kind : Nat) (d : List UInt8) (dv : aDt) (w1 : aDs), kind < 4 -> jN w w1 mC -> yW w1 w.heap.size 1 dv d.length (d.map nR) -> d.length <= 66 →
     Ak RR (.slice a l.length c) lv (.int .i64 (kind : Nat)) dv w1 := by
  intro kind d dv w1 hk4 x1 od hdl
  have z1 := x1.size
  unfold Ak EG
  have hv1 := hv.ext x1 (kL _)
  have hw1 := hw.ext x1 (kL _)
  refine (afQ hw1 hwl hv1 hl).mono ?_
  rintro r w2 ⟨ho, x2⟩
  have z2 := x2.size
  rcases ho with rfl | ⟨v, bytes, rfl, hbs, hat, hlen⟩
  .have n1 : ((1 : Int) != 0) = true := rfl
   simp (disch := omega) only [gI, jD, dJ, stepR_skip, hJ, iC, iM, iP, iL, iO, jJ, iW, gM, iG, iI, iJ, iH, gY, iN, iA, iF, iX, iV, iK, gR, iR, iQ, iE, jW, jV, kH, kC, kG, kF, kI, kE, kD, gD, Result.ok.injEq, Next.value.injEq, true_and, and_true, gX, iB, iU, iT, iS, jI, aA9, gV, gU, gW, gT, gO, gJ, gP, gN, gB, fV, if_true, if_false, aA8, aBc, aBa, aBb, aBe, aBd, aA7, aA6, fQ, fL, fA, fR, cU, eS, eH, dK, bN, fS, fC, aM, dF, aX, bM, bP, aQ, cP, cG, eQ, aF, gS, aI, cK, aT, bV, fT, cI, cJ, aD, gA, fB, aP, aG, bQ, gQ, aK, fH, dT, dP, gG, dA, eU, dI, eF, fG, fF, cF, dC, gK, dO, cB, aS, bU, bT, fN, aE, aH, aN, aY, bF, cN, bK, aA, eY, aL, cL, fJ, fE, gF, bJ, eP, eN, bY, fW, fI, eJ, dH, cO, dB, bD, aZ, aO, fZ, aJ, dE, dQ, bG, cC, fK, dL, gC, fM, eZ, eT, dU, aR, cH, dG, fY, fX, fD, cZ, aW, dV, fU, cR, eX, fP, cD, bO, eD, bB, dX, dW, cM, eL, eK, bE, cY, bA, dR, dY, eE, bL, cS, cQ, dN, bS, cW, cV, fO, bZ, eI, eM, gE, dZ, dS, dM, dD, bH, bR, bX, bW, aU, cX, aV, n1]
   rw [hRR]
   exact ⟨.inl ⟨1, by decide, rfl⟩, x1.seq x2⟩
  .have n1 : ((0 : Int) != 0) = false := rfl
   have od2 := od.ext x2 (fun _ _ h => h)
   have hbv := hbs
   obtain ⟨a2, c2, rfl, hc2⟩ := hbs.len
   rw [aBf] at hbv
   have hcl := hbv.cl
   rw [aBf] at hcl
   simp (disch := omega) only [gI, jD, dJ, stepR_skip, hJ, iC, iM, iP, iL, iO, jJ, iW, gM, iG, iI, iJ, iH, gY, iN, iA, iF, iX, iV, iK, gR, iR, iQ, iE, jW, jV, kH, kC, kG, kF, kI, kE, kD, gD, Result.ok.injEq, Next.value.injEq, true_and, and_true, gX, iB, iU, iT, iS, jI, aA9, gV, gU, gW, gT, gO, gJ, gP, gN, gB, fV, if_true, if_false, aA8, aBc, aBa, aBb, aBe, aBd, aA7, aA6, fQ, fL, fA, fR, cU, eS, eH, dK, bN, fS, fC, aM, dF, aX, bM, bP, aQ, cP, cG, eQ, aF, gS, aI, cK, aT, bV, fT, cI, cJ, aD, gA, fB, aP, aG, bQ, gQ, aK, fH, dT, dP, gG, dA, eU, dI, eF, fG, fF, cF, dC, gK, dO, cB, aS, bU, bT, fN, aE, aH, aN, aY, bF, cN, bK, aA, eY, aL, cL, fJ, fE, gF, bJ, eP, eN, bY, fW, fI, eJ, dH, cO, dB, bD, aZ, aO, fZ, aJ, dE, dQ, bG, cC, fK, dL, gC, fM, eZ, eT, dU, aR, cH, dG, fY, fX, fD, cZ, aW, dV, fU, cR, eX, fP, cD, bO, eD, bB, dX, dW, cM, eL, eK, bE, cY, bA, dR, dY, eE, bL, cS, cQ, dN, bS, cW, cV, fO, bZ, eI, eM, gE, dZ, dS, dM, dD, bH, bR, bX, bW, aU, cX, aV, n1, aBf]
   refine mU od2 hcl (F6 _) (by omega) (by omega) fun v3 w3 o3 x3 => ?_
   have z3 := x3.size
   have hs3 : Bs w3 v3 (d ++ bytes) := by
    have := o3.sl
    rw [<- aBK] at this
    exact this
   obtain ⟨a3, c3, rfl⟩ := o3.len
   have hml : (d ++ bytes).length = d.length + bytes.length := aBg
   rw [<- hml]
   have x03 : jN w w3 mC := (x1.seq x2).trans x3 fun y hy h => by omega
   have hv3 := hv.ext x03 (kL _)
   have d3 : decide ((262144 : Int) <= ((d ++ bytes).length : Int)) = false := decide_eq_false (by omega)
   have d4 : decide (((d ++ bytes).length : Int) ≥ 262144) = false := decide_eq_false (by omega)
   have fin : ∀ (form bits size : Nat), form < 4 -> bits <= 18 -> 1 <= size /\ size <= 8 -> l.length < 2 ^ bits →
       sE RR (.slice a l.length c) (.int .i64 (kind : Nat)) (.slice a3 (d ++ bytes).length c3) (.int .i64 (form : Nat)) (.int .i64 (bits : Nat)) (.int .i64 (size : Nat)) w3 := by
    intro form bits size hf hb hsz hn
    have hs3' := hs3
    rw [<- hml] at hs3'
    refine afB (l := l) (B := d ++ bytes) hv3 hs3' hl hk4 hf hb hsz (by omega) hn fun r w4 o4 x4 => ?_
    rw [hRR]
    have hpl : (nK (P3 kind form l.length (d ++ bytes).length bits) size ++ (d ++ bytes)).length = size + (d ++ bytes).length := by rw [aBg, kZ]
    exact ⟨.inr ⟨r, _, rfl, Pk o4 (by omega), by rw [hpl]; omega, by rw [hpl]; omega⟩, x03.seq x4⟩
   have hmx : (if (((d ++ bytes).length : Nat) : Int) > ((l.length : Nat) : Int) then (((d ++ bytes).length : Nat) : Int) else ((l.length : Nat) : Int)) = ((max l.length (d ++ bytes).length : Nat) : Int) := by split <;> omega
   obtain ⟨M, hM⟩ : ∃ M, M = max l.length (d ++ bytes).length := ⟨_, rfl⟩
   rw [<- hM] at hmx
   by_cases hlt : l.length < 256
   .have d5 : decide ((l.length : Int) < 256) = true := decide_eq_true (by omega)
    have d6 : decide ((M : Int) < 1024) = true := decide_eq_true (by omega)
    simp (disch := omega) only [gI, jD, dJ, stepR_skip, hJ, iC, iM, iP, iL, iO, jJ, iW, gM, iG, iI, iJ, iH, gY, iN, iA, iF, iX, iV, iK, gR, iR, iQ, iE, jW, jV, kH, kC, kG, kF, kI, kE, kD, gD, Result.ok.injEq, Next.value.injEq, true_and, and_true, gX, iB, iU, iT, iS, jI, aA9, gV, gU, gW, gT, gO, gJ, gP, gN, gB, fV, if_true, if_false, aA8, aBc, aBa, aBb, aBe, aBd, aA7, aA6, fQ, fL, fA, fR, cU, eS, eH, dK, bN, fS, fC, aM, dF, aX, bM, bP, aQ, cP, cG, eQ, aF, gS, aI, cK, aT, bV, fT, cI, cJ, aD, gA, fB, aP, aG, bQ, gQ, aK, fH, dT, dP, gG, dA, eU, dI, eF, fG, fF, cF, dC, gK, dO, cB, aS, bU, bT, fN, aE, aH, aN, aY, bF, cN, bK, aA, eY, aL, cL, fJ, fE, gF, bJ, eP, eN, bY, fW, fI, eJ, dH, cO, dB, bD, aZ, aO, fZ, aJ, dE, dQ, bG, cC, fK, dL, gC, fM, eZ, eT, dU, aR, cH, dG, fY, fX, fD, cZ, aW, dV, fU, cR, eX, fP, cD, bO, eD, bB, dX, dW, cM, eL, eK, bE, cY, bA, dR, dY, eE, bL, cS, cQ, dN, bS, cW, cV, fO, bZ, eI, eM, gE, dZ, dS, dM, dD, bH, bR, bX, bW, aU, cX, aV, d3, d4, d5, hmx, d6]
    exact fin 0 10 3 (by omega) (by omega) (by omega) (by omega)
   have d5 : decide ((l.length : Int) < 256) = false := decide_eq_false (by omega)
   by_cases h1 : M < 1024
   .have d6 : decide ((M : Int) < 1024) = true := decide_eq_true (by omega)
    simp (disch := omega) only [gI, jD, dJ, stepR_skip, hJ, iC, iM, iP, iL, iO, jJ, iW, gM, iG, iI, iJ, iH, gY, iN, iA, iF, iX, iV, iK, gR, iR, iQ, iE, jW, jV, kH, kC, kG, kF, kI, kE, kD, gD, Result.ok.injEq, Next.value.injEq, true_and, and_true, gX, iB, iU, iT, iS, jI, aA9, gV, gU, gW, gT, gO, gJ, gP, gN, gB, fV, if_true, if_false, aA8, aBc, aBa, aBb, aBe, aBd, aA7, aA6, fQ, fL, fA, fR, cU, eS, eH, dK, bN, fS, fC, aM, dF, aX, bM, bP, aQ, cP, cG, eQ, aF, gS, aI, cK, aT, bV, fT, cI, cJ, aD, gA, fB, aP, aG, bQ, gQ, aK, fH, dT, dP, gG, dA, eU, dI, eF, fG, fF, cF, dC, gK, dO, cB, aS, bU, bT, fN, aE, aH, aN, aY, bF, cN, bK, aA, eY, aL, cL, fJ, fE, gF, bJ, eP, eN, bY, fW, fI, eJ, dH, cO, dB, bD, aZ, aO, fZ, aJ, dE, dQ, bG, cC, fK, dL, gC, fM, eZ, eT, dU, aR, cH, dG, fY, fX, fD, cZ, aW, dV, fU, cR, eX, fP, cD, bO, eD, bB, dX, dW, cM, eL, eK, bE, cY, bA, dR, dY, eE, bL, cS, cQ, dN, bS, cW, cV, fO, bZ, eI, eM, gE, dZ, dS, dM, dD, bH, bR, bX, bW, aU, cX, aV, d3, d4, d5, hmx, d6]
    exact fin 1 10 3 (by omega) (by omega) (by omega) (by omega)
   have d6 : decide ((M : Int) < 1024) = false := decide_eq_false (by omega)
   by_cases h2 : M < 16384
   .have d7 : decide ((M : Int) < 16384) = true := decide_eq_true (by omega)
    simp (disch := omega) only [gI, jD, dJ, stepR_skip, hJ, iC, iM, iP, iL, iO, jJ, iW, gM, iG, iI, iJ, iH, gY, iN, iA, iF, iX, iV, iK, gR, iR, iQ, iE, jW, jV, kH, kC, kG, kF, kI, kE, kD, gD, Result.ok.injEq, Next.value.injEq, true_and, and_true, gX, iB, iU, iT, iS, jI, aA9, gV, gU, gW, gT, gO, gJ, gP, gN, gB, fV, if_true, if_false, aA8, aBc, aBa, aBb, aBe, aBd, aA7, aA6, fQ, fL, fA, fR, cU, eS, eH, dK, bN, fS, fC, aM, dF, aX, bM, bP, aQ, cP, cG, eQ, aF, gS, aI, cK, aT, bV, fT, cI, cJ, aD, gA, fB, aP, aG, bQ, gQ, aK, fH, dT, dP, gG, dA, eU, dI, eF, fG, fF, cF, dC, gK, dO, cB, aS, bU, bT, fN, aE, aH, aN, aY, bF, cN, bK, aA, eY, aL, cL, fJ, fE, gF, bJ, eP, eN, bY, fW, fI, eJ, dH, cO, dB, bD, aZ, aO, fZ, aJ, dE, dQ, bG, cC, fK, dL, gC, fM, eZ, eT, dU, aR, cH, dG, fY, fX, fD, cZ, aW, dV, fU, cR, eX, fP, cD, bO, eD, bB, dX, dW, cM, eL, eK, bE, cY, bA, dR, dY, eE, bL, cS, cQ, dN, bS, cW, cV, fO, bZ, eI, eM, gE, dZ, dS, dM, dD, bH, bR, bX, bW, aU, cX, aV, d3, d4, d5, hmx, d6, d7]
    exact fin 2 14 4 (by omega) (by omega) (by omega) (by omega)
   .have d7 : decide ((M : Int) < 16384) = false := decide_eq_false (by omega)
    simp (disch := omega) only [gI, jD, dJ, stepR_skip, hJ, iC, iM, iP, iL, iO, jJ, iW, gM, iG, iI, iJ, iH, gY, iN, iA, iF, iX, iV, iK, gR, iR, iQ, iE, jW, jV, kH, kC, kG, kF, kI, kE, kD, gD, Result.ok.injEq, Next.value.injEq, true_and, and_true, gX, iB, iU, iT, iS, jI, aA9, gV, gU, gW, gT, gO, gJ, gP, gN, gB, fV, if_true, if_false, aA8, aBc, aBa, aBb, aBe, aBd, aA7, aA6, fQ, fL, fA, fR, cU, eS, eH, dK, bN, fS, fC, aM, dF, aX, bM, bP, aQ, cP, cG, eQ, aF, gS, aI, cK, aT, bV, fT, cI, cJ, aD, gA, fB, aP, aG, bQ, gQ, aK, fH, dT, dP, gG, dA, eU, dI, eF, fG, fF, cF, dC, gK, dO, cB, aS, bU, bT, fN, aE, aH, aN, aY, bF, cN, bK, aA, eY, aL, cL, fJ, fE, gF, bJ, eP, eN, bY, fW, fI, eJ, dH, cO, dB, bD, aZ, aO, fZ, aJ, dE, dQ, bG, cC, fK, dL, gC, fM, eZ, eT, dU, aR, cH, dG, fY, fX, fD, cZ, aW, dV, fU, cR, eX, fP, cD, bO, eD, bB, dX, dW, cM, eL, eK, bE, cY, bA, dR, dY, eE, bL, cS, cQ, dN, bS, cW, cV, fO, bZ, eI, eM, gE, dZ, dS, dM, dD, bH, bR, bX, bW, aU, cX, aV, d3, d4, d5, hmx, d6, d7]
    exact fin 3 18 5 (by omega) (by omega) (by omega) (by omega)
 simp (disch := omega) only [gI, jD, dJ, stepR_skip, hJ, iC, iM, iP, iL, iO, jJ, iW, gM, iG, iI, iJ, iH, gY, iN, iA, iF, iX, iV, iK, gR, iR, iQ, iE, jW, jV, kH, kC, kG, kF, kI, kE, kD, gD, Result.ok.injEq, Next.value.injEq, true_and, and_true, gX, iB, iU, iT, iS, jI, aA9, gV, gU, gW, gT, gO, gJ, gP, gN, gB, fV, if_true, if_false, aA8, aBc, aBa, aBb, aBe, aBd, aA7, aA6, fQ, fL, fA, fR, cU, eS, eH, dK, bN, fS, fC, aM, dF, aX, bM, bP, aQ, cP, cG, eQ, aF, gS, aI, cK, aT, bV, fT, cI, cJ, aD, gA, fB, aP, aG, bQ, gQ, aK, fH, dT, dP, gG, dA, eU, dI, eF, fG, fF, cF, dC, gK, dO, cB, aS, bU, bT, fN, aE, aH, aN, aY, bF, cN, bK, aA, eY, aL, cL, fJ, fE, gF, bJ, eP, eN, bY, fW, fI, eJ, dH, cO, dB, bD, aZ, aO, fZ, aJ, dE, dQ, bG, cC, fK, dL, gC, fM, eZ, eT, dU, aR, cH, dG, fY, fX, fD, cZ, aW, dV, fU, cR, eX, fP, cD, bO, eD, bB, dX, dW, cM, eL, eK, bE, cY, bA, dR, dY, eE, bL, cS, cQ, dN, bS, cW, cV, fO, bZ, eI, eM, gE, dZ, dS, dM, dD, bH, bR, bX, bW, aU, cX, aV, n0, d1, d2]
 by_cases hbad : pH (kQ wl) = 0 ∨ 129 < wl.length
 .refine (aiF hw hwl hbad).mono ?_
  rintro r w1 ⟨rfl, rfl⟩
  by_cases hd : pH (kQ wl) = 0
  .rw [if_pos hd]
   have n1 : ((1 : Int) != 0) = true := rfl
   simp (disch := omega) only [gI, jD, dJ, stepR_skip, hJ, iC, iM, iP, iL, iO, jJ, iW, gM, iG, iI, iJ, iH, gY, iN, iA, iF, iX, iV, iK, gR, iR, iQ, iE, jW, jV, kH, kC, kG, kF, kI, kE, kD, gD, Result.ok.injEq, Next.value.injEq, true_and, and_true, gX, iB, iU, iT, iS, jI, aA9, gV, gU, gW, gT, gO, gJ, gP, gN, gB, fV, if_true, if_false, aA8, aBc, aBa, aBb, aBe, aBd, aA7, aA6, fQ, fL, fA, fR, cU, eS, eH, dK, bN, fS, fC, aM, dF, aX, bM, bP, aQ, cP, cG, eQ, aF, gS, aI, cK, aT, bV, fT, cI, cJ, aD, gA, fB, aP, aG, bQ, gQ, aK, fH, dT, dP, gG, dA, eU, dI, eF, fG, fF, cF, dC, gK, dO, cB, aS, bU, bT, fN, aE, aH, aN, aY, bF, cN, bK, aA, eY, aL, cL, fJ, fE, gF, bJ, eP, eN, bY, fW, fI, eJ, dH, cO, dB, bD, aZ, aO, fZ, aJ, dE, dQ, bG, cC, fK, dL, gC, fM, eZ, eT, dU, aR, cH, dG, fY, fX, fD, cZ, aW, dV, fU, cR, eX, fP, cD, bO, eD, bB, dX, dW, cM, eL, eK, bE, cY, bA, dR, dY, eE, bL, cS, cQ, dN, bS, cW, cV, fO, bZ, eI, eM, gE, dZ, dS, dM, dD, bH, bR, bX, bW, aU, cX, aV, n1]
   rw [hRR]
   exact ⟨.inl ⟨1, by decide, rfl⟩, jN.refl _ _⟩
  .rw [if_neg hd]
   have n1 : ((12 : Int) != 0) = true := rfl
   simp (disch := omega) only [gI, jD, dJ, stepR_skip, hJ, iC, iM, iP, iL, iO, jJ, iW, gM, iG, iI, iJ, iH, gY, iN, iA, iF, iX, iV, iK, gR, iR, iQ, iE, jW, jV, kH, kC, kG, kF, kI, kE, kD, gD, Result.ok.injEq, Next.value.injEq, true_and, and_true, gX, iB, iU, iT, iS, jI, aA9, gV, gU, gW, gT, gO, gJ, gP, gN, gB, fV, if_true, if_false, aA8, aBc, aBa, aBb, aBe, aBd, aA7, aA6, fQ, fL, fA, fR, cU, eS, eH, dK, bN, fS, fC, aM, dF, aX, bM, bP, aQ, cP, cG, eQ, aF, gS, aI, cK, aT, bV, fT, cI, cJ, aD, gA, fB, aP, aG, bQ, gQ, aK, fH, dT, dP, gG, dA, eU, dI, eF, fG, fF, cF, dC, gK, dO, cB, aS, bU, bT, fN, aE, aH, aN, aY, bF, cN, bK, aA, eY, aL, cL, fJ, fE, gF, bJ, eP, eN, bY, fW, fI, eJ, dH, cO, dB, bD, aZ, aO, fZ, aJ, dE, dQ, bG, cC, fK, dL, gC, fM, eZ, eT, dU, aR, cH, dG, fY, fX, fD, cZ, aW, dV, fU, cR, eX, fP, cD, bO, eD, bB, dX, dW, cM, eL, eK, bE, cY, bA, dR, dY, eE, bL, cS, cQ, dN, bS, cW, cV, fO, bZ, eI, eM, gE, dZ, dS, dM, dD, bH, bR, bX, bW, aU, cX, aV, n1]
   rw [hRR]
   exact ⟨.inl ⟨12, by decide, rfl⟩, jN.refl _ _⟩
 .have hd : pH (kQ wl) ≠ 0 := fun h => hbad (.inl h)
  refine (apK hw rfl hd (by omega)).mono ?_
  rintro r w1 ⟨v', rfl, o1, x1⟩
  have n1 : ((0 : Int) != 0) = false := rfl
  have hbl : (R9 (wrB (kQ wl))).length = (wrB (kQ wl)).length := by simp [R9]
  have hwl2 := ajC (kQ wl)
  rw [nX] at hwl2
  obtain ⟨a1, c1, rfl⟩ := o1.len
  simp (disch := omega) only [gI, jD, dJ, stepR_skip, hJ, iC, iM, iP, iL, iO, jJ, iW, gM, iG, iI, iJ, iH, gY, iN, iA, iF, iX, iV, iK, gR, iR, iQ, iE, jW, jV, kH, kC, kG, kF, kI, kE, kD, gD, Result.ok.injEq, Next.value.injEq, true_and, and_true, gX, iB, iU, iT, iS, jI, aA9, gV, gU, gW, gT, gO, gJ, gP, gN, gB, fV, if_true, if_false, aA8, aBc, aBa, aBb, aBe, aBd, aA7, aA6, fQ, fL, fA, fR, cU, eS, eH, dK, bN, fS, fC, aM, dF, aX, bM, bP, aQ, cP, cG, eQ, aF, gS, aI, cK, aT, bV, fT, cI, cJ, aD, gA, fB, aP, aG, bQ, gQ, aK, fH, dT, dP, gG, dA, eU, dI, eF, fG, fF, cF, dC, gK, dO, cB, aS, bU, bT, fN, aE, aH, aN, aY, bF, cN, bK, aA, eY, aL, cL, fJ, fE, gF, bJ, eP, eN, bY, fW, fI, eJ, dH, cO, dB, bD, aZ, aO, fZ, aJ, dE, dQ, bG, cC, fK, dL, gC, fM, eZ, eT, dU, aR, cH, dG, fY, fX, fD, cZ, aW, dV, fU, cR, eX, fP, cD, bO, eD, bB, dX, dW, cM, eL, eK, bE, cY, bA, dR, dY, eE, bL, cS, cQ, dN, bS, cW, cV, fO, bZ, eI, eM, gE, dZ, dS, dM, dD, bH, bR, bX, bW, aU, cX, aV, n1]
  exact tail 2 (R9 (wrB (kQ wl))) _ w1 (by omega) x1 (by rw [hbl]; exact o1) (by omega)
def shV (a : Option Addr) (n c : Nat) (a' : Option Addr) (n' c' : Nat) : aDt := if n' < n then .slice a' n' c' else .slice a n c
theorem ayY {a a' : Option Addr} {n c n' c' : Nat} {w : aDs} {K : aDt -> aDs -> Prop} (hn : n <= 1000000000) (hn' : n' <= 1000000000) (hK : K (.int .i64 ((n : Int) - (n' : Int))) w) :
 jE pg xJ #[.slice a n c, .slice a' n' c'] w K := by
 refine PH ?_
 unfold Mv B6
 simp (disch := omega) only [gI, jD, dJ, stepR_skip, hJ, iC, iM, iP, iL, iO, jJ, iW, gM, iG, iI, iJ, iH, gY, iN, iA, iF, iX, iV, iK, gR, iR, iQ, iE, jW, jV, kH, kC, kG, kF, kI, kE, kD, gD, Result.ok.injEq, Next.value.injEq, true_and, and_true, gX, iB, iU, iT, iS, jI, aA9, gV, gU, gW, gT, gO, gJ, gP, gN, gB, fV, if_true, if_false, aA8, aBc, aBa, aBb, aBe, aBd, aA7, aA6, fQ, fL, fA, fR, cU, eS, eH, dK, bN, fS, fC, aM, dF, aX, bM, bP, aQ, cP, cG, eQ, aF, gS, aI, cK, aT, bV, fT, cI, cJ, aD, gA, fB, aP, aG, bQ, gQ, aK, fH, dT, dP, gG, dA, eU, dI, eF, fG, fF, cF, dC, gK, dO, cB, aS, bU, bT, fN, aE, aH, aN, aY, bF, cN, bK, aA, eY, aL, cL, fJ, fE, gF, bJ, eP, eN, bY, fW, fI, eJ, dH, cO, dB, bD, aZ, aO, fZ, aJ, dE, dQ, bG, cC, fK, dL, gC, fM, eZ, eT, dU, aR, cH, dG, fY, fX, fD, cZ, aW, dV, fU, cR, eX, fP, cD, bO, eD, bB, dX, dW, cM, eL, eK, bE, cY, bA, dR, dY, eE, bL, cS, cQ, dN, bS, cW, cV, fO, bZ, eI, eM, gE, dZ, dS, dM, dD, bH, bR, bX, bW, aU, cX, aV]
 exact hK
theorem aiK {a a' : Option Addr} {n c n' c' b : Nat} {w : aDs} (ho : lN w b [.slice a n c, .slice a' n' c']) (hn : n <= 1000000000) (hn' : n' <= 1000000000) :
 jE pg BV #[.slice (some ⟨b, 0, none⟩) 2 2] w (fun r w' => r = shV a n c a' n' c' /\ w' = w) := by
 refine Sg ?_
 unfold QR Ez
 refine Nt ?_
 obtain ⟨RR, hRR⟩ : ∃ RR : aDt -> aDs -> Prop, RR = fun r w' => r = shV a n c a' n' c' /\ w' = w := ⟨_, rfl⟩
 unfold Jo xO yC
 have d1 : decide ((2 : Int) < 1) = false := rfl
 have c0 : w.cell? ⟨b, 0, none⟩ = some (.slice a n c) := ho.cell (off := 0)
 have c1 : w.cell? ⟨b, 1, none⟩ = some (.slice a' n' c') := ho.cell (off := 1)
 have z0 : (0 : Int).toNat = 0 := rfl
 have z1 : (1 : Int).toNat = 1 := rfl
 have n2 : ((2 : Nat) : Int) = 2 := rfl
 unfold yP yB
 simp (disch := omega) only [gI, jD, dJ, stepR_skip, hJ, iC, iM, iP, iL, iO, jJ, iW, gM, iG, iI, iJ, iH, gY, iN, iA, iF, iX, iV, iK, gR, iR, iQ, iE, jW, jV, kH, kC, kG, kF, kI, kE, kD, gD, Result.ok.injEq, Next.value.injEq, true_and, and_true, gX, iB, iU, iT, iS, jI, aA9, gV, gU, gW, gT, gO, gJ, gP, gN, gB, fV, if_true, if_false, aA8, aBc, aBa, aBb, aBe, aBd, aA7, aA6, fQ, fL, fA, fR, cU, eS, eH, dK, bN, fS, fC, aM, dF, aX, bM, bP, aQ, cP, cG, eQ, aF, gS, aI, cK, aT, bV, fT, cI, cJ, aD, gA, fB, aP, aG, bQ, gQ, aK, fH, dT, dP, gG, dA, eU, dI, eF, fG, fF, cF, dC, gK, dO, cB, aS, bU, bT, fN, aE, aH, aN, aY, bF, cN, bK, aA, eY, aL, cL, fJ, fE, gF, bJ, eP, eN, bY, fW, fI, eJ, dH, cO, dB, bD, aZ, aO, fZ, aJ, dE, dQ, bG, cC, fK, dL, gC, fM, eZ, eT, dU, aR, cH, dG, fY, fX, fD, cZ, aW, dV, fU, cR, eX, fP, cD, bO, eD, bB, dX, dW, cM, eL, eK, bE, cY, bA, dR, dY, eE, bL, cS, cQ, dN, bS, cW, cV, fO, bZ, eI, eM, gE, dZ, dS, dM, dD, bH, bR, bX, bW, aU, cX, aV, d1, z0, z1, n2, c0, aCY, aB1]
 unfold zN Ao zK zH Aj
 refine kO.rule (fun m (t : aDt × aDt) w' => (m = 1 /\ t = (.slice a n c, .int .i64 1) /\ w' = w) ∨ (m = 0 /\ t = (shV a n c a' n' c', .int .i64 2) /\ w' = w)) 1 (.inl ⟨rfl, rfl, rfl⟩) ?_
 rintro m t w' (⟨rfl, rfl, rfl⟩ | ⟨rfl, rfl, rfl⟩)
 .unfold rI tT tV
  have d2 : decide ((1 : Int) < 2) = true := rfl
  have q2 := Zq (P := pg) (f := xJ) Tryz.func83 (by kernel_rfl) (by kernel_rfl) #[] [.slice a' n' c', .slice a n c] w'
  have q3 : (List.toArray [Value.slice a' n' c', .slice a n c] ++ #[]) = #[.slice a' n' c', .slice a n c] := rfl
  rw [q3] at q2
  have e1 : (1 : Int) + 1 = 2 := rfl
  simp (disch := omega) only [gI, jD, dJ, stepR_skip, hJ, iC, iM, iP, iL, iO, jJ, iW, gM, iG, iI, iJ, iH, gY, iN, iA, iF, iX, iV, iK, gR, iR, iQ, iE, jW, jV, kH, kC, kG, kF, kI, kE, kD, gD, Result.ok.injEq, Next.value.injEq, true_and, and_true, gX, iB, iU, iT, iS, jI, aA9, gV, gU, gW, gT, gO, gJ, gP, gN, gB, fV, if_true, if_false, aA8, aBc, aBa, aBb, aBe, aBd, aA7, aA6, fQ, fL, fA, fR, cU, eS, eH, dK, bN, fS, fC, aM, dF, aX, bM, bP, aQ, cP, cG, eQ, aF, gS, aI, cK, aT, bV, fT, cI, cJ, aD, gA, fB, aP, aG, bQ, gQ, aK, fH, dT, dP, gG, dA, eU, dI, eF, fG, fF, cF, dC, gK, dO, cB, aS, bU, bT, fN, aE, aH, aN, aY, bF, cN, bK, aA, eY, aL, cL, fJ, fE, gF, bJ, eP, eN, bY, fW, fI, eJ, dH, cO, dB, bD, aZ, aO, fZ, aJ, dE, dQ, bG, cC, fK, dL, gC, fM, eZ, eT, dU, aR, cH, dG, fY, fX, fD, cZ, aW, dV, fU, cR, eX, fP, cD, bO, eD, bB, dX, dW, cM, eL, eK, bE, cY, bA, dR, dY, eE, bL, cS, cQ, dN, bS, cW, cV, fO, bZ, eI, eM, gE, dZ, dS, dM, dD, bH, bR, bX, bW, aU, cX, aV, d2, z1, n2, c1, q2, IE, Nat.one_mul, aB9, aBc]
  refine ayY hn' hn ?_
  by_cases h : n' < n
  .have d3 : decide ((n' : Int) - (n : Int) < 0) = true := decide_eq_true (by omega)
   have : shV a n c a' n' c' = .slice a' n' c' := by unfold shV; rw [if_pos h]
   rw [this]
   simp (disch := omega) only [gI, jD, dJ, stepR_skip, hJ, iC, iM, iP, iL, iO, jJ, iW, gM, iG, iI, iJ, iH, gY, iN, iA, iF, iX, iV, iK, gR, iR, iQ, iE, jW, jV, kH, kC, kG, kF, kI, kE, kD, gD, Result.ok.injEq, Next.value.injEq, true_and, and_true, gX, iB, iU, iT, iS, jI, aA9, gV, gU, gW, gT, gO, gJ, gP, gN, gB, fV, if_true, if_false, aA8, aBc, aBa, aBb, aBe, aBd, aA7, aA6, fQ, fL, fA, fR, cU, eS, eH, dK, bN, fS, fC, aM, dF, aX, bM, bP, aQ, cP, cG, eQ, aF, gS, aI, cK, aT, bV, fT, cI, cJ, aD, gA, fB, aP, aG, bQ, gQ, aK, fH, dT, dP, gG, dA, eU, dI, eF, fG, fF, cF, dC, gK, dO, cB, aS, bU, bT, fN, aE, aH, aN, aY, bF, cN, bK, aA, eY, aL, cL, fJ, fE, gF, bJ, eP, eN, bY, fW, fI, eJ, dH, cO, dB, bD, aZ, aO, fZ, aJ, dE, dQ, bG, cC, fK, dL, gC, fM, eZ, eT, dU, aR, cH, dG, fY, fX, fD, cZ, aW, dV, fU, cR, eX, fP, cD, bO, eD, bB, dX, dW, cM, eL, eK, bE, cY, bA, dR, dY, eE, bL, cS, cQ, dN, bS, cW, cV, fO, bZ, eI, eM, gE, dZ, dS, dM, dD, bH, bR, bX, bW, aU, cX, aV, d3, z1, n2, c1, e1, Nat.one_mul, aB9, aBc]
   first
    | exact ⟨0, by omega, .inr ⟨rfl, rfl, rfl⟩⟩
    | exact ⟨0, by omega, .inr ⟨rfl, rfl⟩⟩
    | exact ⟨0, by omega, .inr rfl⟩
  .have d3 : decide ((n' : Int) - (n : Int) < 0) = false := decide_eq_false (by omega)
   have : shV a n c a' n' c' = .slice a n c := by unfold shV; rw [if_neg h]
   rw [this]
   simp (disch := omega) only [gI, jD, dJ, stepR_skip, hJ, iC, iM, iP, iL, iO, jJ, iW, gM, iG, iI, iJ, iH, gY, iN, iA, iF, iX, iV, iK, gR, iR, iQ, iE, jW, jV, kH, kC, kG, kF, kI, kE, kD, gD, Result.ok.injEq, Next.value.injEq, true_and, and_true, gX, iB, iU, iT, iS, jI, aA9, gV, gU, gW, gT, gO, gJ, gP, gN, gB, fV, if_true, if_false, aA8, aBc, aBa, aBb, aBe, aBd, aA7, aA6, fQ, fL, fA, fR, cU, eS, eH, dK, bN, fS, fC, aM, dF, aX, bM, bP, aQ, cP, cG, eQ, aF, gS, aI, cK, aT, bV, fT, cI, cJ, aD, gA, fB, aP, aG, bQ, gQ, aK, fH, dT, dP, gG, dA, eU, dI, eF, fG, fF, cF, dC, gK, dO, cB, aS, bU, bT, fN, aE, aH, aN, aY, bF, cN, bK, aA, eY, aL, cL, fJ, fE, gF, bJ, eP, eN, bY, fW, fI, eJ, dH, cO, dB, bD, aZ, aO, fZ, aJ, dE, dQ, bG, cC, fK, dL, gC, fM, eZ, eT, dU, aR, cH, dG, fY, fX, fD, cZ, aW, dV, fU, cR, eX, fP, cD, bO, eD, bB, dX, dW, cM, eL, eK, bE, cY, bA, dR, dY, eE, bL, cS, cQ, dN, bS, cW, cV, fO, bZ, eI, eM, gE, dZ, dS, dM, dD, bH, bR, bX, bW, aU, cX, aV, d3, e1]
   first
    | exact ⟨0, by omega, .inr ⟨rfl, rfl, rfl⟩⟩
    | exact ⟨0, by omega, .inr ⟨rfl, rfl⟩⟩
    | exact ⟨0, by omega, .inr rfl⟩
 .unfold rI tT tU
  have d2 : decide ((2 : Int) < 2) = false := rfl
  simp (disch := omega) only [gI, jD, dJ, stepR_skip, hJ, iC, iM, iP, iL, iO, jJ, iW, gM, iG, iI, iJ, iH, gY, iN, iA, iF, iX, iV, iK, gR, iR, iQ, iE, jW, jV, kH, kC, kG, kF, kI, kE, kD, gD, Result.ok.injEq, Next.value.injEq, true_and, and_true, gX, iB, iU, iT, iS, jI, aA9, gV, gU, gW, gT, gO, gJ, gP, gN, gB, fV, if_true, if_false, aA8, aBc, aBa, aBb, aBe, aBd, aA7, aA6, fQ, fL, fA, fR, cU, eS, eH, dK, bN, fS, fC, aM, dF, aX, bM, bP, aQ, cP, cG, eQ, aF, gS, aI, cK, aT, bV, fT, cI, cJ, aD, gA, fB, aP, aG, bQ, gQ, aK, fH, dT, dP, gG, dA, eU, dI, eF, fG, fF, cF, dC, gK, dO, cB, aS, bU, bT, fN, aE, aH, aN, aY, bF, cN, bK, aA, eY, aL, cL, fJ, fE, gF, bJ, eP, eN, bY, fW, fI, eJ, dH, cO, dB, bD, aZ, aO, fZ, aJ, dE, dQ, bG, cC, fK, dL, gC, fM, eZ, eT, dU, aR, cH, dG, fY, fX, fD, cZ, aW, dV, fU, cR, eX, fP, cD, bO, eD, bB, dX, dW, cM, eL, eK, bE, cY, bA, dR, dY, eE, bL, cS, cQ, dN, bS, cW, cV, fO, bZ, eI, eM, gE, dZ, dS, dM, dD, bH, bR, bX, bW, aU, cX, aV, d2, n2]
theorem arZ {p : Nat} {a a' : Option Addr} {n c n' c' : Nat} {w : aDs} (o : lN w p [.slice a n c]) (hn : n <= 1000000000) (hn' : n' <= 1000000000) :
 jE pg qQ #[.slice a' n' c', .int .i64 0, .pointer (some ⟨p, 0, none⟩)] w (fun r w' => r = .tuple #[] /\ lN w' p [shV a n c a' n' c'] /\ jN w w' (fun y => y = p)) := by
 refine G3 ?_
 unfold Hk xE
 have c0 : w.cell? ⟨p, 0, none⟩ = some (.slice a n c) := o.cell (off := 0)
 have n1 : ((0 : Int) == 0) = true := rfl
 simp (disch := omega) only [gI, jD, dJ, stepR_skip, hJ, iC, iM, iP, iL, iO, jJ, iW, gM, iG, iI, iJ, iH, gY, iN, iA, iF, iX, iV, iK, gR, iR, iQ, iE, jW, jV, kH, kC, kG, kF, kI, kE, kD, gD, Result.ok.injEq, Next.value.injEq, true_and, and_true, gX, iB, iU, iT, iS, jI, aA9, gV, gU, gW, gT, gO, gJ, gP, gN, gB, fV, if_true, if_false, aA8, aBc, aBa, aBb, aBe, aBd, aA7, aA6, fQ, fL, fA, fR, cU, eS, eH, dK, bN, fS, fC, aM, dF, aX, bM, bP, aQ, cP, cG, eQ, aF, gS, aI, cK, aT, bV, fT, cI, cJ, aD, gA, fB, aP, aG, bQ, gQ, aK, fH, dT, dP, gG, dA, eU, dI, eF, fG, fF, cF, dC, gK, dO, cB, aS, bU, bT, fN, aE, aH, aN, aY, bF, cN, bK, aA, eY, aL, cL, fJ, fE, gF, bJ, eP, eN, bY, fW, fI, eJ, dH, cO, dB, bD, aZ, aO, fZ, aJ, dE, dQ, bG, cC, fK, dL, gC, fM, eZ, eT, dU, aR, cH, dG, fY, fX, fD, cZ, aW, dV, fU, cR, eX, fP, cD, bO, eD, bB, dX, dW, cM, eL, eK, bE, cY, bA, dR, dY, eE, bL, cS, cQ, dN, bS, cW, cV, fO, bZ, eI, eM, gE, dZ, dS, dM, dD, bH, bR, bX, bW, aU, cX, aV, c0, n1]
 refine Tq (cells := #[.slice a n c, .slice a' n' c']) (by decide) (by decide) (by kernel_rfl) fun w1 o1 x1 s1 => ?_
 refine (aiK o1 hn hn').mono ?_
 rintro r w2 ⟨rfl, hw⟩
 rw [hw]; clear hw w2
 refine sW (o.ext x1 (fun h => h)) (by unfold shV; split <;> rfl) (by simp) fun w3 o3 x3 s3 => ?_
 simp only [aBj] at o3
 have x13 : jN w w3 (fun y => y = p) := (x1.mono fun _ _ h => h.elim).seq x3
 try simp (disch := omega) only [gI, jD, dJ, stepR_skip, hJ, iC, iM, iP, iL, iO, jJ, iW, gM, iG, iI, iJ, iH, gY, iN, iA, iF, iX, iV, iK, gR, iR, iQ, iE, jW, jV, kH, kC, kG, kF, kI, kE, kD, gD, Result.ok.injEq, Next.value.injEq, true_and, and_true, gX, iB, iU, iT, iS, jI, aA9, gV, gU, gW, gT, gO, gJ, gP, gN, gB, fV, if_true, if_false, aA8, aBc, aBa, aBb, aBe, aBd, aA7, aA6, fQ, fL, fA, fR, cU, eS, eH, dK, bN, fS, fC, aM, dF, aX, bM, bP, aQ, cP, cG, eQ, aF, gS, aI, cK, aT, bV, fT, cI, cJ, aD, gA, fB, aP, aG, bQ, gQ, aK, fH, dT, dP, gG, dA, eU, dI, eF, fG, fF, cF, dC, gK, dO, cB, aS, bU, bT, fN, aE, aH, aN, aY, bF, cN, bK, aA, eY, aL, cL, fJ, fE, gF, bJ, eP, eN, bY, fW, fI, eJ, dH, cO, dB, bD, aZ, aO, fZ, aJ, dE, dQ, bG, cC, fK, dL, gC, fM, eZ, eT, dU, aR, cH, dG, fY, fX, fD, cZ, aW, dV, fU, cR, eX, fP, cD, bO, eD, bB, dX, dW, cM, eL, eK, bE, cY, bA, dR, dY, eE, bL, cS, cQ, dN, bS, cW, cV, fO, bZ, eI, eM, gE, dZ, dS, dM, dD, bH, bR, bX, bW, aU, cX, aV]
 first
  | exact ⟨rfl, o3, x13⟩
  | exact ⟨o3, x13⟩
theorem aoW {p : Nat} {bv : aDt} {e : Int} {w : aDs} (he : e ≠ 0) : jE pg qQ #[bv, .int .i64 e, .pointer (some ⟨p, 0, none⟩)] w (fun r w' => r = .tuple #[] /\ w' = w) := by
 refine G3 ?_
 unfold Hk xE
 have n1 : (e == 0) = false := beq_eq_false_iff_ne.2 he
 simp (disch := omega) only [gI, jD, dJ, stepR_skip, hJ, iC, iM, iP, iL, iO, jJ, iW, gM, iG, iI, iJ, iH, gY, iN, iA, iF, iX, iV, iK, gR, iR, iQ, iE, jW, jV, kH, kC, kG, kF, kI, kE, kD, gD, Result.ok.injEq, Next.value.injEq, true_and, and_true, gX, iB, iU, iT, iS, jI, aA9, gV, gU, gW, gT, gO, gJ, gP, gN, gB, fV, if_true, if_false, aA8, aBc, aBa, aBb, aBe, aBd, aA7, aA6, fQ, fL, fA, fR, cU, eS, eH, dK, bN, fS, fC, aM, dF, aX, bM, bP, aQ, cP, cG, eQ, aF, gS, aI, cK, aT, bV, fT, cI, cJ, aD, gA, fB, aP, aG, bQ, gQ, aK, fH, dT, dP, gG, dA, eU, dI, eF, fG, fF, cF, dC, gK, dO, cB, aS, bU, bT, fN, aE, aH, aN, aY, bF, cN, bK, aA, eY, aL, cL, fJ, fE, gF, bJ, eP, eN, bY, fW, fI, eJ, dH, cO, dB, bD, aZ, aO, fZ, aJ, dE, dQ, bG, cC, fK, dL, gC, fM, eZ, eT, dU, aR, cH, dG, fY, fX, fD, cZ, aW, dV, fU, cR, eX, fP, cD, bO, eD, bB, dX, dW, cM, eL, eK, bE, cY, bA, dR, dY, eE, bL, cS, cQ, dN, bS, cW, cV, fO, bZ, eI, eM, gE, dZ, dS, dM, dD, bH, bR, bX, bW, aU, cX, aV, n1]
theorem ajE (k n : Nat) : 1 <= (wL k n).length := by
 unfold wL; split
 .simp [kZ]
 .split <;> simp [kZ]
def azD (w : aDs) (base n : Nat) (r : aDt) : Prop := ∃ (x : aDt) (bytes : List UInt8), r = .tuple #[x, .int .i64 0] /\ yW w base 1 x bytes.length (bytes.map nR) /\ 1 <= bytes.length /\ bytes.length <= n + 3
theorem aoN {v : aDt} {l : List UInt8} {w : aDs} (h : Bs w v l) (hl : l.length <= 131072) :
 jE pg Cs #[v] w (fun r w' => azD w' w.heap.size l.length r /\ jN w w' mC) := by
 refine TH ?_
 obtain ⟨RR, hRR⟩ : ∃ RR : aDt -> aDs -> Prop, RR = fun r w' => azD w' w.heap.size l.length r /\ jN w w' mC := ⟨_, rfl⟩
 rw [<- hRR]
 unfold SP Eu EX
 refine (arV h hl).mono ?_
 rintro r w1 ⟨x, rfl, o1, x1⟩
 have z1 := x1.size
 have hp := Qd 0 l.length
 have hp1 := ajE 0 l.length
 obtain ⟨rw_, hrw⟩ : ∃ rw_, rw_ = wL 0 l.length ++ l := ⟨_, rfl⟩
 have hrl : rw_.length <= l.length + 3 := by rw [hrw, aBg]; omega
 have hr1 : 1 <= rw_.length := by rw [hrw, aBg]; omega
 rw [<- hrw] at o1
 clear hp hp1 hrw
 obtain ⟨ra, rc, rfl⟩ := o1.len
 obtain ⟨p, hpp⟩ : ∃ p, p = w1.heap.size := ⟨_, rfl⟩
 have os1 := yW.ne (p := p) o1 (by omega)
 have n0 : ((0 : Int) != 0) = false := rfl
 have q1 := fun w => aiA (P := pg) (f := qQ) [] [.pointer (some ⟨p, 0, none⟩)] w
 have q2 := fun (x y : aDt) w => Zq (P := pg) (f := qQ) Tryz.func64 (by kernel_rfl) (by kernel_rfl) #[.pointer (some ⟨p, 0, none⟩)] [x, y] w
 have q3 : ∀ x y : aDt, (List.toArray [x, y] ++ #[.pointer (some ⟨p, 0, none⟩)]) = #[x, y, .pointer (some ⟨p, 0, none⟩)] := fun _ _ => rfl
 simp only [q3] at q2
 let S : Nat -> Prop := fun b => w.heap.size <= b /\ b ≠ p
 let St : aDs -> Prop := fun W => ∃ (a : Option Addr) (c : Nat) (bs : List UInt8), lN W p [.slice a bs.length c] /\ GM W S 1 (.slice a bs.length c) bs.length (bs.map nR) /\ 1 <= bs.length /\ bs.length <= l.length + 3 /\ jN w W mC
 have fin : ∀ W, St W -> tB RR (.pointer (some ⟨p, 0, none⟩)) W := by
  rintro W ⟨a, c, bs, o, os, hb1, hb2, x⟩
  unfold tB
  have c0 : W.cell? ⟨p, 0, none⟩ = some (.slice a bs.length c) := o.cell (off := 0)
  simp (disch := omega) only [gI, jD, dJ, stepR_skip, hJ, iC, iM, iP, iL, iO, jJ, iW, gM, iG, iI, iJ, iH, gY, iN, iA, iF, iX, iV, iK, gR, iR, iQ, iE, jW, jV, kH, kC, kG, kF, kI, kE, kD, gD, Result.ok.injEq, Next.value.injEq, true_and, and_true, gX, iB, iU, iT, iS, jI, aA9, gV, gU, gW, gT, gO, gJ, gP, gN, gB, fV, if_true, if_false, aA8, aBc, aBa, aBb, aBe, aBd, aA7, aA6, fQ, fL, fA, fR, cU, eS, eH, dK, bN, fS, fC, aM, dF, aX, bM, bP, aQ, cP, cG, eQ, aF, gS, aI, cK, aT, bV, fT, cI, cJ, aD, gA, fB, aP, aG, bQ, gQ, aK, fH, dT, dP, gG, dA, eU, dI, eF, fG, fF, cF, dC, gK, dO, cB, aS, bU, bT, fN, aE, aH, aN, aY, bF, cN, bK, aA, eY, aL, cL, fJ, fE, gF, bJ, eP, eN, bY, fW, fI, eJ, dH, cO, dB, bD, aZ, aO, fZ, aJ, dE, dQ, bG, cC, fK, dL, gC, fM, eZ, eT, dU, aR, cH, dG, fY, fX, fD, cZ, aW, dV, fU, cR, eX, fP, cD, bO, eD, bB, dX, dW, cM, eL, eK, bE, cY, bA, dR, dY, eE, bL, cS, cQ, dN, bS, cW, cV, fO, bZ, eI, eM, gE, dZ, dS, dM, dD, bH, bR, bX, bW, aU, cX, aV, c0]
  rw [hRR]
  refine ⟨⟨_, bs, rfl, ⟨os.1, ?_⟩, hb1, hb2⟩, x⟩
  rcases os.2 with h | ⟨b, c', rest, h1, h2, h3⟩
  .exact .inl h
  .exact .inr ⟨b, c', rest, h1, h2.1, h3⟩
 have bet : ∀ (W : aDs) (a' : Option Addr) (c' : Nat) (bs' : List UInt8) (K : aDt -> aDs -> Prop), St W -> GM W S 1 (.slice a' bs'.length c') bs'.length (bs'.map nR) -> 1 <= bs'.length -> bs'.length <= 1000000 -> (∀ r W', St W' -> K r W') →
     jE pg qQ #[.slice a' bs'.length c', .int .i64 0, .pointer (some ⟨p, 0, none⟩)] W K := by
  rintro W a' c' bs' K ⟨a, c, bs, o, os, hb1, hb2, x⟩ os' hb1' hb2' hK
  refine (arZ o (by omega) (by omega)).mono ?_
  rintro r W' ⟨rfl, o2, x2⟩
  refine hK _ _ ?_
  have xx : jN w W' mC := x.trans x2 fun y hy hh => by omega
  unfold shV at o2
  split at o2
  .exact ⟨a', c', bs', o2, os'.ext x2 (fun b hb hh => hb.2 hh), hb1', by omega, xx⟩
  .exact ⟨a, c, bs, o2, os.ext x2 (fun b hb hh => hb.2 hh), hb1, hb2, xx⟩
 have hv := h
 obtain ⟨va, vc, rfl, hvc⟩ := h.len
 rw [aBf] at hv hvc ⊢
 simp (disch := omega) only [gI, jD, dJ, stepR_skip, hJ, iC, iM, iP, iL, iO, jJ, iW, gM, iG, iI, iJ, iH, gY, iN, iA, iF, iX, iV, iK, gR, iR, iQ, iE, jW, jV, kH, kC, kG, kF, kI, kE, kD, gD, Result.ok.injEq, Next.value.injEq, true_and, and_true, gX, iB, iU, iT, iS, jI, aA9, gV, gU, gW, gT, gO, gJ, gP, gN, gB, fV, if_true, if_false, aA8, aBc, aBa, aBb, aBe, aBd, aA7, aA6, fQ, fL, fA, fR, cU, eS, eH, dK, bN, fS, fC, aM, dF, aX, bM, bP, aQ, cP, cG, eQ, aF, gS, aI, cK, aT, bV, fT, cI, cJ, aD, gA, fB, aP, aG, bQ, gQ, aK, fH, dT, dP, gG, dA, eU, dI, eF, fG, fF, cF, dC, gK, dO, cB, aS, bU, bT, fN, aE, aH, aN, aY, bF, cN, bK, aA, eY, aL, cL, fJ, fE, gF, bJ, eP, eN, bY, fW, fI, eJ, dH, cO, dB, bD, aZ, aO, fZ, aJ, dE, dQ, bG, cC, fK, dL, gC, fM, eZ, eT, dU, aR, cH, dG, fY, fX, fD, cZ, aW, dV, fU, cR, eX, fP, cD, bO, eD, bB, dX, dW, cM, eL, eK, bE, cY, bA, dR, dY, eE, bL, cS, cQ, dN, bS, cW, cV, fO, bZ, eI, eM, gE, dZ, dS, dM, dD, bH, bR, bX, bW, aU, cX, aV, n0]
 refine YO fun w2 o2 x2 s2 => ?_
 rw [<- hpp] at o2 ⊢
 refine sW o2 rfl (by simp) fun w3 o3 x3 s3 => ?_
 simp only [aBj] at o3
 have x13 : jN w1 w3 mC := x2.trans x3 fun y hy h => by omega
 have x03 := x1.seq x13
 have h3 := hv.ext x03 (kL _)
 have z3 := x03.size
 have os3 : GM w3 S 1 (.slice ra rw_.length rc) rw_.length (rw_.map nR) := (os1.ext x2 (fun _ _ h => h)).ext x3 (fun b hb hh => hb.2 hh)
 have st3 : St w3 := ⟨ra, rc, rw_, o3, os3, hr1, hrl, x03⟩
 have lt3 : p < w3.heap.size := o3.lt
 simp (disch := omega) only [gI, jD, dJ, stepR_skip, hJ, iC, iM, iP, iL, iO, jJ, iW, gM, iG, iI, iJ, iH, gY, iN, iA, iF, iX, iV, iK, gR, iR, iQ, iE, jW, jV, kH, kC, kG, kF, kI, kE, kD, gD, Result.ok.injEq, Next.value.injEq, true_and, and_true, gX, iB, iU, iT, iS, jI, aA9, gV, gU, gW, gT, gO, gJ, gP, gN, gB, fV, if_true, if_false, aA8, aBc, aBa, aBb, aBe, aBd, aA7, aA6, fQ, fL, fA, fR, cU, eS, eH, dK, bN, fS, fC, aM, dF, aX, bM, bP, aQ, cP, cG, eQ, aF, gS, aI, cK, aT, bV, fT, cI, cJ, aD, gA, fB, aP, aG, bQ, gQ, aK, fH, dT, dP, gG, dA, eU, dI, eF, fG, fF, cF, dC, gK, dO, cB, aS, bU, bT, fN, aE, aH, aN, aY, bF, cN, bK, aA, eY, aL, cL, fJ, fE, gF, bJ, eP, eN, bY, fW, fI, eJ, dH, cO, dB, bD, aZ, aO, fZ, aJ, dE, dQ, bG, cC, fK, dL, gC, fM, eZ, eT, dU, aR, cH, dG, fY, fX, fD, cZ, aW, dV, fU, cR, eX, fP, cD, bO, eD, bB, dX, dW, cM, eL, eK, bE, cY, bA, dR, dY, eE, bL, cS, cQ, dN, bS, cW, cV, fO, bZ, eI, eM, gE, dZ, dS, dM, dD, bH, bR, bX, bW, aU, cX, aV, n0, q1]
 refine (akO h3 (by omega)).mono ?_
 rintro r w4 ⟨rfl, x4⟩
 have x04 := x03.seq x4
 have st4 : ∀ {W}, jN w3 W mC -> St W := fun {W} x => ⟨ra, rc, rw_, o3.ext x (fun h => h), os3.ext x (fun _ _ h => h), hr1, hrl, x03.seq x⟩
 have h4 := hv.ext x04 (kL _)
 have z4 := x4.size
 have hosl : ∀ {W W' : aDs} {x : aDt} {bs : List UInt8}, jN w W mC -> p < W.heap.size -> yW W' W.heap.size 1 x bs.length (bs.map nR) -> GM W' S 1 x bs.length (bs.map nR) := fun {W W' x bs} xx hlt ho => by
  refine ⟨ho.1, ?_⟩
  rcases ho.2 with h | ⟨b, c', rest, h1, h2, h3⟩
  .exact .inl h
  .exact .inr ⟨b, c', rest, h1, ⟨by have := xx.size; omega, by omega⟩, h3⟩
 cases hal : Ev l with
 | true =>
   have h0 : 0 < l.length := by
    cases l with
    | nil => cases hal
    | cons c r => simp
   obtain ⟨kb, koff, hka, hcell⟩ : ∃ kb koff, va = some ⟨kb, koff, none⟩ /\ w4.cell? ⟨kb, koff, none⟩ = some (nR l[0]) := by
    obtain ⟨a', n', c', he, hn', hc', hh⟩ := h4
    simp only [Value.slice.injEq] at he
    obtain ⟨rfl, rfl, rfl⟩ := he
    obtain ⟨kb, koff, rfl, h2⟩ := hh (by omega)
    refine ⟨kb, koff, rfl, ?_⟩
    have := h2 0 (by omega)
    rw [aB1] at this
    rw [this, aBz, aBh h0]
    rfl
   subst hka
   have z0 : (0 : Int).toNat = 0 := rfl
   simp (disch := omega) only [gI, jD, dJ, stepR_skip, hJ, iC, iM, iP, iL, iO, jJ, iW, gM, iG, iI, iJ, iH, gY, iN, iA, iF, iX, iV, iK, gR, iR, iQ, iE, jW, jV, kH, kC, kG, kF, kI, kE, kD, gD, Result.ok.injEq, Next.value.injEq, true_and, and_true, gX, iB, iU, iT, iS, jI, aA9, gV, gU, gW, gT, gO, gJ, gP, gN, gB, fV, if_true, if_false, aA8, aBc, aBa, aBb, aBe, aBd, aA7, aA6, fQ, fL, fA, fR, cU, eS, eH, dK, bN, fS, fC, aM, dF, aX, bM, bP, aQ, cP, cG, eQ, aF, gS, aI, cK, aT, bV, fT, cI, cJ, aD, gA, fB, aP, aG, bQ, gQ, aK, fH, dT, dP, gG, dA, eU, dI, eF, fG, fF, cF, dC, gK, dO, cB, aS, bU, bT, fN, aE, aH, aN, aY, bF, cN, bK, aA, eY, aL, cL, fJ, fE, gF, bJ, eP, eN, bY, fW, fI, eJ, dH, cO, dB, bD, aZ, aO, fZ, aJ, dE, dQ, bG, cC, fK, dL, gC, fM, eZ, eT, dU, aR, cH, dG, fY, fX, fD, cZ, aW, dV, fU, cR, eX, fP, cD, bO, eD, bB, dX, dW, cM, eL, eK, bE, cY, bA, dR, dY, eE, bL, cS, cQ, dN, bS, cW, cV, fO, bZ, eI, eM, gE, dZ, dS, dM, dD, bH, bR, bX, bW, aU, cX, aV, hcell, z0, aB1]
   refine (aoG (n := l.length) hl).mono ?_
   rintro r w5 ⟨x, rfl, o5, x5⟩
   have hp2 := Qd 1 l.length
   have os5 := hosl x04 (by omega) o5
   obtain ⟨a5, c5, rfl⟩ := o5.len
   simp (disch := omega) only [gI, jD, dJ, stepR_skip, hJ, iC, iM, iP, iL, iO, jJ, iW, gM, iG, iI, iJ, iH, gY, iN, iA, iF, iX, iV, iK, gR, iR, iQ, iE, jW, jV, kH, kC, kG, kF, kI, kE, kD, gD, Result.ok.injEq, Next.value.injEq, true_and, and_true, gX, iB, iU, iT, iS, jI, aA9, gV, gU, gW, gT, gO, gJ, gP, gN, gB, fV, if_true, if_false, aA8, aBc, aBa, aBb, aBe, aBd, aA7, aA6, fQ, fL, fA, fR, cU, eS, eH, dK, bN, fS, fC, aM, dF, aX, bM, bP, aQ, cP, cG, eQ, aF, gS, aI, cK, aT, bV, fT, cI, cJ, aD, gA, fB, aP, aG, bQ, gQ, aK, fH, dT, dP, gG, dA, eU, dI, eF, fG, fF, cF, dC, gK, dO, cB, aS, bU, bT, fN, aE, aH, aN, aY, bF, cN, bK, aA, eY, aL, cL, fJ, fE, gF, bJ, eP, eN, bY, fW, fI, eJ, dH, cO, dB, bD, aZ, aO, fZ, aJ, dE, dQ, bG, cC, fK, dL, gC, fM, eZ, eT, dU, aR, cH, dG, fY, fX, fD, cZ, aW, dV, fU, cR, eX, fP, cD, bO, eD, bB, dX, dW, cM, eL, eK, bE, cY, bA, dR, dY, eE, bL, cS, cQ, dN, bS, cW, cV, fO, bZ, eI, eM, gE, dZ, dS, dM, dD, bH, bR, bX, bW, aU, cX, aV, q2, IE]
   refine bet w5 a5 c5 _ _ (st4 (x4.seq x5)) os5 (by rw [aBg]; simp) (by rw [aBg]; simp; omega) fun r W hW => ?_
   have hf := fin W hW
   obtain ⟨a, c, bs, o, -⟩ := hW
   have c0 : W.cell? ⟨p, 0, none⟩ = some (.slice a bs.length c) := o.cell (off := 0)
   have hf : gI pg (jF 22 (.pointer (some ⟨p, 0, none⟩))) W fun t w => RR (.tuple #[t, .int .i64 0]) w := by
    unfold tB at hf
    first | exact hf | skip
   simp only [gI, fS, c0, gD, dJ] at hf
   simp (disch := omega) only [gI, jD, dJ, stepR_skip, hJ, iC, iM, iP, iL, iO, jJ, iW, gM, iG, iI, iJ, iH, gY, iN, iA, iF, iX, iV, iK, gR, iR, iQ, iE, jW, jV, kH, kC, kG, kF, kI, kE, kD, gD, Result.ok.injEq, Next.value.injEq, true_and, and_true, gX, iB, iU, iT, iS, jI, aA9, gV, gU, gW, gT, gO, gJ, gP, gN, gB, fV, if_true, if_false, aA8, aBc, aBa, aBb, aBe, aBd, aA7, aA6, fQ, fL, fA, fR, cU, eS, eH, dK, bN, fS, fC, aM, dF, aX, bM, bP, aQ, cP, cG, eQ, aF, gS, aI, cK, aT, bV, fT, cI, cJ, aD, gA, fB, aP, aG, bQ, gQ, aK, fH, dT, dP, gG, dA, eU, dI, eF, fG, fF, cF, dC, gK, dO, cB, aS, bU, bT, fN, aE, aH, aN, aY, bF, cN, bK, aA, eY, aL, cL, fJ, fE, gF, bJ, eP, eN, bY, fW, fI, eJ, dH, cO, dB, bD, aZ, aO, fZ, aJ, dE, dQ, bG, cC, fK, dL, gC, fM, eZ, eT, dU, aR, cH, dG, fY, fX, fD, cZ, aW, dV, fU, cR, eX, fP, cD, bO, eD, bB, dX, dW, cM, eL, eK, bE, cY, bA, dR, dY, eE, bL, cS, cQ, dN, bS, cW, cV, fO, bZ, eI, eM, gE, dZ, dS, dM, dD, bH, bR, bX, bW, aU, cX, aV, c0]
   exact hf
 | false =>
   simp (disch := omega) only [gI, jD, dJ, stepR_skip, hJ, iC, iM, iP, iL, iO, jJ, iW, gM, iG, iI, iJ, iH, gY, iN, iA, iF, iX, iV, iK, gR, iR, iQ, iE, jW, jV, kH, kC, kG, kF, kI, kE, kD, gD, Result.ok.injEq, Next.value.injEq, true_and, and_true, gX, iB, iU, iT, iS, jI, aA9, gV, gU, gW, gT, gO, gJ, gP, gN, gB, fV, if_true, if_false, aA8, aBc, aBa, aBb, aBe, aBd, aA7, aA6, fQ, fL, fA, fR, cU, eS, eH, dK, bN, fS, fC, aM, dF, aX, bM, bP, aQ, cP, cG, eQ, aF, gS, aI, cK, aT, bV, fT, cI, cJ, aD, gA, fB, aP, aG, bQ, gQ, aK, fH, dT, dP, gG, dA, eU, dI, eF, fG, fF, cF, dC, gK, dO, cB, aS, bU, bT, fN, aE, aH, aN, aY, bF, cN, bK, aA, eY, aL, cL, fJ, fE, gF, bJ, eP, eN, bY, fW, fI, eJ, dH, cO, dB, bD, aZ, aO, fZ, aJ, dE, dQ, bG, cC, fK, dL, gC, fM, eZ, eT, dU, aR, cH, dG, fY, fX, fD, cZ, aW, dV, fU, cR, eX, fP, cD, bO, eD, bB, dX, dW, cM, eL, eK, bE, cY, bA, dR, dY, eE, bL, cS, cQ, dN, bS, cW, cV, fO, bZ, eI, eM, gE, dZ, dS, dM, dD, bH, bR, bX, bW, aU, cX, aV]
   refine adT (by omega) (by omega) fun w5 o5 x5 s5 => ?_
   obtain ⟨q, hq⟩ : ∃ q, q = w4.heap.size := ⟨_, rfl⟩
   have t256 : (256 : Int).toNat = 256 := rfl
   rw [<- hq, t256] at o5
   rw [<- hq, t256]
   unfold Gb F5 FU FQ Fv
   simp (disch := omega) only [gI, jD, dJ, stepR_skip, hJ, iC, iM, iP, iL, iO, jJ, iW, gM, iG, iI, iJ, iH, gY, iN, iA, iF, iX, iV, iK, gR, iR, iQ, iE, jW, jV, kH, kC, kG, kF, kI, kE, kD, gD, Result.ok.injEq, Next.value.injEq, true_and, and_true, gX, iB, iU, iT, iS, jI, aA9, gV, gU, gW, gT, gO, gJ, gP, gN, gB, fV, if_true, if_false, aA8, aBc, aBa, aBb, aBe, aBd, aA7, aA6, fQ, fL, fA, fR, cU, eS, eH, dK, bN, fS, fC, aM, dF, aX, bM, bP, aQ, cP, cG, eQ, aF, gS, aI, cK, aT, bV, fT, cI, cJ, aD, gA, fB, aP, aG, bQ, gQ, aK, fH, dT, dP, gG, dA, eU, dI, eF, fG, fF, cF, dC, gK, dO, cB, aS, bU, bT, fN, aE, aH, aN, aY, bF, cN, bK, aA, eY, aL, cL, fJ, fE, gF, bJ, eP, eN, bY, fW, fI, eJ, dH, cO, dB, bD, aZ, aO, fZ, aJ, dE, dQ, bG, cC, fK, dL, gC, fM, eZ, eT, dU, aR, cH, dG, fY, fX, fD, cZ, aW, dV, fU, cR, eX, fP, cD, bO, eD, bB, dX, dW, cM, eL, eK, bE, cY, bA, dR, dY, eE, bL, cS, cQ, dN, bS, cW, cV, fO, bZ, eI, eM, gE, dZ, dS, dM, dD, bH, bR, bX, bW, aU, cX, aV]
   have x45 := x4.seq x5
   have hqp : q ≠ p := by omega
   refine kO.rule (fun m (t : aDt) W => ∃ (i : Nat) (ns : List Nat), m = l.length - i /\ i <= l.length /\ t = .int .i64 (i : Nat) /\ lN W q (SB ns) /\ ns.length = 256 /\ (∀ n ∈ ns, n <= i) /\ jN w5 W (fun y => y = q)) l.length
    ⟨0, List.replicate 256 0, rfl, by omega, rfl, by simpa using o5, by simp, fun n hn => by rw [aDb hn]; omega, jN.refl _ _⟩ ?_
   rintro m t w6 ⟨i, ns, rfl, hi, rfl, o6, hnl, hns, x6⟩
   have x36 : jN w3 w6 mC := x45.trans x6 fun y hy h => by omega
   have x06 := x03.seq x36
   unfold BQ
   by_cases hlt : i < l.length
   .have d1 : decide ((i : Int) < (l.length : Int)) = true := decide_eq_true (by omega)
    have hin : (i : Int).toNat = i := aA9 _
    have e1 : (i : Int) + 1 = ((i + 1 : Nat) : Int) := by omega
    obtain ⟨kb, koff, hka, hcell⟩ : ∃ kb koff, va = some ⟨kb, koff, none⟩ /\ w6.cell? ⟨kb, koff + i, none⟩ = some (.int .u8 (l[i].toNat : Nat)) := by
     obtain ⟨a', n', c', he, hn', hc', hh⟩ := hv.ext x06 (kL _)
     simp only [Value.slice.injEq] at he
     obtain ⟨rfl, rfl, rfl⟩ := he
     obtain ⟨kb, koff, rfl, h2⟩ := hh (by omega)
     refine ⟨kb, koff, rfl, ?_⟩
     rw [h2 i (by omega), aBz, aBh hlt]
     rfl
    subst hka
    have hc256 : l[i].toNat < 256 := aCg _
    obtain ⟨cc_, hcc⟩ : ∃ c, c = l[i].toNat := ⟨_, rfl⟩
    rw [<- hcc] at hcell hc256
    have hcn : (cc_ : Int).toNat = cc_ := aA9 _
    have d2 : ((cc_ : Nat) : Int) < ((256 : Nat) : Int) := by omega
    have hng : (SB ns)[cc_]? = some (.int .u32 (ns.getD cc_ 0 : Nat)) := Qi (by omega)
    have hc6 : w6.cell? ⟨q, 0 + cc_, none⟩ = some (.int .u32 (ns.getD cc_ 0 : Nat)) := by
     rw [aBc, o6.cell]; exact hng
    have hgd : ns.getD cc_ 0 <= i := by
     rw [aBi, aBh (by omega)]
     exact hns _ (aB5 _)
    rw [aBc] at hc6
    obtain ⟨G, hG⟩ : ∃ G, G = ns.getD cc_ 0 := ⟨_, rfl⟩
    rw [<- hG] at hc6 hgd
    have e2 : (G : Int) + 1 = ((G + 1 : Nat) : Int) := by omega
    simp (disch := omega) only [gI, jD, dJ, stepR_skip, hJ, iC, iM, iP, iL, iO, jJ, iW, gM, iG, iI, iJ, iH, gY, iN, iA, iF, iX, iV, iK, gR, iR, iQ, iE, jW, jV, kH, kC, kG, kF, kI, kE, kD, gD, Result.ok.injEq, Next.value.injEq, true_and, and_true, gX, iB, iU, iT, iS, jI, aA9, gV, gU, gW, gT, gO, gJ, gP, gN, gB, fV, if_true, if_false, aA8, aBc, aBa, aBb, aBe, aBd, aA7, aA6, fQ, fL, fA, fR, cU, eS, eH, dK, bN, fS, fC, aM, dF, aX, bM, bP, aQ, cP, cG, eQ, aF, gS, aI, cK, aT, bV, fT, cI, cJ, aD, gA, fB, aP, aG, bQ, gQ, aK, fH, dT, dP, gG, dA, eU, dI, eF, fG, fF, cF, dC, gK, dO, cB, aS, bU, bT, fN, aE, aH, aN, aY, bF, cN, bK, aA, eY, aL, cL, fJ, fE, gF, bJ, eP, eN, bY, fW, fI, eJ, dH, cO, dB, bD, aZ, aO, fZ, aJ, dE, dQ, bG, cC, fK, dL, gC, fM, eZ, eT, dU, aR, cH, dG, fY, fX, fD, cZ, aW, dV, fU, cR, eX, fP, cD, bO, eD, bB, dX, dW, cM, eL, eK, bE, cY, bA, dR, dY, eE, bL, cS, cQ, dN, bS, cW, cV, fO, bZ, eI, eM, gE, dZ, dS, dM, dD, bH, bR, bX, bW, aU, cX, aV, d1, hin, hcell, hcn, hc6, e2, aBc]
    refine amC o6 rfl (by simp [hnl]; omega) fun w7 o7 x7 s7 => ?_
    simp (disch := omega) only [gI, jD, dJ, stepR_skip, hJ, iC, iM, iP, iL, iO, jJ, iW, gM, iG, iI, iJ, iH, gY, iN, iA, iF, iX, iV, iK, gR, iR, iQ, iE, jW, jV, kH, kC, kG, kF, kI, kE, kD, gD, Result.ok.injEq, Next.value.injEq, true_and, and_true, gX, iB, iU, iT, iS, jI, aA9, gV, gU, gW, gT, gO, gJ, gP, gN, gB, fV, if_true, if_false, aA8, aBc, aBa, aBb, aBe, aBd, aA7, aA6, fQ, fL, fA, fR, cU, eS, eH, dK, bN, fS, fC, aM, dF, aX, bM, bP, aQ, cP, cG, eQ, aF, gS, aI, cK, aT, bV, fT, cI, cJ, aD, gA, fB, aP, aG, bQ, gQ, aK, fH, dT, dP, gG, dA, eU, dI, eF, fG, fF, cF, dC, gK, dO, cB, aS, bU, bT, fN, aE, aH, aN, aY, bF, cN, bK, aA, eY, aL, cL, fJ, fE, gF, bJ, eP, eN, bY, fW, fI, eJ, dH, cO, dB, bD, aZ, aO, fZ, aJ, dE, dQ, bG, cC, fK, dL, gC, fM, eZ, eT, dU, aR, cH, dG, fY, fX, fD, cZ, aW, dV, fU, cR, eX, fP, cD, bO, eD, bB, dX, dW, cM, eL, eK, bE, cY, bA, dR, dY, eE, bL, cS, cQ, dN, bS, cW, cV, fO, bZ, eI, eM, gE, dZ, dS, dM, dD, bH, bR, bX, bW, aU, cX, aV, e1]
    have o7 : lN w7 q (SB (ns.set cc_ (G + 1))) := by
     have e : SB (ns.set cc_ (G + 1)) = (SB ns).set cc_ (.int .u32 ((G + 1 : Nat) : Int)) := by
      unfold SB
      rw [aC0]
     rw [e]; exact o7
    refine ⟨l.length - (i + 1), by omega, i + 1, _, rfl, by omega, rfl, o7, by simp [hnl], fun n hn => ?_, x6.seq x7⟩
    rcases List.mem_or_eq_of_mem_set hn with h | h
    .have := hns n h; omega
    .omega
   .have d1 : decide ((i : Int) < (l.length : Int)) = false := decide_eq_false (by omega)
    unfold GG FI
    simp (disch := omega) only [gI, jD, dJ, stepR_skip, hJ, iC, iM, iP, iL, iO, jJ, iW, gM, iG, iI, iJ, iH, gY, iN, iA, iF, iX, iV, iK, gR, iR, iQ, iE, jW, jV, kH, kC, kG, kF, kI, kE, kD, gD, Result.ok.injEq, Next.value.injEq, true_and, and_true, gX, iB, iU, iT, iS, jI, aA9, gV, gU, gW, gT, gO, gJ, gP, gN, gB, fV, if_true, if_false, aA8, aBc, aBa, aBb, aBe, aBd, aA7, aA6, fQ, fL, fA, fR, cU, eS, eH, dK, bN, fS, fC, aM, dF, aX, bM, bP, aQ, cP, cG, eQ, aF, gS, aI, cK, aT, bV, fT, cI, cJ, aD, gA, fB, aP, aG, bQ, gQ, aK, fH, dT, dP, gG, dA, eU, dI, eF, fG, fF, cF, dC, gK, dO, cB, aS, bU, bT, fN, aE, aH, aN, aY, bF, cN, bK, aA, eY, aL, cL, fJ, fE, gF, bJ, eP, eN, bY, fW, fI, eJ, dH, cO, dB, bD, aZ, aO, fZ, aJ, dE, dQ, bG, cC, fK, dL, gC, fM, eZ, eT, dU, aR, cH, dG, fY, fX, fD, cZ, aW, dV, fU, cR, eX, fP, cD, bO, eD, bB, dX, dW, cM, eL, eK, bE, cY, bA, dR, dY, eE, bL, cS, cQ, dN, bS, cW, cV, fO, bZ, eI, eM, gE, dZ, dS, dM, dD, bH, bR, bX, bW, aU, cX, aV, d1]
    have hsl : Sl w6 (.slice (some ⟨q, 0, none⟩) 256 256) (SB ns) := ⟨_, _, _, rfl, by simp [hnl], aBk _, fun _ => ⟨q, 0, rfl, fun j hj => by rw [aBc, o6.cell]⟩⟩
    refine (azP hsl (fun n hn => by have := hns n hn; omega) (by omega)).mono ?_
    rintro r w7 ⟨ho, x7⟩
    have st7 := st4 (x36.seq x7)
    have x07 := x06.seq x7
    have z7 := x7.size
    have z6 := x36.size
    rcases ho with ⟨-, rfl⟩ | ⟨-, last, wv, wl, -, hlast, hwl, -, -, -, rfl, ow⟩
    .have n1 : ((1 : Int) == 0) = false := rfl
     simp (disch := omega) only [gI, jD, dJ, stepR_skip, hJ, iC, iM, iP, iL, iO, jJ, iW, gM, iG, iI, iJ, iH, gY, iN, iA, iF, iX, iV, iK, gR, iR, iQ, iE, jW, jV, kH, kC, kG, kF, kI, kE, kD, gD, Result.ok.injEq, Next.value.injEq, true_and, and_true, gX, iB, iU, iT, iS, jI, aA9, gV, gU, gW, gT, gO, gJ, gP, gN, gB, fV, if_true, if_false, aA8, aBc, aBa, aBb, aBe, aBd, aA7, aA6, fQ, fL, fA, fR, cU, eS, eH, dK, bN, fS, fC, aM, dF, aX, bM, bP, aQ, cP, cG, eQ, aF, gS, aI, cK, aT, bV, fT, cI, cJ, aD, gA, fB, aP, aG, bQ, gQ, aK, fH, dT, dP, gG, dA, eU, dI, eF, fG, fF, cF, dC, gK, dO, cB, aS, bU, bT, fN, aE, aH, aN, aY, bF, cN, bK, aA, eY, aL, cL, fJ, fE, gF, bJ, eP, eN, bY, fW, fI, eJ, dH, cO, dB, bD, aZ, aO, fZ, aJ, dE, dQ, bG, cC, fK, dL, gC, fM, eZ, eT, dU, aR, cH, dG, fY, fX, fD, cZ, aW, dV, fU, cR, eX, fP, cD, bO, eD, bB, dX, dW, cM, eL, eK, bE, cY, bA, dR, dY, eE, bL, cS, cQ, dN, bS, cW, cV, fO, bZ, eI, eM, gE, dZ, dS, dM, dD, bH, bR, bX, bW, aU, cX, aV, n1]
     exact fin w7 st7
    .have n1 : ((0 : Int) == 0) = true := rfl
     have hbw : Bs w7 wv (R9 wl) := ow.sl
     obtain ⟨wa, wc_, rfl⟩ := ow.len
     simp (disch := omega) only [gI, jD, dJ, stepR_skip, hJ, iC, iM, iP, iL, iO, jJ, iW, gM, iG, iI, iJ, iH, gY, iN, iA, iF, iX, iV, iK, gR, iR, iQ, iE, jW, jV, kH, kC, kG, kF, kI, kE, kD, gD, Result.ok.injEq, Next.value.injEq, true_and, and_true, gX, iB, iU, iT, iS, jI, aA9, gV, gU, gW, gT, gO, gJ, gP, gN, gB, fV, if_true, if_false, aA8, aBc, aBa, aBb, aBe, aBd, aA7, aA6, fQ, fL, fA, fR, cU, eS, eH, dK, bN, fS, fC, aM, dF, aX, bM, bP, aQ, cP, cG, eQ, aF, gS, aI, cK, aT, bV, fT, cI, cJ, aD, gA, fB, aP, aG, bQ, gQ, aK, fH, dT, dP, gG, dA, eU, dI, eF, fG, fF, cF, dC, gK, dO, cB, aS, bU, bT, fN, aE, aH, aN, aY, bF, cN, bK, aA, eY, aL, cL, fJ, fE, gF, bJ, eP, eN, bY, fW, fI, eJ, dH, cO, dB, bD, aZ, aO, fZ, aJ, dE, dQ, bG, cC, fK, dL, gC, fM, eZ, eT, dU, aR, cH, dG, fY, fX, fD, cZ, aW, dV, fU, cR, eX, fP, cD, bO, eD, bB, dX, dW, cM, eL, eK, bE, cY, bA, dR, dY, eE, bL, cS, cQ, dN, bS, cW, cV, fO, bZ, eI, eM, gE, dZ, dS, dM, dD, bH, bR, bX, bW, aU, cX, aV, n1]
     refine (aoB (hv.ext x07 (kL _)) hl hbw (by simp [R9]; omega)).mono ?_
     rintro r w8 ⟨hps, x8⟩
     have st8 := st4 ((x36.seq x7).seq x8)
     rcases hps with ⟨e, he, rfl⟩ | ⟨pv, bytes, rfl, op, hb1, hb2⟩
     .simp (disch := omega) only [gI, jD, dJ, stepR_skip, hJ, iC, iM, iP, iL, iO, jJ, iW, gM, iG, iI, iJ, iH, gY, iN, iA, iF, iX, iV, iK, gR, iR, iQ, iE, jW, jV, kH, kC, kG, kF, kI, kE, kD, gD, Result.ok.injEq, Next.value.injEq, true_and, and_true, gX, iB, iU, iT, iS, jI, aA9, gV, gU, gW, gT, gO, gJ, gP, gN, gB, fV, if_true, if_false, aA8, aBc, aBa, aBb, aBe, aBd, aA7, aA6, fQ, fL, fA, fR, cU, eS, eH, dK, bN, fS, fC, aM, dF, aX, bM, bP, aQ, cP, cG, eQ, aF, gS, aI, cK, aT, bV, fT, cI, cJ, aD, gA, fB, aP, aG, bQ, gQ, aK, fH, dT, dP, gG, dA, eU, dI, eF, fG, fF, cF, dC, gK, dO, cB, aS, bU, bT, fN, aE, aH, aN, aY, bF, cN, bK, aA, eY, aL, cL, fJ, fE, gF, bJ, eP, eN, bY, fW, fI, eJ, dH, cO, dB, bD, aZ, aO, fZ, aJ, dE, dQ, bG, cC, fK, dL, gC, fM, eZ, eT, dU, aR, cH, dG, fY, fX, fD, cZ, aW, dV, fU, cR, eX, fP, cD, bO, eD, bB, dX, dW, cM, eL, eK, bE, cY, bA, dR, dY, eE, bL, cS, cQ, dN, bS, cW, cV, fO, bZ, eI, eM, gE, dZ, dS, dM, dD, bH, bR, bX, bW, aU, cX, aV, q2, IE]
      refine (aoW he).mono ?_
      rintro r w9 ⟨rfl, hw⟩
      rw [hw]; clear hw w9
      exact fin w8 st8
     .have os8 := hosl x07 (by omega) op
      obtain ⟨a8, c8, rfl⟩ := op.len
      simp (disch := omega) only [gI, jD, dJ, stepR_skip, hJ, iC, iM, iP, iL, iO, jJ, iW, gM, iG, iI, iJ, iH, gY, iN, iA, iF, iX, iV, iK, gR, iR, iQ, iE, jW, jV, kH, kC, kG, kF, kI, kE, kD, gD, Result.ok.injEq, Next.value.injEq, true_and, and_true, gX, iB, iU, iT, iS, jI, aA9, gV, gU, gW, gT, gO, gJ, gP, gN, gB, fV, if_true, if_false, aA8, aBc, aBa, aBb, aBe, aBd, aA7, aA6, fQ, fL, fA, fR, cU, eS, eH, dK, bN, fS, fC, aM, dF, aX, bM, bP, aQ, cP, cG, eQ, aF, gS, aI, cK, aT, bV, fT, cI, cJ, aD, gA, fB, aP, aG, bQ, gQ, aK, fH, dT, dP, gG, dA, eU, dI, eF, fG, fF, cF, dC, gK, dO, cB, aS, bU, bT, fN, aE, aH, aN, aY, bF, cN, bK, aA, eY, aL, cL, fJ, fE, gF, bJ, eP, eN, bY, fW, fI, eJ, dH, cO, dB, bD, aZ, aO, fZ, aJ, dE, dQ, bG, cC, fK, dL, gC, fM, eZ, eT, dU, aR, cH, dG, fY, fX, fD, cZ, aW, dV, fU, cR, eX, fP, cD, bO, eD, bB, dX, dW, cM, eL, eK, bE, cY, bA, dR, dY, eE, bL, cS, cQ, dN, bS, cW, cV, fO, bZ, eI, eM, gE, dZ, dS, dM, dD, bH, bR, bX, bW, aU, cX, aV, q2, IE]
      refine bet w8 a8 c8 bytes _ st8 os8 hb1 (by omega) fun r W hW => ?_
      exact fin W hW
end Go.Proofs.YtoecppploooloaaGreatDoor
namespace Go.Proofs.YtoecppploooloaaGreatDoor
open Go Go.En
set_option maxRecDepth 4000
structure Fnd (w : aDs) (p mb ab : Nat) (bv : aDt) (B : List UInt8) (to tries : Nat) (es : List (Rj 4 × aDt)) (A : List Int) : Prop where
 own : lN w p [bv, .int .i64 to, .map (some mb), .slice (some ⟨ab, 0, none⟩) to to, .int .i64 tries]
 bs : Bs w bv B
 map : Mp w mb WS es
 ah : lN w ab (A.map (Value.int .i64))
 len : A.length = to
 le : to <= B.length
 big : B.length <= 1099511627776
theorem Fnd.ext {w w' : aDs} {p mb ab : Nat} {bv : aDt} {B : List UInt8} {to tries : Nat} {es : List (Rj 4 × aDt)} {A : List Int} {M : Nat -> Prop} (h : Fnd w p mb ab bv B to tries es A) (hx : jN w w' M)
 (h1 : ¬ M p) (h2 : ¬ M mb) (h3 : ¬ M ab) (h4 : ¬ Mz bv M) : Fnd w' p mb ab bv B to tries es A :=
 ⟨h.own.ext hx h1, h.bs.ext hx h4, h.map.ext hx h2, h.ah.ext hx h3, h.len, h.le, h.big⟩
theorem Fnd.same {w w' : aDs} {p mb ab : Nat} {bv : aDt} {B : List UInt8} {to tries : Nat} {es : List (Rj 4 × aDt)} {A : List Int} (h : Fnd w p mb ab bv B to tries es A) (hx : jN w w' mC) : Fnd w' p mb ab bv B to tries es A :=
 h.ext hx (fun h => h) (fun h => h) (fun h => h) (kL _)
theorem Fnd.dr {w : aDs} {p mb ab : Nat} {bv : aDt} {B : List UInt8} {to tries : Nat} {es : List (Rj 4 × aDt)} {A : List Int} (h : Fnd w p mb ab bv B to tries es A) : Fnd (dr w) p mb ab bv B to tries es A :=
 h.same (jN.dr _ _)
structure Lng (B : List UInt8) (to old at_ n : Nat) : Prop where
 le : at_ + n <= to ∨ n = 0
 most : n <= 131074
 same : ∀ j, j < n -> B[old + j]? = B[at_ + j]?
 full : n = 131074 ∨ to <= at_ + n ∨ B[old + n]? ≠ B[at_ + n]?
theorem axN {w : aDs} {p mb ab : Nat} {bv : aDt} {B : List UInt8} {to tries : Nat} {es : List (Rj 4 × aDt)} {A : List Int} (hf : Fnd w p mb ab bv B to tries es A) (old at_ : Nat) (ho : old < at_) (ha : at_ <= to + 1) :
 jE pg xB #[.pointer (some ⟨p, 0, none⟩), .int .i64 old, .int .i64 at_] w (fun r w' => ∃ n : Nat, r = .int .i64 n /\ Lng B to old at_ n /\ jN w w' mC) := by
 have hle := hf.le
 have hbig := hf.big
 refine Qr ?_
 simp (disch := omega) only [vY, B0, Ci, B9, Cn, Ce, MA, gI, jD, dJ, stepR_skip, hJ, iC, iM, iP, iL, iO, jJ, iW, gM, iG, iI, iJ, iH, gY, iN, iA, iF, iX, iV, iK, gR, iR, iQ, iE, jW, jV, kH, kC, kG, kF, kI, kE, kD, gD, Result.ok.injEq, Next.value.injEq, true_and, and_true, gX, iB, iU, iT, iS, jI, aA9, gV, gU, gW, gT, gO, gJ, gP, gN, gB, fV, if_true, if_false, aA8, aBc, aBa, aBb, aBe, aBd, aA7, aA6, fQ, fL, fA, fR, cU, eS, eH, dK, bN, fS, fC, aM, dF, aX, bM, bP, aQ, cP, cG, eQ, aF, gS, aI, cK, aT, bV, fT, cI, cJ, aD, gA, fB, aP, aG, bQ, gQ, aK, fH, dT, dP, gG, dA, eU, dI, eF, fG, fF, cF, dC, gK, dO, cB, aS, bU, bT, fN, aE, aH, aN, aY, bF, cN, bK, aA, eY, aL, cL, fJ, fE, gF, bJ, eP, eN, bY, fW, fI, eJ, dH, cO, dB, bD, aZ, aO, fZ, aJ, dE, dQ, bG, cC, fK, dL, gC, fM, eZ, eT, dU, aR, cH, dG, fY, fX, fD, cZ, aW, dV, fU, cR, eX, fP, cD, bO, eD, bB, dX, dW, cM, eL, eK, bE, cY, bA, dR, dY, eE, bL, cS, cQ, dN, bS, cW, cV, fO, bZ, eI, eM, gE, dZ, dS, dM, dD, bH, bR, bX, bW, aU, cX, aV]
 refine kO.rule (fun m t w' => ∃ n : Nat, m = 131074 - n /\ t = .int .i64 n /\ (at_ + n <= to ∨ n = 0) /\ n <= 131074 /\ (∀ j, j < n -> B[old + j]? = B[at_ + j]?) /\ jN w w' mC) 131074 ⟨0, rfl, rfl, .inr rfl, by omega, fun j h => by omega, jN.refl _ _⟩ ?_
 rintro m t w1 ⟨n, rfl, rfl, h1, h2, h3, hx⟩
 have hf := (hf.same hx).dr
 have c1 := hf.own.cell (off := 1)
 have c0 := hf.own.cell (off := 0)
 simp only [aA6, aA7] at c0 c1
 by_cases hlt : at_ + n < to
 .have d1 : decide ((at_ : Int) + (n : Int) < (to : Int)) = true := by simp; omega
  by_cases hm : n < 131074
  .have d2 : decide ((n : Int) < 131074) = true := by simp; omega
   obtain ⟨b, off, c, rfl, hc, hb⟩ := hf.bs.open (by omega)
   have e1 : ((old : Int) + (n : Int)).toNat = old + n := by omega
   have e2 : ((at_ : Int) + (n : Int)).toNat = at_ + n := by omega
   have g1 := hb (old + n) (by omega)
   have g2 := hb (at_ + n) (by omega)
   by_cases hq : B[old + n]'(by omega) = B[at_ + n]'(by omega)
   .have d3 : ((((B[old + n]'(by omega)).toNat : Int)) == (((B[at_ + n]'(by omega)).toNat : Nat) : Int)) = true := by rw [hq]; simp
    simp (disch := omega) only [pW, gI, jD, dJ, stepR_skip, hJ, iC, iM, iP, iL, iO, jJ, iW, gM, iG, iI, iJ, iH, gY, iN, iA, iF, iX, iV, iK, gR, iR, iQ, iE, jW, jV, kH, kC, kG, kF, kI, kE, kD, gD, Result.ok.injEq, Next.value.injEq, true_and, and_true, gX, iB, iU, iT, iS, jI, aA9, gV, gU, gW, gT, gO, gJ, gP, gN, gB, fV, if_true, if_false, aA8, aBc, aBa, aBb, aBe, aBd, aA7, aA6, fQ, fL, fA, fR, cU, eS, eH, dK, bN, fS, fC, aM, dF, aX, bM, bP, aQ, cP, cG, eQ, aF, gS, aI, cK, aT, bV, fT, cI, cJ, aD, gA, fB, aP, aG, bQ, gQ, aK, fH, dT, dP, gG, dA, eU, dI, eF, fG, fF, cF, dC, gK, dO, cB, aS, bU, bT, fN, aE, aH, aN, aY, bF, cN, bK, aA, eY, aL, cL, fJ, fE, gF, bJ, eP, eN, bY, fW, fI, eJ, dH, cO, dB, bD, aZ, aO, fZ, aJ, dE, dQ, bG, cC, fK, dL, gC, fM, eZ, eT, dU, aR, cH, dG, fY, fX, fD, cZ, aW, dV, fU, cR, eX, fP, cD, bO, eD, bB, dX, dW, cM, eL, eK, bE, cY, bA, dR, dY, eE, bL, cS, cQ, dN, bS, cW, cV, fO, bZ, eI, eM, gE, dZ, dS, dM, dD, bH, bR, bX, bW, aU, cX, aV, d1, d2, c0, c1, e1, e2, g1, g2, nR, d3]
    refine ⟨131074 - (n + 1), by omega, n + 1, rfl, rfl, .inl (by omega), by omega, fun j hj => ?_, hx.seq (jN.dr _ _)⟩
    by_cases hjn : j = n
    .subst hjn
     rw [aBh (by omega), aBh (by omega), hq]
    .exact h3 j (by omega)
   .have d3 : ((((B[old + n]'(by omega)).toNat : Int)) == (((B[at_ + n]'(by omega)).toNat : Nat) : Int)) = false := by
     rw [alD]; simpa using hq
    simp (disch := omega) only [pW, gI, jD, dJ, stepR_skip, hJ, iC, iM, iP, iL, iO, jJ, iW, gM, iG, iI, iJ, iH, gY, iN, iA, iF, iX, iV, iK, gR, iR, iQ, iE, jW, jV, kH, kC, kG, kF, kI, kE, kD, gD, Result.ok.injEq, Next.value.injEq, true_and, and_true, gX, iB, iU, iT, iS, jI, aA9, gV, gU, gW, gT, gO, gJ, gP, gN, gB, fV, if_true, if_false, aA8, aBc, aBa, aBb, aBe, aBd, aA7, aA6, fQ, fL, fA, fR, cU, eS, eH, dK, bN, fS, fC, aM, dF, aX, bM, bP, aQ, cP, cG, eQ, aF, gS, aI, cK, aT, bV, fT, cI, cJ, aD, gA, fB, aP, aG, bQ, gQ, aK, fH, dT, dP, gG, dA, eU, dI, eF, fG, fF, cF, dC, gK, dO, cB, aS, bU, bT, fN, aE, aH, aN, aY, bF, cN, bK, aA, eY, aL, cL, fJ, fE, gF, bJ, eP, eN, bY, fW, fI, eJ, dH, cO, dB, bD, aZ, aO, fZ, aJ, dE, dQ, bG, cC, fK, dL, gC, fM, eZ, eT, dU, aR, cH, dG, fY, fX, fD, cZ, aW, dV, fU, cR, eX, fP, cD, bO, eD, bB, dX, dW, cM, eL, eK, bE, cY, bA, dR, dY, eE, bL, cS, cQ, dN, bS, cW, cV, fO, bZ, eI, eM, gE, dZ, dS, dM, dD, bH, bR, bX, bW, aU, cX, aV, d1, d2, c0, c1, e1, e2, g1, g2, nR, d3]
    refine ⟨n, rfl, ⟨h1, h2, h3, .inr (.inr ?_)⟩, hx.seq (jN.dr _ _)⟩
    rw [aBh (by omega), aBh (by omega)]
    exact fun h => hq (aBO h)
  .have d2 : decide ((n : Int) < 131074) = false := by simp; omega
   simp (disch := omega) only [pW, gI, jD, dJ, stepR_skip, hJ, iC, iM, iP, iL, iO, jJ, iW, gM, iG, iI, iJ, iH, gY, iN, iA, iF, iX, iV, iK, gR, iR, iQ, iE, jW, jV, kH, kC, kG, kF, kI, kE, kD, gD, Result.ok.injEq, Next.value.injEq, true_and, and_true, gX, iB, iU, iT, iS, jI, aA9, gV, gU, gW, gT, gO, gJ, gP, gN, gB, fV, if_true, if_false, aA8, aBc, aBa, aBb, aBe, aBd, aA7, aA6, fQ, fL, fA, fR, cU, eS, eH, dK, bN, fS, fC, aM, dF, aX, bM, bP, aQ, cP, cG, eQ, aF, gS, aI, cK, aT, bV, fT, cI, cJ, aD, gA, fB, aP, aG, bQ, gQ, aK, fH, dT, dP, gG, dA, eU, dI, eF, fG, fF, cF, dC, gK, dO, cB, aS, bU, bT, fN, aE, aH, aN, aY, bF, cN, bK, aA, eY, aL, cL, fJ, fE, gF, bJ, eP, eN, bY, fW, fI, eJ, dH, cO, dB, bD, aZ, aO, fZ, aJ, dE, dQ, bG, cC, fK, dL, gC, fM, eZ, eT, dU, aR, cH, dG, fY, fX, fD, cZ, aW, dV, fU, cR, eX, fP, cD, bO, eD, bB, dX, dW, cM, eL, eK, bE, cY, bA, dR, dY, eE, bL, cS, cQ, dN, bS, cW, cV, fO, bZ, eI, eM, gE, dZ, dS, dM, dD, bH, bR, bX, bW, aU, cX, aV, d1, d2, c0, c1]
   exact ⟨n, rfl, ⟨h1, h2, h3, .inl (by omega)⟩, hx.seq (jN.dr _ _)⟩
 .have d1 : decide ((at_ : Int) + (n : Int) < (to : Int)) = false := by simp; omega
  simp (disch := omega) only [pW, gI, jD, dJ, stepR_skip, hJ, iC, iM, iP, iL, iO, jJ, iW, gM, iG, iI, iJ, iH, gY, iN, iA, iF, iX, iV, iK, gR, iR, iQ, iE, jW, jV, kH, kC, kG, kF, kI, kE, kD, gD, Result.ok.injEq, Next.value.injEq, true_and, and_true, gX, iB, iU, iT, iS, jI, aA9, gV, gU, gW, gT, gO, gJ, gP, gN, gB, fV, if_true, if_false, aA8, aBc, aBa, aBb, aBe, aBd, aA7, aA6, fQ, fL, fA, fR, cU, eS, eH, dK, bN, fS, fC, aM, dF, aX, bM, bP, aQ, cP, cG, eQ, aF, gS, aI, cK, aT, bV, fT, cI, cJ, aD, gA, fB, aP, aG, bQ, gQ, aK, fH, dT, dP, gG, dA, eU, dI, eF, fG, fF, cF, dC, gK, dO, cB, aS, bU, bT, fN, aE, aH, aN, aY, bF, cN, bK, aA, eY, aL, cL, fJ, fE, gF, bJ, eP, eN, bY, fW, fI, eJ, dH, cO, dB, bD, aZ, aO, fZ, aJ, dE, dQ, bG, cC, fK, dL, gC, fM, eZ, eT, dU, aR, cH, dG, fY, fX, fD, cZ, aW, dV, fU, cR, eX, fP, cD, bO, eD, bB, dX, dW, cM, eL, eK, bE, cY, bA, dR, dY, eE, bL, cS, cQ, dN, bS, cW, cV, fO, bZ, eI, eM, gE, dZ, dS, dM, dD, bH, bR, bX, bW, aU, cX, aV, d1, c0, c1]
  exact ⟨n, rfl, ⟨h1, h2, h3, .inr (.inl (by omega))⟩, hx.seq (jN.dr _ _)⟩
theorem Lng.le_of {B : List UInt8} {to old at_ m n : Nat} (h : Lng B to old at_ m) (k : Lng B to old at_ n) : m <= n := by
 rcases aBt n m with hlt | hge
 .exfalso
  have h1 := h.le
  have h2 := h.most
  rcases k.full with f | f | f
  .omega
  .omega
  .exact f (h.same n hlt)
 .exact hge
def tM (B : List UInt8) (at_ : Nat) : Rj 4 := if h : at_ + 4 <= B.length then ⟨(B.drop at_).take 4, by simp; omega⟩ else ⟨[0, 0, 0, 0], rfl⟩
theorem alG {w : aDs} {p mb ab : Nat} {bv : aDt} {B : List UInt8} {to tries : Nat} {es : List (Rj 4 × aDt)} {A : List Int} (hf : Fnd w p mb ab bv B to tries es A) (at_ : Nat) (ha : at_ <= B.length) :
 jE pg sU #[.pointer (some ⟨p, 0, none⟩), .int .i64 at_] w (fun r w' => r = .tuple #[WS (tM B at_), .bool (decide (at_ + 4 <= B.length))] /\ jN w w' mC) := by
 have hbig := hf.big
 refine OB ?_
 simp (disch := omega) only [Bk, LB, gI, jD, dJ, stepR_skip, hJ, iC, iM, iP, iL, iO, jJ, iW, gM, iG, iI, iJ, iH, gY, iN, iA, iF, iX, iV, iK, gR, iR, iQ, iE, jW, jV, kH, kC, kG, kF, kI, kE, kD, gD, Result.ok.injEq, Next.value.injEq, true_and, and_true, gX, iB, iU, iT, iS, jI, aA9, gV, gU, gW, gT, gO, gJ, gP, gN, gB, fV, if_true, if_false, aA8, aBc, aBa, aBb, aBe, aBd, aA7, aA6, fQ, fL, fA, fR, cU, eS, eH, dK, bN, fS, fC, aM, dF, aX, bM, bP, aQ, cP, cG, eQ, aF, gS, aI, cK, aT, bV, fT, cI, cJ, aD, gA, fB, aP, aG, bQ, gQ, aK, fH, dT, dP, gG, dA, eU, dI, eF, fG, fF, cF, dC, gK, dO, cB, aS, bU, bT, fN, aE, aH, aN, aY, bF, cN, bK, aA, eY, aL, cL, fJ, fE, gF, bJ, eP, eN, bY, fW, fI, eJ, dH, cO, dB, bD, aZ, aO, fZ, aJ, dE, dQ, bG, cC, fK, dL, gC, fM, eZ, eT, dU, aR, cH, dG, fY, fX, fD, cZ, aW, dV, fU, cR, eX, fP, cD, bO, eD, bB, dX, dW, cM, eL, eK, bE, cY, bA, dR, dY, eE, bL, cS, cQ, dN, bS, cW, cV, fO, bZ, eI, eM, gE, dZ, dS, dM, dD, bH, bR, bX, bW, aU, cX, aV]
 refine Pw fun w1 o1 x1 s1 => ?_
 have hf := hf.same x1
 have c0 := hf.own.cell (off := 0)
 simp only [aA6] at c0
 obtain ⟨a, c, hv, hc⟩ := hf.bs.len
 simp only [aBf] at hv hc
 subst hv
 by_cases h4 : at_ + 4 <= B.length
 .have d : decide ((B.length : Int) < (at_ : Int) + 4) = false := by simp; omega
  obtain ⟨b, off, c', e, hc, hb⟩ := hf.bs.open (by omega)
  cases e
  have e1 : ((at_ : Int) + 4).toNat = at_ + 4 := by omega
  have e2 : at_ + 4 - at_ = 4 := by omega
  have sh := Qu (b := b) (o := off) (m := c) (l := at_) (by omega)
  have l1 := abI (w := w1) (b := b) (off := off + at_) (l := ((B.drop at_).take 4).map nR) (by simp; omega) (fun j hj => by
   have hj : j < 4 := by simp at hj; omega
   rw [aCA, hb (at_ + j) (by omega), aBz, aBW hj, aCR, aBh (by omega)] <;> rfl)
  simp (disch := omega) only [gI, jD, dJ, stepR_skip, hJ, iC, iM, iP, iL, iO, jJ, iW, gM, iG, iI, iJ, iH, gY, iN, iA, iF, iX, iV, iK, gR, iR, iQ, iE, jW, jV, kH, kC, kG, kF, kI, kE, kD, gD, Result.ok.injEq, Next.value.injEq, true_and, and_true, gX, iB, iU, iT, iS, jI, aA9, gV, gU, gW, gT, gO, gJ, gP, gN, gB, fV, if_true, if_false, aA8, aBc, aBa, aBb, aBe, aBd, aA7, aA6, fQ, fL, fA, fR, cU, eS, eH, dK, bN, fS, fC, aM, dF, aX, bM, bP, aQ, cP, cG, eQ, aF, gS, aI, cK, aT, bV, fT, cI, cJ, aD, gA, fB, aP, aG, bQ, gQ, aK, fH, dT, dP, gG, dA, eU, dI, eF, fG, fF, cF, dC, gK, dO, cB, aS, bU, bT, fN, aE, aH, aN, aY, bF, cN, bK, aA, eY, aL, cL, fJ, fE, gF, bJ, eP, eN, bY, fW, fI, eJ, dH, cO, dB, bD, aZ, aO, fZ, aJ, dE, dQ, bG, cC, fK, dL, gC, fM, eZ, eT, dU, aR, cH, dG, fY, fX, fD, cZ, aW, dV, fU, cR, eX, fP, cD, bO, eD, bB, dX, dW, cM, eL, eK, bE, cY, bA, dR, dY, eE, bL, cS, cQ, dN, bS, cW, cV, fO, bZ, eI, eM, gE, dZ, dS, dM, dD, bH, bR, bX, bW, aU, cX, aV, c0, d, e1, e2, sh, l1]
  refine Ie o1 (by simp; omega) (F6 _) (by simp) fun w2 o2 x2 s2 => ?_
  refine UY o2 (by simp [U0]) ⟨?_, x1.new x2 (aBk _)⟩
  rw [decide_eq_true h4]
  unfold WS tM
  rw [dif_pos h4]
  have : ∀ l : List aDt, l.length = 4 -> ((kV [.int .u8 0, .int .u8 0, .int .u8 0, .int .u8 0] 0 l).drop 0).take 4 = l := by
   intro l hl
   match l, hl with
   | [a, b, c, d], _ => rfl
  simp only [this _ (show (((B.drop at_).take 4).map nR).length = 4 by simp; omega)]
 .have d : decide ((B.length : Int) < (at_ : Int) + 4) = true := by simp; omega
  simp (disch := omega) only [gI, jD, dJ, stepR_skip, hJ, iC, iM, iP, iL, iO, jJ, iW, gM, iG, iI, iJ, iH, gY, iN, iA, iF, iX, iV, iK, gR, iR, iQ, iE, jW, jV, kH, kC, kG, kF, kI, kE, kD, gD, Result.ok.injEq, Next.value.injEq, true_and, and_true, gX, iB, iU, iT, iS, jI, aA9, gV, gU, gW, gT, gO, gJ, gP, gN, gB, fV, if_true, if_false, aA8, aBc, aBa, aBb, aBe, aBd, aA7, aA6, fQ, fL, fA, fR, cU, eS, eH, dK, bN, fS, fC, aM, dF, aX, bM, bP, aQ, cP, cG, eQ, aF, gS, aI, cK, aT, bV, fT, cI, cJ, aD, gA, fB, aP, aG, bQ, gQ, aK, fH, dT, dP, gG, dA, eU, dI, eF, fG, fF, cF, dC, gK, dO, cB, aS, bU, bT, fN, aE, aH, aN, aY, bF, cN, bK, aA, eY, aL, cL, fJ, fE, gF, bJ, eP, eN, bY, fW, fI, eJ, dH, cO, dB, bD, aZ, aO, fZ, aJ, dE, dQ, bG, cC, fK, dL, gC, fM, eZ, eT, dU, aR, cH, dG, fY, fX, fD, cZ, aW, dV, fU, cR, eX, fP, cD, bO, eD, bB, dX, dW, cM, eL, eK, bE, cY, bA, dR, dY, eE, bL, cS, cQ, dN, bS, cW, cV, fO, bZ, eI, eM, gE, dZ, dS, dM, dD, bH, bR, bX, bW, aU, cX, aV, c0, d]
  refine Ie o1 rfl (by simp [one]) (by simp) fun w2 o2 x2 s2 => ?_
  refine UY o2 (by simp [U0]) ⟨?_, x1.new x2 (aBk _)⟩
  rw [decide_eq_false h4]
  unfold WS tM
  rw [dif_neg h4]
  rfl
structure Kept (n : Nat) (es : List (Rj 4 × aDt)) (A : List Int) : Prop where
 es : ∀ q ∈ es, ∃ x : Nat, q.2 = .int .i64 x /\ x < n
 ah : ∀ i (h : i < A.length), -1 <= A[i] /\ A[i] <= i
theorem Kept.mono {n m : Nat} {es : List (Rj 4 × aDt)} {A : List Int} (h : Kept n es A) (hm : n <= m) : Kept m es A :=
 ⟨fun q hq => let ⟨x, e, hx⟩ := h.es q hq; ⟨x, e, by omega⟩, h.ah⟩
theorem Kept.assoc {n : Nat} {es : List (Rj 4 × aDt)} {A : List Int} (h : Kept n es A) {k : Rj 4} {v : aDt} (he : En.assoc k es = some v) : ∃ x : Nat, v = .int .i64 x /\ x < n := h.es _ (amW he)
theorem Kept.set {n i : Nat} {es : List (Rj 4 × aDt)} {A : List Int} (h : Kept n es A) {x : Int} (h0 : -1 <= x) (h1 : x <= i) : Kept n es (A.set i x) :=
 ⟨h.es, fun j hj => by
   rw [List.getElem_set]
   split
   .rename_i e; subst e; exact ⟨h0, h1⟩
   .exact h.ah j _⟩
def noted (B : List UInt8) (at_ : Nat) (es : List (Rj 4 × aDt)) : List (Rj 4 × aDt) := if at_ + 4 <= B.length then upd (tM B at_) (.int .i64 at_) es else es
theorem Kept.noted {at_ : Nat} {B : List UInt8} {es : List (Rj 4 × aDt)} {A : List Int} (h : Kept (at_ + 1) es A) : Kept (at_ + 1) (noted B at_ es) A := by
 refine ⟨fun q hq => ?_, h.ah⟩
 unfold Go.Proofs.YtoecppploooloaaGreatDoor.noted at hq
 split at hq
 .rcases alK hq with rfl | hq
  .exact ⟨at_, rfl, by omega⟩
  .exact h.es q hq
 .exact h.es q hq
theorem abR {w w' : aDs} {p mb ab : Nat} {bv : aDt} {B : List UInt8} {to tries at_ : Nat} {es : List (Rj 4 × aDt)} {A : List Int} (hf : Fnd w' p mb ab bv B to tries es A) (hk : Kept (at_ + 1) es A)
 (hd : p ≠ mb /\ p ≠ ab /\ mb ≠ ab) (hb : ¬ Mz bv fun b => b = mb ∨ b = ab) {kb : Nat} (hkb : lN w' kb ((tM B at_).1.map nR)) (hx : jN w w' fun b => b = mb ∨ b = ab)
 {R : aDs -> Prop} (hR : ∀ w' A', Fnd w' p mb ab bv B to tries (noted B at_ es) A' -> Kept (at_ + 1) (noted B at_ es) A' -> jN w w' (fun b => b = mb ∨ b = ab) -> R w') :
 pP R (.pointer (some ⟨p, 0, none⟩)) (.int .i64 at_) (.pointer (some ⟨kb, 0, none⟩)) (.bool (decide (at_ + 4 <= B.length))) w' := by
 have hkept := hk.noted (B := B)
 have hn : noted B at_ es = if at_ + 4 <= B.length then upd (tM B at_) (.int .i64 at_) es else es := rfl
 by_cases h4 : at_ + 4 <= B.length
 .rw [decide_eq_true h4]
  rw [if_pos h4] at hn
  rw [hn] at hR hkept
  have hf := hf.dr
  have hkb := oC hkb
  have c2 := hf.own.cell (off := 2)
  simp only [aA6, aA7] at c2
  have hlen := (tM B at_).2
  have l1 := NI (off := 0) hkb (by simp [hlen])
  have l2 : (((tM B at_).1.map nR).drop 0).take 4 = (tM B at_).1.map nR := by rw [aBB, aBp (by simp [hlen])]
  rw [l2] at l1
  simp (disch := omega) only [pP, sL, sV, By, gI, jD, dJ, stepR_skip, hJ, iC, iM, iP, iL, iO, jJ, iW, gM, iG, iI, iJ, iH, gY, iN, iA, iF, iX, iV, iK, gR, iR, iQ, iE, jW, jV, kH, kC, kG, kF, kI, kE, kD, gD, Result.ok.injEq, Next.value.injEq, true_and, and_true, gX, iB, iU, iT, iS, jI, aA9, gV, gU, gW, gT, gO, gJ, gP, gN, gB, fV, if_true, if_false, aA8, aBc, aBa, aBb, aBe, aBd, aA7, aA6, fQ, fL, fA, fR, cU, eS, eH, dK, bN, fS, fC, aM, dF, aX, bM, bP, aQ, cP, cG, eQ, aF, gS, aI, cK, aT, bV, fT, cI, cJ, aD, gA, fB, aP, aG, bQ, gQ, aK, fH, dT, dP, gG, dA, eU, dI, eF, fG, fF, cF, dC, gK, dO, cB, aS, bU, bT, fN, aE, aH, aN, aY, bF, cN, bK, aA, eY, aL, cL, fJ, fE, gF, bJ, eP, eN, bY, fW, fI, eJ, dH, cO, dB, bD, aZ, aO, fZ, aJ, dE, dQ, bG, cC, fK, dL, gC, fM, eZ, eT, dU, aR, cH, dG, fY, fX, fD, cZ, aW, dV, fU, cR, eX, fP, cD, bO, eD, bB, dX, dW, cM, eL, eK, bE, cY, bA, dR, dY, eE, bL, cS, cQ, dN, bS, cW, cV, fO, bZ, eI, eM, gE, dZ, dS, dM, dD, bH, bR, bX, bW, aU, cX, aV, c2, l1]
  refine Tr hf.map (tM B at_) _ fun w2 m2 x2 s2 => ?_
  refine hR w2 A ⟨hf.own.ext x2 hd.1, hf.bs.ext x2 (fun h => hb (DO h fun _ => .inl)), m2, hf.ah.ext x2 (fun e => hd.2.2 e.symm), hf.len, hf.le, hf.big⟩ hkept ?_
  exact (hx.seq (jN.dr _ _)).seq (x2.mono fun b _ h => .inl h)
 .rw [decide_eq_false h4]
  rw [if_neg h4] at hn
  rw [hn] at hR hkept
  simp (disch := omega) only [pP, sL, sV, By, gI, jD, dJ, stepR_skip, hJ, iC, iM, iP, iL, iO, jJ, iW, gM, iG, iI, iJ, iH, gY, iN, iA, iF, iX, iV, iK, gR, iR, iQ, iE, jW, jV, kH, kC, kG, kF, kI, kE, kD, gD, Result.ok.injEq, Next.value.injEq, true_and, and_true, gX, iB, iU, iT, iS, jI, aA9, gV, gU, gW, gT, gO, gJ, gP, gN, gB, fV, if_true, if_false, aA8, aBc, aBa, aBb, aBe, aBd, aA7, aA6, fQ, fL, fA, fR, cU, eS, eH, dK, bN, fS, fC, aM, dF, aX, bM, bP, aQ, cP, cG, eQ, aF, gS, aI, cK, aT, bV, fT, cI, cJ, aD, gA, fB, aP, aG, bQ, gQ, aK, fH, dT, dP, gG, dA, eU, dI, eF, fG, fF, cF, dC, gK, dO, cB, aS, bU, bT, fN, aE, aH, aN, aY, bF, cN, bK, aA, eY, aL, cL, fJ, fE, gF, bJ, eP, eN, bY, fW, fI, eJ, dH, cO, dB, bD, aZ, aO, fZ, aJ, dE, dQ, bG, cC, fK, dL, gC, fM, eZ, eT, dU, aR, cH, dG, fY, fX, fD, cZ, aW, dV, fU, cR, eX, fP, cD, bO, eD, bB, dX, dW, cM, eL, eK, bE, cY, bA, dR, dY, eE, bL, cS, cQ, dN, bS, cW, cV, fO, bZ, eI, eM, gE, dZ, dS, dM, dD, bH, bR, bX, bW, aU, cX, aV]
  exact hR _ A hf hkept hx
theorem ayA {w : aDs} {p mb ab : Nat} {bv : aDt} {B : List UInt8} {to tries at_ : Nat} {es : List (Rj 4 × aDt)} {A : List Int} (hf : Fnd w p mb ab bv B to tries es A) (hk : Kept (at_ + 1) es A)
 (hd : p ≠ mb /\ p ≠ ab /\ mb ≠ ab) (hb : ¬ Mz bv fun b => b = mb ∨ b = ab) (ha : at_ < to) :
 jE pg pG #[.pointer (some ⟨p, 0, none⟩), .int .i64 at_] w (fun _ w' => ∃ A', Fnd w' p mb ab bv B to tries (noted B at_ es) A' /\ Kept (at_ + 1) (noted B at_ es) A' /\ jN w w' (fun b => b = mb ∨ b = ab)) := by
 have hle := hf.le
 have hbig := hf.big
 refine PO ?_
 unfold By sV sL
 refine (alG hf at_ (by omega)).mono ?_
 rintro r w1 ⟨rfl, x1⟩
 have hf := hf.same x1
 have hlen := (tM B at_).2
 simp (disch := omega) only [gI, jD, dJ, stepR_skip, hJ, iC, iM, iP, iL, iO, jJ, iW, gM, iG, iI, iJ, iH, gY, iN, iA, iF, iX, iV, iK, gR, iR, iQ, iE, jW, jV, kH, kC, kG, kF, kI, kE, kD, gD, Result.ok.injEq, Next.value.injEq, true_and, and_true, gX, iB, iU, iT, iS, jI, aA9, gV, gU, gW, gT, gO, gJ, gP, gN, gB, fV, if_true, if_false, aA8, aBc, aBa, aBb, aBe, aBd, aA7, aA6, fQ, fL, fA, fR, cU, eS, eH, dK, bN, fS, fC, aM, dF, aX, bM, bP, aQ, cP, cG, eQ, aF, gS, aI, cK, aT, bV, fT, cI, cJ, aD, gA, fB, aP, aG, bQ, gQ, aK, fH, dT, dP, gG, dA, eU, dI, eF, fG, fF, cF, dC, gK, dO, cB, aS, bU, bT, fN, aE, aH, aN, aY, bF, cN, bK, aA, eY, aL, cL, fJ, fE, gF, bJ, eP, eN, bY, fW, fI, eJ, dH, cO, dB, bD, aZ, aO, fZ, aJ, dE, dQ, bG, cC, fK, dL, gC, fM, eZ, eT, dU, aR, cH, dG, fY, fX, fD, cZ, aW, dV, fU, cR, eX, fP, cD, bO, eD, bB, dX, dW, cM, eL, eK, bE, cY, bA, dR, dY, eE, bL, cS, cQ, dN, bS, cW, cV, fO, bZ, eI, eM, gE, dZ, dS, dM, dD, bH, bR, bX, bW, aU, cX, aV]
 refine Pw fun w2 o2 x2 s2 => ?_
 have hp1 := hf.own.lt
 have hm1 := hf.map.lt
 have ha1 := hf.ah.lt
 refine Ie o2 (by simp [hlen]) (F6 _) (by simp) fun w3 o3 x3 s3 => ?_
 have e3 : kV [.int .u8 0, .int .u8 0, .int .u8 0, .int .u8 0] 0 ((tM B at_).1.map nR) = (tM B at_).1.map nR := by
  generalize (tM B at_).1.map nR = l, (show ((tM B at_).1.map nR).length = 4 by simp [hlen]) = hl
  match l, hl with
  | [a, b, c, d], _ => rfl
 simp only [List.toList_toArray] at o3
 rw [e3] at o3
 have x13 : jN w1 w3 mC := (jN.refl _ _).seq (x2.new x3 (aBk _))
 have hf3 := (hf.same x13).dr
 have hkb := oC o3
 have c2 := hf3.own.cell (off := 2)
 have c3 := hf3.own.cell (off := 3)
 simp only [aA6, aA7] at c2 c3
 have l1 := NI (off := 0) hkb (by simp [hlen])
 have l2 : (((tM B at_).1.map nR).drop 0).take 4 = (tM B at_).1.map nR := by rw [aBB, aBp (by simp [hlen])]
 rw [l2] at l1
 have l3 := IY hf3.map (tM B at_)
 unfold WS at l3
 have hx0 : jN w (dr w3) (fun b => b = mb ∨ b = ab) := ((x1.seq x13).seq (jN.dr _ _)).mono fun _ _ h => h.elim
 have hnew : ∀ x : Int, -1 <= x -> x <= at_ -> gI pg (jQ 3 (.pointer (some ⟨ab, at_, none⟩)) (.int .i64 x)) (dr w3) fun _ w' =>
     pP (fun w' => ∃ A', Fnd w' p mb ab bv B to tries (noted B at_ es) A' /\ Kept (at_ + 1) (noted B at_ es) A' /\ jN w w' (fun b => b = mb ∨ b = ab)) (.pointer (some ⟨p, 0, none⟩)) (.int .i64 at_) (.pointer (some ⟨w1.heap.size, 0, none⟩)) (.bool (decide (at_ + 4 <= B.length))) w' := by
  intro x h0 h1
  refine LA hf3.ah rfl (by simp [hf3.len]; omega) fun w4 o4 x4 s4 => ?_
  rw [<- aC0] at o4
  have hab : ¬ w1.heap.size = ab := by omega
  refine abR (w := w) ⟨hf3.own.ext x4 hd.2.1, hf3.bs.ext x4 (fun h => hb (DO h fun _ => .inr)), hf3.map.ext x4 hd.2.2, o4, by simp [hf3.len], hf3.le, hf3.big⟩ (hk.set h0 h1) hd hb (hkb.ext x4 hab) (hx0.seq (x4.mono fun b _ h => .inr h)) fun w' A' a b c => ⟨A', a, b, c⟩
 by_cases h4 : at_ + 4 <= B.length
 .rw [decide_eq_true h4] at hnew ⊢
  cases ha : En.assoc (tM B at_) es with
  | none =>
    rw [ha] at l3
    simp only [Option.getD_none, Option.isSome_none] at l3
    simp (disch := omega) only [gI, jD, dJ, stepR_skip, hJ, iC, iM, iP, iL, iO, jJ, iW, gM, iG, iI, iJ, iH, gY, iN, iA, iF, iX, iV, iK, gR, iR, iQ, iE, jW, jV, kH, kC, kG, kF, kI, kE, kD, gD, Result.ok.injEq, Next.value.injEq, true_and, and_true, gX, iB, iU, iT, iS, jI, aA9, gV, gU, gW, gT, gO, gJ, gP, gN, gB, fV, if_true, if_false, aA8, aBc, aBa, aBb, aBe, aBd, aA7, aA6, fQ, fL, fA, fR, cU, eS, eH, dK, bN, fS, fC, aM, dF, aX, bM, bP, aQ, cP, cG, eQ, aF, gS, aI, cK, aT, bV, fT, cI, cJ, aD, gA, fB, aP, aG, bQ, gQ, aK, fH, dT, dP, gG, dA, eU, dI, eF, fG, fF, cF, dC, gK, dO, cB, aS, bU, bT, fN, aE, aH, aN, aY, bF, cN, bK, aA, eY, aL, cL, fJ, fE, gF, bJ, eP, eN, bY, fW, fI, eJ, dH, cO, dB, bD, aZ, aO, fZ, aJ, dE, dQ, bG, cC, fK, dL, gC, fM, eZ, eT, dU, aR, cH, dG, fY, fX, fD, cZ, aW, dV, fU, cR, eX, fP, cD, bO, eD, bB, dX, dW, cM, eL, eK, bE, cY, bA, dR, dY, eE, bL, cS, cQ, dN, bS, cW, cV, fO, bZ, eI, eM, gE, dZ, dS, dM, dD, bH, bR, bX, bW, aU, cX, aV, c2, c3, l1, l3]
    exact hnew _ (by omega) (by omega)
  | some v =>
    obtain ⟨x, rfl, hx⟩ := hk.assoc ha
    rw [ha] at l3
    simp only [aCD, Option.isSome_some] at l3
    by_cases hxa : x < at_
    .have d : decide ((x : Int) < (at_ : Int)) = true := by simp; omega
     simp (disch := omega) only [gI, jD, dJ, stepR_skip, hJ, iC, iM, iP, iL, iO, jJ, iW, gM, iG, iI, iJ, iH, gY, iN, iA, iF, iX, iV, iK, gR, iR, iQ, iE, jW, jV, kH, kC, kG, kF, kI, kE, kD, gD, Result.ok.injEq, Next.value.injEq, true_and, and_true, gX, iB, iU, iT, iS, jI, aA9, gV, gU, gW, gT, gO, gJ, gP, gN, gB, fV, if_true, if_false, aA8, aBc, aBa, aBb, aBe, aBd, aA7, aA6, fQ, fL, fA, fR, cU, eS, eH, dK, bN, fS, fC, aM, dF, aX, bM, bP, aQ, cP, cG, eQ, aF, gS, aI, cK, aT, bV, fT, cI, cJ, aD, gA, fB, aP, aG, bQ, gQ, aK, fH, dT, dP, gG, dA, eU, dI, eF, fG, fF, cF, dC, gK, dO, cB, aS, bU, bT, fN, aE, aH, aN, aY, bF, cN, bK, aA, eY, aL, cL, fJ, fE, gF, bJ, eP, eN, bY, fW, fI, eJ, dH, cO, dB, bD, aZ, aO, fZ, aJ, dE, dQ, bG, cC, fK, dL, gC, fM, eZ, eT, dU, aR, cH, dG, fY, fX, fD, cZ, aW, dV, fU, cR, eX, fP, cD, bO, eD, bB, dX, dW, cM, eL, eK, bE, cY, bA, dR, dY, eE, bL, cS, cQ, dN, bS, cW, cV, fO, bZ, eI, eM, gE, dZ, dS, dM, dD, bH, bR, bX, bW, aU, cX, aV, c2, c3, l1, l3, d]
     exact hnew _ (by omega) (by omega)
    .have d : decide ((x : Int) < (at_ : Int)) = false := by simp; omega
     simp (disch := omega) only [gI, jD, dJ, stepR_skip, hJ, iC, iM, iP, iL, iO, jJ, iW, gM, iG, iI, iJ, iH, gY, iN, iA, iF, iX, iV, iK, gR, iR, iQ, iE, jW, jV, kH, kC, kG, kF, kI, kE, kD, gD, Result.ok.injEq, Next.value.injEq, true_and, and_true, gX, iB, iU, iT, iS, jI, aA9, gV, gU, gW, gT, gO, gJ, gP, gN, gB, fV, if_true, if_false, aA8, aBc, aBa, aBb, aBe, aBd, aA7, aA6, fQ, fL, fA, fR, cU, eS, eH, dK, bN, fS, fC, aM, dF, aX, bM, bP, aQ, cP, cG, eQ, aF, gS, aI, cK, aT, bV, fT, cI, cJ, aD, gA, fB, aP, aG, bQ, gQ, aK, fH, dT, dP, gG, dA, eU, dI, eF, fG, fF, cF, dC, gK, dO, cB, aS, bU, bT, fN, aE, aH, aN, aY, bF, cN, bK, aA, eY, aL, cL, fJ, fE, gF, bJ, eP, eN, bY, fW, fI, eJ, dH, cO, dB, bD, aZ, aO, fZ, aJ, dE, dQ, bG, cC, fK, dL, gC, fM, eZ, eT, dU, aR, cH, dG, fY, fX, fD, cZ, aW, dV, fU, cR, eX, fP, cD, bO, eD, bB, dX, dW, cM, eL, eK, bE, cY, bA, dR, dY, eE, bL, cS, cQ, dN, bS, cW, cV, fO, bZ, eI, eM, gE, dZ, dS, dM, dD, bH, bR, bX, bW, aU, cX, aV, c2, c3, l1, l3, d]
     have := abR (w := w) hf3 hk hd hb hkb hx0 (R := fun w' => ∃ A', Fnd w' p mb ab bv B to tries (noted B at_ es) A' /\ Kept (at_ + 1) (noted B at_ es) A' /\ jN w w' (fun b => b = mb ∨ b = ab)) fun w' A' a b c => ⟨A', a, b, c⟩
     rwa [decide_eq_true h4] at this
 .rw [decide_eq_false h4] at hnew ⊢
  simp (disch := omega) only [gI, jD, dJ, stepR_skip, hJ, iC, iM, iP, iL, iO, jJ, iW, gM, iG, iI, iJ, iH, gY, iN, iA, iF, iX, iV, iK, gR, iR, iQ, iE, jW, jV, kH, kC, kG, kF, kI, kE, kD, gD, Result.ok.injEq, Next.value.injEq, true_and, and_true, gX, iB, iU, iT, iS, jI, aA9, gV, gU, gW, gT, gO, gJ, gP, gN, gB, fV, if_true, if_false, aA8, aBc, aBa, aBb, aBe, aBd, aA7, aA6, fQ, fL, fA, fR, cU, eS, eH, dK, bN, fS, fC, aM, dF, aX, bM, bP, aQ, cP, cG, eQ, aF, gS, aI, cK, aT, bV, fT, cI, cJ, aD, gA, fB, aP, aG, bQ, gQ, aK, fH, dT, dP, gG, dA, eU, dI, eF, fG, fF, cF, dC, gK, dO, cB, aS, bU, bT, fN, aE, aH, aN, aY, bF, cN, bK, aA, eY, aL, cL, fJ, fE, gF, bJ, eP, eN, bY, fW, fI, eJ, dH, cO, dB, bD, aZ, aO, fZ, aJ, dE, dQ, bG, cC, fK, dL, gC, fM, eZ, eT, dU, aR, cH, dG, fY, fX, fD, cZ, aW, dV, fU, cR, eX, fP, cD, bO, eD, bB, dX, dW, cM, eL, eK, bE, cY, bA, dR, dY, eE, bL, cS, cQ, dN, bS, cW, cV, fO, bZ, eI, eM, gE, dZ, dS, dM, dD, bH, bR, bX, bW, aU, cX, aV, c2, c3, l1, l3]
  exact hnew _ (by omega) (by omega)
structure Bst (B : List UInt8) (to at_ n off : Nat) : Prop where
 one : (n = 0 /\ off = 0) ∨ (0 < n /\ 1 <= off /\ off <= at_ /\ Lng B to (at_ - off) at_ n)
theorem anU {w0 w : aDs} {p mb ab : Nat} {bv : aDt} {B : List UInt8} {to tries at_ : Nat} {es : List (Rj 4 × aDt)} {A : List Int} (hf : Fnd w0 p mb ab bv B to tries es A) (hk : Kept at_ es A) (ha : at_ <= to) (ht : tries <= 1048576) (old0 : Nat) (ho : old0 < at_)
 (hx : jN w0 w mC) {k : aDt -> aDt -> aDs -> Prop}
 (hR : ∀ (n off : Nat) w', Bst B to at_ n off -> (1 <= tries -> ∀ m, Lng B to old0 at_ m -> m <= n) -> jN w0 w' mC -> k (.int .i64 n) (.int .i64 off) w') :
 vC k (.pointer (some ⟨p, 0, none⟩)) (.int .i64 at_) (.int .i64 old0) (.int .i64 0) (.int .i64 0) (.int .i64 tries) (.int .i64 0) w := by
 have hle := hf.le
 have hbig := hf.big
 have hl := hf.len
 unfold vC
 refine kO.rule (fun m t w' => ∃ old n off i : Nat, m = tries - i /\ t = (.int .i64 old, .int .i64 n, .int .i64 off, .int .i64 i) /\ i <= tries /\ old < at_ /\ Bst B to at_ n off /\ (i = 0 -> old = old0) /\ (0 < i -> ∀ m, Lng B to old0 at_ m -> m <= n) /\ n <= 131074 /\ jN w0 w' mC) tries
  ⟨old0, 0, 0, 0, rfl, rfl, by omega, ho, ⟨.inl ⟨rfl, rfl⟩⟩, fun _ => rfl, fun h => by omega, by omega, hx⟩ ?_
 rintro m t w1 ⟨old, n, off, i, rfl, rfl, hi, hold, hb, h0, h1, hn, hx⟩
 by_cases hlt : i < tries
 .have d1 : decide ((i : Int) < (tries : Int)) = true := by simp; omega
  simp (disch := omega) only [pQ, mV, qX, sQ, qV, rA, qR, pY, gI, jD, dJ, stepR_skip, hJ, iC, iM, iP, iL, iO, jJ, iW, gM, iG, iI, iJ, iH, gY, iN, iA, iF, iX, iV, iK, gR, iR, iQ, iE, jW, jV, kH, kC, kG, kF, kI, kE, kD, gD, Result.ok.injEq, Next.value.injEq, true_and, and_true, gX, iB, iU, iT, iS, jI, aA9, gV, gU, gW, gT, gO, gJ, gP, gN, gB, fV, if_true, if_false, aA8, aBc, aBa, aBb, aBe, aBd, aA7, aA6, fQ, fL, fA, fR, cU, eS, eH, dK, bN, fS, fC, aM, dF, aX, bM, bP, aQ, cP, cG, eQ, aF, gS, aI, cK, aT, bV, fT, cI, cJ, aD, gA, fB, aP, aG, bQ, gQ, aK, fH, dT, dP, gG, dA, eU, dI, eF, fG, fF, cF, dC, gK, dO, cB, aS, bU, bT, fN, aE, aH, aN, aY, bF, cN, bK, aA, eY, aL, cL, fJ, fE, gF, bJ, eP, eN, bY, fW, fI, eJ, dH, cO, dB, bD, aZ, aO, fZ, aJ, dE, dQ, bG, cC, fK, dL, gC, fM, eZ, eT, dU, aR, cH, dG, fY, fX, fD, cZ, aW, dV, fU, cR, eX, fP, cD, bO, eD, bB, dX, dW, cM, eL, eK, bE, cY, bA, dR, dY, eE, bL, cS, cQ, dN, bS, cW, cV, fO, bZ, eI, eM, gE, dZ, dS, dM, dD, bH, bR, bX, bW, aU, cX, aV, d1]
  refine (axN (hf.same hx) old at_ hold (by omega)).mono ?_
  rintro r w2 ⟨n2, rfl, hl2, x2⟩
  have hx := hx.seq x2
  have hf2 := hf.same hx
  have c3 := hf2.own.cell (off := 3)
  simp only [aA6, aA7] at c3
  have hA := hk.ah old (by omega)
  have cA := hf2.ah.cell (off := old)
  rw [aBz, aBh (by omega)] at cA
  simp only [aBJ] at cA
  have step : ∀ (n3 off3 : Nat), Bst B to at_ n3 off3 -> (∀ m, Lng B to old at_ m -> m <= n3) -> n <= n3 -> n3 <= 131074 -> mV (fun _ _ nW kK lJ _ t36 w => ∃ m', m' < tries - i /\ ∃ old n off i : Nat, m' = tries - i /\ (nW, kK, lJ, IntKind.i64 |> fun k => (match t36 with | .int _ x => Value.int k (k.wrap (x + 1)) | v => v)) = ((.int .i64 old : aDt), (.int .i64 n : aDt), (.int .i64 off : aDt), (.int .i64 i : aDt)) /\ i <= tries /\ old < at_ /\ Bst B to at_ n off /\ (i = 0 -> old = old0) /\ (0 < i -> ∀ m, Lng B to old0 at_ m -> m <= n) /\ n <= 131074 /\ jN w0 w mC) k (.pointer (some ⟨p, 0, none⟩)) (.int .i64 at_) (.int .i64 old) (.int .i64 n3) (.int .i64 off3) (.int .i64 tries) (.int .i64 i) w2 := by
   intro n3 off3 hb3 hm3 hn3 h3m
   have hbest : ∀ m, Lng B to old0 at_ m -> m <= n3 := fun m hm => by
    rcases aCl i with h | h
    .rw [<- h0 h] at hm; exact hm3 m hm
    .exact aB4 (h1 h m hm) hn3
   by_cases hneg : A[old] < 0
   .have d2 : decide (A[old] < 0) = true := by simpa using hneg
    simp (disch := omega) only [pQ, mV, qX, sQ, qV, rA, qR, pY, gI, jD, dJ, stepR_skip, hJ, iC, iM, iP, iL, iO, jJ, iW, gM, iG, iI, iJ, iH, gY, iN, iA, iF, iX, iV, iK, gR, iR, iQ, iE, jW, jV, kH, kC, kG, kF, kI, kE, kD, gD, Result.ok.injEq, Next.value.injEq, true_and, and_true, gX, iB, iU, iT, iS, jI, aA9, gV, gU, gW, gT, gO, gJ, gP, gN, gB, fV, if_true, if_false, aA8, aBc, aBa, aBb, aBe, aBd, aA7, aA6, fQ, fL, fA, fR, cU, eS, eH, dK, bN, fS, fC, aM, dF, aX, bM, bP, aQ, cP, cG, eQ, aF, gS, aI, cK, aT, bV, fT, cI, cJ, aD, gA, fB, aP, aG, bQ, gQ, aK, fH, dT, dP, gG, dA, eU, dI, eF, fG, fF, cF, dC, gK, dO, cB, aS, bU, bT, fN, aE, aH, aN, aY, bF, cN, bK, aA, eY, aL, cL, fJ, fE, gF, bJ, eP, eN, bY, fW, fI, eJ, dH, cO, dB, bD, aZ, aO, fZ, aJ, dE, dQ, bG, cC, fK, dL, gC, fM, eZ, eT, dU, aR, cH, dG, fY, fX, fD, cZ, aW, dV, fU, cR, eX, fP, cD, bO, eD, bB, dX, dW, cM, eL, eK, bE, cY, bA, dR, dY, eE, bL, cS, cQ, dN, bS, cW, cV, fO, bZ, eI, eM, gE, dZ, dS, dM, dD, bH, bR, bX, bW, aU, cX, aV, c3, cA, d2]
    exact hR _ _ _ hb3 (fun _ => hbest) hx
   .have d2 : decide (A[old] < 0) = false := by simpa using hneg
    simp (disch := omega) only [pQ, mV, qX, sQ, qV, rA, qR, pY, gI, jD, dJ, stepR_skip, hJ, iC, iM, iP, iL, iO, jJ, iW, gM, iG, iI, iJ, iH, gY, iN, iA, iF, iX, iV, iK, gR, iR, iQ, iE, jW, jV, kH, kC, kG, kF, kI, kE, kD, gD, Result.ok.injEq, Next.value.injEq, true_and, and_true, gX, iB, iU, iT, iS, jI, aA9, gV, gU, gW, gT, gO, gJ, gP, gN, gB, fV, if_true, if_false, aA8, aBc, aBa, aBb, aBe, aBd, aA7, aA6, fQ, fL, fA, fR, cU, eS, eH, dK, bN, fS, fC, aM, dF, aX, bM, bP, aQ, cP, cG, eQ, aF, gS, aI, cK, aT, bV, fT, cI, cJ, aD, gA, fB, aP, aG, bQ, gQ, aK, fH, dT, dP, gG, dA, eU, dI, eF, fG, fF, cF, dC, gK, dO, cB, aS, bU, bT, fN, aE, aH, aN, aY, bF, cN, bK, aA, eY, aL, cL, fJ, fE, gF, bJ, eP, eN, bY, fW, fI, eJ, dH, cO, dB, bD, aZ, aO, fZ, aJ, dE, dQ, bG, cC, fK, dL, gC, fM, eZ, eT, dU, aR, cH, dG, fY, fX, fD, cZ, aW, dV, fU, cR, eX, fP, cD, bO, eD, bB, dX, dW, cM, eL, eK, bE, cY, bA, dR, dY, eE, bL, cS, cQ, dN, bS, cW, cV, fO, bZ, eI, eM, gE, dZ, dS, dM, dD, bH, bR, bX, bW, aU, cX, aV, c3, cA, d2]
    have e : A[old] = ((A[old].toNat : Nat) : Int) := by omega
    refine ⟨tries - (i + 1), by omega, A[old].toNat, n3, off3, i + 1, rfl, ?_, by omega, by omega, hb3, fun h => by omega, fun _ => hbest, h3m, hx⟩
    rw [<- e]
    rfl
  by_cases hg : n < n2
  .have d2 : decide ((n : Int) < (n2 : Int)) = true := by simp; omega
   have := step n2 (at_ - old) ⟨.inr ⟨by omega, by omega, by omega, by rw [show at_ - (at_ - old) = old from by omega]; exact hl2⟩⟩ (fun m hm => hm.le_of hl2) (by omega) hl2.most
   have e1 : ((at_ : Int) - (old : Int)) = ((at_ - old : Nat) : Int) := by omega
   unfold mV at this
   simp (disch := omega) only [gI, jD, dJ, stepR_skip, hJ, iC, iM, iP, iL, iO, jJ, iW, gM, iG, iI, iJ, iH, gY, iN, iA, iF, iX, iV, iK, gR, iR, iQ, iE, jW, jV, kH, kC, kG, kF, kI, kE, kD, gD, Result.ok.injEq, Next.value.injEq, true_and, and_true, gX, iB, iU, iT, iS, jI, aA9, gV, gU, gW, gT, gO, gJ, gP, gN, gB, fV, if_true, if_false, aA8, aBc, aBa, aBb, aBe, aBd, aA7, aA6, fQ, fL, fA, fR, cU, eS, eH, dK, bN, fS, fC, aM, dF, aX, bM, bP, aQ, cP, cG, eQ, aF, gS, aI, cK, aT, bV, fT, cI, cJ, aD, gA, fB, aP, aG, bQ, gQ, aK, fH, dT, dP, gG, dA, eU, dI, eF, fG, fF, cF, dC, gK, dO, cB, aS, bU, bT, fN, aE, aH, aN, aY, bF, cN, bK, aA, eY, aL, cL, fJ, fE, gF, bJ, eP, eN, bY, fW, fI, eJ, dH, cO, dB, bD, aZ, aO, fZ, aJ, dE, dQ, bG, cC, fK, dL, gC, fM, eZ, eT, dU, aR, cH, dG, fY, fX, fD, cZ, aW, dV, fU, cR, eX, fP, cD, bO, eD, bB, dX, dW, cM, eL, eK, bE, cY, bA, dR, dY, eE, bL, cS, cQ, dN, bS, cW, cV, fO, bZ, eI, eM, gE, dZ, dS, dM, dD, bH, bR, bX, bW, aU, cX, aV, d2, e1, c3, cA]
   simp (disch := omega) only [gI, jD, dJ, stepR_skip, hJ, iC, iM, iP, iL, iO, jJ, iW, gM, iG, iI, iJ, iH, gY, iN, iA, iF, iX, iV, iK, gR, iR, iQ, iE, jW, jV, kH, kC, kG, kF, kI, kE, kD, gD, Result.ok.injEq, Next.value.injEq, true_and, and_true, gX, iB, iU, iT, iS, jI, aA9, gV, gU, gW, gT, gO, gJ, gP, gN, gB, fV, if_true, if_false, aA8, aBc, aBa, aBb, aBe, aBd, aA7, aA6, fQ, fL, fA, fR, cU, eS, eH, dK, bN, fS, fC, aM, dF, aX, bM, bP, aQ, cP, cG, eQ, aF, gS, aI, cK, aT, bV, fT, cI, cJ, aD, gA, fB, aP, aG, bQ, gQ, aK, fH, dT, dP, gG, dA, eU, dI, eF, fG, fF, cF, dC, gK, dO, cB, aS, bU, bT, fN, aE, aH, aN, aY, bF, cN, bK, aA, eY, aL, cL, fJ, fE, gF, bJ, eP, eN, bY, fW, fI, eJ, dH, cO, dB, bD, aZ, aO, fZ, aJ, dE, dQ, bG, cC, fK, dL, gC, fM, eZ, eT, dU, aR, cH, dG, fY, fX, fD, cZ, aW, dV, fU, cR, eX, fP, cD, bO, eD, bB, dX, dW, cM, eL, eK, bE, cY, bA, dR, dY, eE, bL, cS, cQ, dN, bS, cW, cV, fO, bZ, eI, eM, gE, dZ, dS, dM, dD, bH, bR, bX, bW, aU, cX, aV, c3, cA] at this
   exact this
  .have d2 : decide ((n : Int) < (n2 : Int)) = false := by simp; omega
   have := step n off hb (fun m hm => aB4 (hm.le_of hl2) (by omega)) (aBk _) hn
   unfold mV at this
   simp (disch := omega) only [gI, jD, dJ, stepR_skip, hJ, iC, iM, iP, iL, iO, jJ, iW, gM, iG, iI, iJ, iH, gY, iN, iA, iF, iX, iV, iK, gR, iR, iQ, iE, jW, jV, kH, kC, kG, kF, kI, kE, kD, gD, Result.ok.injEq, Next.value.injEq, true_and, and_true, gX, iB, iU, iT, iS, jI, aA9, gV, gU, gW, gT, gO, gJ, gP, gN, gB, fV, if_true, if_false, aA8, aBc, aBa, aBb, aBe, aBd, aA7, aA6, fQ, fL, fA, fR, cU, eS, eH, dK, bN, fS, fC, aM, dF, aX, bM, bP, aQ, cP, cG, eQ, aF, gS, aI, cK, aT, bV, fT, cI, cJ, aD, gA, fB, aP, aG, bQ, gQ, aK, fH, dT, dP, gG, dA, eU, dI, eF, fG, fF, cF, dC, gK, dO, cB, aS, bU, bT, fN, aE, aH, aN, aY, bF, cN, bK, aA, eY, aL, cL, fJ, fE, gF, bJ, eP, eN, bY, fW, fI, eJ, dH, cO, dB, bD, aZ, aO, fZ, aJ, dE, dQ, bG, cC, fK, dL, gC, fM, eZ, eT, dU, aR, cH, dG, fY, fX, fD, cZ, aW, dV, fU, cR, eX, fP, cD, bO, eD, bB, dX, dW, cM, eL, eK, bE, cY, bA, dR, dY, eE, bL, cS, cQ, dN, bS, cW, cV, fO, bZ, eI, eM, gE, dZ, dS, dM, dD, bH, bR, bX, bW, aU, cX, aV, d2, c3, cA]
   simp (disch := omega) only [gI, jD, dJ, stepR_skip, hJ, iC, iM, iP, iL, iO, jJ, iW, gM, iG, iI, iJ, iH, gY, iN, iA, iF, iX, iV, iK, gR, iR, iQ, iE, jW, jV, kH, kC, kG, kF, kI, kE, kD, gD, Result.ok.injEq, Next.value.injEq, true_and, and_true, gX, iB, iU, iT, iS, jI, aA9, gV, gU, gW, gT, gO, gJ, gP, gN, gB, fV, if_true, if_false, aA8, aBc, aBa, aBb, aBe, aBd, aA7, aA6, fQ, fL, fA, fR, cU, eS, eH, dK, bN, fS, fC, aM, dF, aX, bM, bP, aQ, cP, cG, eQ, aF, gS, aI, cK, aT, bV, fT, cI, cJ, aD, gA, fB, aP, aG, bQ, gQ, aK, fH, dT, dP, gG, dA, eU, dI, eF, fG, fF, cF, dC, gK, dO, cB, aS, bU, bT, fN, aE, aH, aN, aY, bF, cN, bK, aA, eY, aL, cL, fJ, fE, gF, bJ, eP, eN, bY, fW, fI, eJ, dH, cO, dB, bD, aZ, aO, fZ, aJ, dE, dQ, bG, cC, fK, dL, gC, fM, eZ, eT, dU, aR, cH, dG, fY, fX, fD, cZ, aW, dV, fU, cR, eX, fP, cD, bO, eD, bB, dX, dW, cM, eL, eK, bE, cY, bA, dR, dY, eE, bL, cS, cQ, dN, bS, cW, cV, fO, bZ, eI, eM, gE, dZ, dS, dM, dD, bH, bR, bX, bW, aU, cX, aV, c3, cA] at this
   exact this
 .have d1 : decide ((i : Int) < (tries : Int)) = false := by simp; omega
  simp (disch := omega) only [pQ, mV, qX, sQ, qV, rA, qR, pY, gI, jD, dJ, stepR_skip, hJ, iC, iM, iP, iL, iO, jJ, iW, gM, iG, iI, iJ, iH, gY, iN, iA, iF, iX, iV, iK, gR, iR, iQ, iE, jW, jV, kH, kC, kG, kF, kI, kE, kD, gD, Result.ok.injEq, Next.value.injEq, true_and, and_true, gX, iB, iU, iT, iS, jI, aA9, gV, gU, gW, gT, gO, gJ, gP, gN, gB, fV, if_true, if_false, aA8, aBc, aBa, aBb, aBe, aBd, aA7, aA6, fQ, fL, fA, fR, cU, eS, eH, dK, bN, fS, fC, aM, dF, aX, bM, bP, aQ, cP, cG, eQ, aF, gS, aI, cK, aT, bV, fT, cI, cJ, aD, gA, fB, aP, aG, bQ, gQ, aK, fH, dT, dP, gG, dA, eU, dI, eF, fG, fF, cF, dC, gK, dO, cB, aS, bU, bT, fN, aE, aH, aN, aY, bF, cN, bK, aA, eY, aL, cL, fJ, fE, gF, bJ, eP, eN, bY, fW, fI, eJ, dH, cO, dB, bD, aZ, aO, fZ, aJ, dE, dQ, bG, cC, fK, dL, gC, fM, eZ, eT, dU, aR, cH, dG, fY, fX, fD, cZ, aW, dV, fU, cR, eX, fP, cD, bO, eD, bB, dX, dW, cM, eL, eK, bE, cY, bA, dR, dY, eE, bL, cS, cQ, dN, bS, cW, cV, fO, bZ, eI, eM, gE, dZ, dS, dM, dD, bH, bR, bX, bW, aU, cX, aV, d1]
  exact hR _ _ _ hb (fun ht => h1 (by omega)) hx
theorem aqW {w : aDs} {p mb ab : Nat} {bv : aDt} {B : List UInt8} {to tries at_ : Nat} {es : List (Rj 4 × aDt)} {A : List Int} (hf : Fnd w p mb ab bv B to tries es A) (hk : Kept at_ es A) (ha : at_ <= to) (ht : tries <= 1048576) :
 jE pg tN #[.pointer (some ⟨p, 0, none⟩), .int .i64 at_] w (fun r w' => ∃ n off : Nat, r = .tuple #[.int .i64 n, .int .i64 off] /\ Bst B to at_ n off /\
  (at_ + 4 <= B.length -> 1 <= tries -> ∀ old : Nat, assoc (tM B at_) es = some (.int .i64 old) -> ∀ m, Lng B to old at_ m -> m <= n) /\ jN w w' mC) := by
 have hle := hf.le
 have hbig := hf.big
 refine PC ?_
 unfold Mu Bj Be Bb G4 A9
 refine (alG hf at_ (by omega)).mono ?_
 rintro r w1 ⟨rfl, x1⟩
 have hf1 := hf.same x1
 have hlen := (tM B at_).2
 simp (disch := omega) only [gI, jD, dJ, stepR_skip, hJ, iC, iM, iP, iL, iO, jJ, iW, gM, iG, iI, iJ, iH, gY, iN, iA, iF, iX, iV, iK, gR, iR, iQ, iE, jW, jV, kH, kC, kG, kF, kI, kE, kD, gD, Result.ok.injEq, Next.value.injEq, true_and, and_true, gX, iB, iU, iT, iS, jI, aA9, gV, gU, gW, gT, gO, gJ, gP, gN, gB, fV, if_true, if_false, aA8, aBc, aBa, aBb, aBe, aBd, aA7, aA6, fQ, fL, fA, fR, cU, eS, eH, dK, bN, fS, fC, aM, dF, aX, bM, bP, aQ, cP, cG, eQ, aF, gS, aI, cK, aT, bV, fT, cI, cJ, aD, gA, fB, aP, aG, bQ, gQ, aK, fH, dT, dP, gG, dA, eU, dI, eF, fG, fF, cF, dC, gK, dO, cB, aS, bU, bT, fN, aE, aH, aN, aY, bF, cN, bK, aA, eY, aL, cL, fJ, fE, gF, bJ, eP, eN, bY, fW, fI, eJ, dH, cO, dB, bD, aZ, aO, fZ, aJ, dE, dQ, bG, cC, fK, dL, gC, fM, eZ, eT, dU, aR, cH, dG, fY, fX, fD, cZ, aW, dV, fU, cR, eX, fP, cD, bO, eD, bB, dX, dW, cM, eL, eK, bE, cY, bA, dR, dY, eE, bL, cS, cQ, dN, bS, cW, cV, fO, bZ, eI, eM, gE, dZ, dS, dM, dD, bH, bR, bX, bW, aU, cX, aV]
 refine Pw fun w2 o2 x2 s2 => ?_
 refine Ie o2 (by simp [hlen]) (F6 _) (by simp) fun w3 o3 x3 s3 => ?_
 have e3 : kV [.int .u8 0, .int .u8 0, .int .u8 0, .int .u8 0] 0 ((tM B at_).1.map nR) = (tM B at_).1.map nR := by
  generalize (tM B at_).1.map nR = l, (show ((tM B at_).1.map nR).length = 4 by simp [hlen]) = hl
  match l, hl with
  | [a, b, c, d], _ => rfl
 simp only [List.toList_toArray] at o3
 rw [e3] at o3
 have x3 : jN w w3 mC := x1.seq (x2.new x3 (aBk _))
 by_cases h4 : at_ + 4 <= B.length
 .rw [decide_eq_true h4]
  have hf3 := (hf.same x3).dr
  have hkb := oC o3
  have c2 := hf3.own.cell (off := 2)
  have c4 := hf3.own.cell (off := 4)
  simp only [aA6, aA7] at c2 c4
  have l1 := NI (off := 0) hkb (by simp [hlen])
  have l2 : (((tM B at_).1.map nR).drop 0).take 4 = (tM B at_).1.map nR := by rw [aBB, aBp (by simp [hlen])]
  rw [l2] at l1
  have l3 := IY hf3.map (tM B at_)
  unfold WS at l3
  cases has : En.assoc (tM B at_) es with
  | none =>
    rw [has] at l3
    simp only [Option.getD_none, Option.isSome_none] at l3
    simp (disch := omega) only [gI, jD, dJ, stepR_skip, hJ, iC, iM, iP, iL, iO, jJ, iW, gM, iG, iI, iJ, iH, gY, iN, iA, iF, iX, iV, iK, gR, iR, iQ, iE, jW, jV, kH, kC, kG, kF, kI, kE, kD, gD, Result.ok.injEq, Next.value.injEq, true_and, and_true, gX, iB, iU, iT, iS, jI, aA9, gV, gU, gW, gT, gO, gJ, gP, gN, gB, fV, if_true, if_false, aA8, aBc, aBa, aBb, aBe, aBd, aA7, aA6, fQ, fL, fA, fR, cU, eS, eH, dK, bN, fS, fC, aM, dF, aX, bM, bP, aQ, cP, cG, eQ, aF, gS, aI, cK, aT, bV, fT, cI, cJ, aD, gA, fB, aP, aG, bQ, gQ, aK, fH, dT, dP, gG, dA, eU, dI, eF, fG, fF, cF, dC, gK, dO, cB, aS, bU, bT, fN, aE, aH, aN, aY, bF, cN, bK, aA, eY, aL, cL, fJ, fE, gF, bJ, eP, eN, bY, fW, fI, eJ, dH, cO, dB, bD, aZ, aO, fZ, aJ, dE, dQ, bG, cC, fK, dL, gC, fM, eZ, eT, dU, aR, cH, dG, fY, fX, fD, cZ, aW, dV, fU, cR, eX, fP, cD, bO, eD, bB, dX, dW, cM, eL, eK, bE, cY, bA, dR, dY, eE, bL, cS, cQ, dN, bS, cW, cV, fO, bZ, eI, eM, gE, dZ, dS, dM, dD, bH, bR, bX, bW, aU, cX, aV, c2, l1, l3]
    exact ⟨0, 0, rfl, ⟨.inl ⟨rfl, rfl⟩⟩, (by intro _ _ old h; cases h), x3.seq (jN.dr _ _)⟩
  | some v =>
    obtain ⟨x, rfl, hxa⟩ := hk.assoc has
    rw [has] at l3
    simp only [aCD, Option.isSome_some] at l3
    simp (disch := omega) only [gI, jD, dJ, stepR_skip, hJ, iC, iM, iP, iL, iO, jJ, iW, gM, iG, iI, iJ, iH, gY, iN, iA, iF, iX, iV, iK, gR, iR, iQ, iE, jW, jV, kH, kC, kG, kF, kI, kE, kD, gD, Result.ok.injEq, Next.value.injEq, true_and, and_true, gX, iB, iU, iT, iS, jI, aA9, gV, gU, gW, gT, gO, gJ, gP, gN, gB, fV, if_true, if_false, aA8, aBc, aBa, aBb, aBe, aBd, aA7, aA6, fQ, fL, fA, fR, cU, eS, eH, dK, bN, fS, fC, aM, dF, aX, bM, bP, aQ, cP, cG, eQ, aF, gS, aI, cK, aT, bV, fT, cI, cJ, aD, gA, fB, aP, aG, bQ, gQ, aK, fH, dT, dP, gG, dA, eU, dI, eF, fG, fF, cF, dC, gK, dO, cB, aS, bU, bT, fN, aE, aH, aN, aY, bF, cN, bK, aA, eY, aL, cL, fJ, fE, gF, bJ, eP, eN, bY, fW, fI, eJ, dH, cO, dB, bD, aZ, aO, fZ, aJ, dE, dQ, bG, cC, fK, dL, gC, fM, eZ, eT, dU, aR, cH, dG, fY, fX, fD, cZ, aW, dV, fU, cR, eX, fP, cD, bO, eD, bB, dX, dW, cM, eL, eK, bE, cY, bA, dR, dY, eE, bL, cS, cQ, dN, bS, cW, cV, fO, bZ, eI, eM, gE, dZ, dS, dM, dD, bH, bR, bX, bW, aU, cX, aV, c2, l1, l3]
    unfold Bi Bq Bl
    simp (disch := omega) only [gI, jD, dJ, stepR_skip, hJ, iC, iM, iP, iL, iO, jJ, iW, gM, iG, iI, iJ, iH, gY, iN, iA, iF, iX, iV, iK, gR, iR, iQ, iE, jW, jV, kH, kC, kG, kF, kI, kE, kD, gD, Result.ok.injEq, Next.value.injEq, true_and, and_true, gX, iB, iU, iT, iS, jI, aA9, gV, gU, gW, gT, gO, gJ, gP, gN, gB, fV, if_true, if_false, aA8, aBc, aBa, aBb, aBe, aBd, aA7, aA6, fQ, fL, fA, fR, cU, eS, eH, dK, bN, fS, fC, aM, dF, aX, bM, bP, aQ, cP, cG, eQ, aF, gS, aI, cK, aT, bV, fT, cI, cJ, aD, gA, fB, aP, aG, bQ, gQ, aK, fH, dT, dP, gG, dA, eU, dI, eF, fG, fF, cF, dC, gK, dO, cB, aS, bU, bT, fN, aE, aH, aN, aY, bF, cN, bK, aA, eY, aL, cL, fJ, fE, gF, bJ, eP, eN, bY, fW, fI, eJ, dH, cO, dB, bD, aZ, aO, fZ, aJ, dE, dQ, bG, cC, fK, dL, gC, fM, eZ, eT, dU, aR, cH, dG, fY, fX, fD, cZ, aW, dV, fU, cR, eX, fP, cD, bO, eD, bB, dX, dW, cM, eL, eK, bE, cY, bA, dR, dY, eE, bL, cS, cQ, dN, bS, cW, cV, fO, bZ, eI, eM, gE, dZ, dS, dM, dD, bH, bR, bX, bW, aU, cX, aV, c4]
    refine anU hf hk ha ht x hxa (x3.seq (jN.dr _ _)) fun n off w' hb hm hx => ?_
    exact ⟨n, off, rfl, hb, fun _ ht old h m hl => (by cases h; exact hm ht m hl), hx⟩
 .rw [decide_eq_false h4]
  simp (disch := omega) only [gI, jD, dJ, stepR_skip, hJ, iC, iM, iP, iL, iO, jJ, iW, gM, iG, iI, iJ, iH, gY, iN, iA, iF, iX, iV, iK, gR, iR, iQ, iE, jW, jV, kH, kC, kG, kF, kI, kE, kD, gD, Result.ok.injEq, Next.value.injEq, true_and, and_true, gX, iB, iU, iT, iS, jI, aA9, gV, gU, gW, gT, gO, gJ, gP, gN, gB, fV, if_true, if_false, aA8, aBc, aBa, aBb, aBe, aBd, aA7, aA6, fQ, fL, fA, fR, cU, eS, eH, dK, bN, fS, fC, aM, dF, aX, bM, bP, aQ, cP, cG, eQ, aF, gS, aI, cK, aT, bV, fT, cI, cJ, aD, gA, fB, aP, aG, bQ, gQ, aK, fH, dT, dP, gG, dA, eU, dI, eF, fG, fF, cF, dC, gK, dO, cB, aS, bU, bT, fN, aE, aH, aN, aY, bF, cN, bK, aA, eY, aL, cL, fJ, fE, gF, bJ, eP, eN, bY, fW, fI, eJ, dH, cO, dB, bD, aZ, aO, fZ, aJ, dE, dQ, bG, cC, fK, dL, gC, fM, eZ, eT, dU, aR, cH, dG, fY, fX, fD, cZ, aW, dV, fU, cR, eX, fP, cD, bO, eD, bB, dX, dW, cM, eL, eK, bE, cY, bA, dR, dY, eE, bL, cS, cQ, dN, bS, cW, cV, fO, bZ, eI, eM, gE, dZ, dS, dM, dD, bH, bR, bX, bW, aU, cX, aV]
  exact ⟨0, 0, rfl, ⟨.inl ⟨rfl, rfl⟩⟩, fun h => absurd h h4, x3⟩
abbrev Sq := Nat × Nat × Nat
def aiX (B : List UInt8) (to a : Nat) (s : Sq) : Prop := a + s.1 + s.2.1 <= to /\ 3 <= s.2.1 /\ s.2.1 <= 131074 /\ 1 <= s.2.2 /\ s.2.2 <= a + s.1 /\ ∀ k, k < s.2.1 -> B[a + s.1 + k]? = B[a + s.1 + k - s.2.2]?
def ahI (B : List UInt8) (to : Nat) : Nat -> List Sq -> Nat -> Prop
 | a, [], b => a = b
 | a, s :: r, b => aiX B to a s /\ ahI B to (a + s.1 + s.2.1) r b
def flat : List Sq -> List aDt
 | [] => []
 | s :: r => .int .u32 s.1 :: .int .u32 s.2.1 :: .int .u32 s.2.2 :: flat r
theorem acN (s : Sq) : ∀ L : List Sq, flat (L ++ [s]) = flat L ++ [.int .u32 s.1, .int .u32 s.2.1, .int .u32 s.2.2]
 | [] => rfl
 | x :: r => by simp [flat, acN s r]
theorem abU {B : List UInt8} {to : Nat} {s : Sq} : ∀ {L : List Sq} {a b : Nat}, ahI B to a L b -> aiX B to b s -> ahI B to a (L ++ [s]) (b + s.1 + s.2.1)
 | [], a, b, h, hs => by obtain rfl : a = b := h; exact ⟨hs, rfl⟩
 | x :: r, a, b, h, hs => ⟨h.1, abU h.2 hs⟩
theorem Zs {B : List UInt8} {to : Nat} : ∀ {L : List Sq} {a b : Nat}, ahI B to a L b -> a <= to -> a + 3 * L.length <= b /\ b <= to
 | [], a, b, h, hs => by obtain rfl : a = b := h; simp; omega
 | x :: r, a, b, h, hs => by
   have h1 := h.1
   unfold aiX at h1
   have := Zs h.2 h1.1
   simp only [aBu]
   omega
structure Dst (w0 : aDs) (p mb ab base : Nat) (bv : aDt) : Prop where
 ne : p ≠ mb /\ p ≠ ab /\ mb ≠ ab
 lo : w0.heap.size <= p /\ w0.heap.size <= mb /\ w0.heap.size <= ab
 hi : p < base /\ mb < base /\ ab < base
 bo : ¬ Mz bv (fun b => w0.heap.size <= b)
structure Fst (w0 w : aDs) (p mb ab base : Nat) (bv : aDt) (B : List UInt8) (to tries : Nat) (es : List (Rj 4 × aDt)) (A : List Int) (out : aDt) (L : List Sq) (a0 begun : Nat) : Prop where
 f : Fnd w p mb ab bv B to tries es A
 o : yW w base 3 out L.length (flat L)
 pl : ahI B to a0 L begun
 x : jN w0 w mC
 hs : base <= w.heap.size
section
variable {w0 w : aDs} {p mb ab base : Nat} {bv : aDt} {B : List UInt8} {to tries : Nat} {es : List (Rj 4 × aDt)} {A : List Int} {out : aDt} {L : List Sq} {a0 begun : Nat}
theorem Fst.same {w' : aDs} (h : Fst w0 w p mb ab base bv B to tries es A out L a0 begun) (hx : jN w w' mC) : Fst w0 w' p mb ab base bv B to tries es A out L a0 begun :=
 ⟨h.f.same hx, h.o.ext hx (fun _ _ h => h), h.pl, h.x.seq hx, aB4 h.hs hx.size⟩
theorem Zu (D : Dst w0 p mb ab base bv) (h : Fst w0 w p mb ab base bv B to tries es A out L a0 begun) {j : Nat} (hk : Kept (j + 1) es A) (hj : j < to) :
 jE pg pG #[.pointer (some ⟨p, 0, none⟩), .int .i64 j] w (fun _ w' => ∃ A', Fst w0 w' p mb ab base bv B to tries (noted B j es) A' out L a0 begun /\ Kept (j + 1) (noted B j es) A') := by
 have d1 := D.lo
 have d2 := D.hi
 refine (ayA h.f hk D.ne (fun hh => D.bo (DO hh fun b hb => by rcases hb with rfl | rfl <;> omega)) hj).mono ?_
 rintro r w' ⟨A', f, k, x⟩
 refine ⟨A', ⟨f, h.o.ext x (fun b hb hh => by omega), h.pl, h.x.trans x (fun b hb hh => by omega), aB4 h.hs x.size⟩, k⟩
theorem asH (D : Dst w0 p mb ab base bv) {at_ e q : Nat} (h : Fst w0 w p mb ab base bv B to tries es A out L a0 begun) (hk : Kept q es A) (hq : q <= at_ + 1) (hlt : at_ < e) (he : e <= to) (hb : B.length <= 4294967295)
 {t2 lv : aDt} {k : aDt -> aDt -> aDt -> aDt -> aDt -> aDs -> Prop}
 (hR : ∀ w' es' A', Fst w0 w' p mb ab base bv B to tries es' A' out L a0 begun -> Kept e es' A' -> k t2 lv (.pointer (some ⟨p, 0, none⟩)) out (.int .i64 e) w') :
 Ij k t2 lv (.pointer (some ⟨p, 0, none⟩)) out (.int .i64 at_) (.int .i64 e) w := by
 have hle := h.f.le
 unfold Ij
 refine kO.rule (fun m t w' => ∃ (j q : Nat) (es' : List (Rj 4 × aDt)) (A' : List Int), m = e - j /\ t = .int .i64 j /\ at_ <= j /\ j <= e /\ Fst w0 w' p mb ab base bv B to tries es' A' out L a0 begun /\ Kept q es' A' /\ q <= j + 1 /\ (at_ < j -> q <= j)) (e - at_)
  ⟨at_, q, es, A, rfl, rfl, aBk _, by omega, h, hk, hq, fun h => by omega⟩ ?_
 rintro m t w1 ⟨j, q, es1, A1, rfl, rfl, h1, h2, h3, h4, h5, h6⟩
 by_cases hj : j < e
 .have d1 : decide ((j : Int) < (e : Int)) = true := by simp; omega
  simp (disch := omega) only [DP, gI, jD, dJ, stepR_skip, hJ, iC, iM, iP, iL, iO, jJ, iW, gM, iG, iI, iJ, iH, gY, iN, iA, iF, iX, iV, iK, gR, iR, iQ, iE, jW, jV, kH, kC, kG, kF, kI, kE, kD, gD, Result.ok.injEq, Next.value.injEq, true_and, and_true, gX, iB, iU, iT, iS, jI, aA9, gV, gU, gW, gT, gO, gJ, gP, gN, gB, fV, if_true, if_false, aA8, aBc, aBa, aBb, aBe, aBd, aA7, aA6, fQ, fL, fA, fR, cU, eS, eH, dK, bN, fS, fC, aM, dF, aX, bM, bP, aQ, cP, cG, eQ, aF, gS, aI, cK, aT, bV, fT, cI, cJ, aD, gA, fB, aP, aG, bQ, gQ, aK, fH, dT, dP, gG, dA, eU, dI, eF, fG, fF, cF, dC, gK, dO, cB, aS, bU, bT, fN, aE, aH, aN, aY, bF, cN, bK, aA, eY, aL, cL, fJ, fE, gF, bJ, eP, eN, bY, fW, fI, eJ, dH, cO, dB, bD, aZ, aO, fZ, aJ, dE, dQ, bG, cC, fK, dL, gC, fM, eZ, eT, dU, aR, cH, dG, fY, fX, fD, cZ, aW, dV, fU, cR, eX, fP, cD, bO, eD, bB, dX, dW, cM, eL, eK, bE, cY, bA, dR, dY, eE, bL, cS, cQ, dN, bS, cW, cV, fO, bZ, eI, eM, gE, dZ, dS, dM, dD, bH, bR, bX, bW, aU, cX, aV, d1]
  refine (Zu D h3 (h4.mono h5) (by omega)).mono ?_
  rintro r w2 ⟨A2, f2, k2⟩
  exact ⟨e - (j + 1), by omega, j + 1, j + 1, _, A2, rfl, rfl, by omega, by omega, f2, k2, by omega, fun _ => aBk _⟩
 .have d1 : decide ((j : Int) < (e : Int)) = false := by simp; omega
  have : j = e := by omega
  subst this
  simp (disch := omega) only [DP, gI, jD, dJ, stepR_skip, hJ, iC, iM, iP, iL, iO, jJ, iW, gM, iG, iI, iJ, iH, gY, iN, iA, iF, iX, iV, iK, gR, iR, iQ, iE, jW, jV, kH, kC, kG, kF, kI, kE, kD, gD, Result.ok.injEq, Next.value.injEq, true_and, and_true, gX, iB, iU, iT, iS, jI, aA9, gV, gU, gW, gT, gO, gJ, gP, gN, gB, fV, if_true, if_false, aA8, aBc, aBa, aBb, aBe, aBd, aA7, aA6, fQ, fL, fA, fR, cU, eS, eH, dK, bN, fS, fC, aM, dF, aX, bM, bP, aQ, cP, cG, eQ, aF, gS, aI, cK, aT, bV, fT, cI, cJ, aD, gA, fB, aP, aG, bQ, gQ, aK, fH, dT, dP, gG, dA, eU, dI, eF, fG, fF, cF, dC, gK, dO, cB, aS, bU, bT, fN, aE, aH, aN, aY, bF, cN, bK, aA, eY, aL, cL, fJ, fE, gF, bJ, eP, eN, bY, fW, fI, eJ, dH, cO, dB, bD, aZ, aO, fZ, aJ, dE, dQ, bG, cC, fK, dL, gC, fM, eZ, eT, dU, aR, cH, dG, fY, fX, fD, cZ, aW, dV, fU, cR, eX, fP, cD, bO, eD, bB, dX, dW, cM, eL, eK, bE, cY, bA, dR, dY, eE, bL, cS, cQ, dN, bS, cW, cV, fO, bZ, eI, eM, gE, dZ, dS, dM, dD, bH, bR, bX, bW, aU, cX, aV, d1]
  exact hR _ _ _ h3 (h4.mono (h6 hlt))
theorem atZ (D : Dst w0 p mb ab base bv) {at_ n off q : Nat} (h : Fst w0 w p mb ab base bv B to tries es A out L a0 begun) (h0 : a0 <= to) (hk : Kept q es A) (hq : q <= at_ + 1) (hbe : begun <= at_) (hbst : Bst B to at_ n off) (hn : 4 <= n) (hb : B.length <= 4294967295)
 {t2 lv : aDt} {k : aDt -> aDt -> aDt -> aDt -> aDt -> aDt -> aDs -> Prop}
 (hR : ∀ w' es' A' out' s, Fst w0 w' p mb ab base bv B to tries es' A' out' (L ++ [s]) a0 (at_ + n) -> at_ + n <= to -> Kept (at_ + n) es' A' -> k t2 lv (.pointer (some ⟨p, 0, none⟩)) out' (.int .i64 ((at_ + n : Nat) : Int)) (.int .i64 ((at_ + n : Nat) : Int)) w') :
 Cc k t2 lv (.pointer (some ⟨p, 0, none⟩)) out (.int .i64 begun) (.int .i64 at_) (.int .i64 n) (.int .i64 off) w := by
 have hle := h.f.le
 rcases hbst.one with ⟨rfl, rfl⟩ | ⟨hn0, ho1, ho2, hl⟩
 .omega
 have hend : at_ + n <= to := by rcases hl.le with h | h <;> omega
 have hm := hl.most
 have hpl := Zs h.pl h0
 unfold Cc NH
 have e1 : (at_ : Int) - (begun : Int) = ((at_ - begun : Nat) : Int) := by omega
 simp (disch := omega) only [gI, jD, dJ, stepR_skip, hJ, iC, iM, iP, iL, iO, jJ, iW, gM, iG, iI, iJ, iH, gY, iN, iA, iF, iX, iV, iK, gR, iR, iQ, iE, jW, jV, kH, kC, kG, kF, kI, kE, kD, gD, Result.ok.injEq, Next.value.injEq, true_and, and_true, gX, iB, iU, iT, iS, jI, aA9, gV, gU, gW, gT, gO, gJ, gP, gN, gB, fV, if_true, if_false, aA8, aBc, aBa, aBb, aBe, aBd, aA7, aA6, fQ, fL, fA, fR, cU, eS, eH, dK, bN, fS, fC, aM, dF, aX, bM, bP, aQ, cP, cG, eQ, aF, gS, aI, cK, aT, bV, fT, cI, cJ, aD, gA, fB, aP, aG, bQ, gQ, aK, fH, dT, dP, gG, dA, eU, dI, eF, fG, fF, cF, dC, gK, dO, cB, aS, bU, bT, fN, aE, aH, aN, aY, bF, cN, bK, aA, eY, aL, cL, fJ, fE, gF, bJ, eP, eN, bY, fW, fI, eJ, dH, cO, dB, bD, aZ, aO, fZ, aJ, dE, dQ, bG, cC, fK, dL, gC, fM, eZ, eT, dU, aR, cH, dG, fY, fX, fD, cZ, aW, dV, fU, cR, eX, fP, cD, bO, eD, bB, dX, dW, cM, eL, eK, bE, cY, bA, dR, dY, eE, bL, cS, cQ, dN, bS, cW, cV, fO, bZ, eI, eM, gE, dZ, dS, dM, dD, bH, bR, bX, bW, aU, cX, aV, e1]
 refine Vn (cells := #[.int .u32 ((at_ - begun : Nat) : Int), .int .u32 n, .int .u32 off]) (by decide) (by decide) (by kernel_rfl) fun w2 o2 x2 s2 => ?_
 refine Ex (h.o.ext x2 (fun _ _ h => h)) (o2.cl (off := 0) (l := [.int .u32 ((at_ - begun : Nat) : Int), .int .u32 n, .int .u32 off]) rfl (fun i hi => by rw [aBc])) (by simp [one]) (aB4 h.hs x2.size) (by omega) fun v3 w3 o3 x3 => ?_
 unfold Nr Nk MR Ng
 have e2 : (at_ : Int) + (n : Int) = ((at_ + n : Nat) : Int) := by omega
 simp (disch := omega) only [gI, jD, dJ, stepR_skip, hJ, iC, iM, iP, iL, iO, jJ, iW, gM, iG, iI, iJ, iH, gY, iN, iA, iF, iX, iV, iK, gR, iR, iQ, iE, jW, jV, kH, kC, kG, kF, kI, kE, kD, gD, Result.ok.injEq, Next.value.injEq, true_and, and_true, gX, iB, iU, iT, iS, jI, aA9, gV, gU, gW, gT, gO, gJ, gP, gN, gB, fV, if_true, if_false, aA8, aBc, aBa, aBb, aBe, aBd, aA7, aA6, fQ, fL, fA, fR, cU, eS, eH, dK, bN, fS, fC, aM, dF, aX, bM, bP, aQ, cP, cG, eQ, aF, gS, aI, cK, aT, bV, fT, cI, cJ, aD, gA, fB, aP, aG, bQ, gQ, aK, fH, dT, dP, gG, dA, eU, dI, eF, fG, fF, cF, dC, gK, dO, cB, aS, bU, bT, fN, aE, aH, aN, aY, bF, cN, bK, aA, eY, aL, cL, fJ, fE, gF, bJ, eP, eN, bY, fW, fI, eJ, dH, cO, dB, bD, aZ, aO, fZ, aJ, dE, dQ, bG, cC, fK, dL, gC, fM, eZ, eT, dU, aR, cH, dG, fY, fX, fD, cZ, aW, dV, fU, cR, eX, fP, cD, bO, eD, bB, dX, dW, cM, eL, eK, bE, cY, bA, dR, dY, eE, bL, cS, cQ, dN, bS, cW, cV, fO, bZ, eI, eM, gE, dZ, dS, dM, dD, bH, bR, bX, bW, aU, cX, aV, e2]
 have hi := D.hi
 have hlo := D.lo
 have bo : ¬ Mz bv (fun b => base <= b) := fun hh => D.bo (DO hh fun b hb => by omega)
 have f3 : Fnd w3 p mb ab bv B to tries es A := (h.f.same x2).ext x3 (by omega) (by omega) (by omega) bo
 have hs : ahI B to a0 (L ++ [(at_ - begun, n, off)]) (at_ + n) := by
  have := abU (s := (at_ - begun, n, off)) h.pl ⟨by simp only; omega, by simp only; omega, hm, ho1, by simp only; omega, fun k hk => by
   simp only at hk ⊢
   rw [show begun + (at_ - begun) + k = at_ + k from by omega, show at_ + k - off = at_ - off + k from by omega]
   exact (hl.same k hk).symm⟩
  simp only at this
  rwa [show begun + (at_ - begun) + n = at_ + n from by omega] at this
 have F3 : Fst w0 w3 p mb ab base bv B to tries es A v3 (L ++ [(at_ - begun, n, off)]) a0 (at_ + n) :=
  ⟨f3, by rw [acN, aBg]; exact o3, hs, (h.x.seq x2).trans x3 (fun b hb hh => by omega), aB4 (aB4 h.hs x2.size) x3.size⟩
 refine asH D F3 hk hq (by omega) hend hb fun w' es' A' f k => ?_
 unfold Ip
 exact hR _ _ _ _ _ f hend k
end
def apH (B : List UInt8) (a0 to : Nat) : Prop := (∃ c, ∀ i, i < B.length -> B[i]? = some c) /\ a0 = 0 /\ to = B.length /\ 8 <= to
def Ex8 (B : List UInt8) (a0 to at_ : Nat) (es : List (Rj 4 × aDt)) (L : List Sq) : Prop :=
 apH B a0 to -> (at_ = 0 /\ es = []) ∨ (at_ = 1 /\ assoc (tM B 0) es = some (.int .i64 (0 : Nat))) ∨ L ≠ []
theorem atH {B : List UInt8} {a0 to : Nat} (h : apH B a0 to) : tM B 1 = tM B 0 := by
 obtain ⟨⟨c, hc⟩, _, h1, h2⟩ := h
 unfold tM
 rw [dif_pos (by omega), dif_pos (by omega)]
 apply Subtype.ext
 simp only
 apply aCq
 intro i
 by_cases hi : i < 4
 .rw [aBW hi, aBW hi, aCR, aCR, hc _ (by omega), hc _ (by omega)]
 .rw [aBs (by simp; omega), aBs (by simp; omega)]
theorem asN {B : List UInt8} {a0 to : Nat} (h : apH B a0 to) : Lng B to 0 1 (min (to - 1) 131074) := by
 obtain ⟨⟨c, hc⟩, _, h1, h2⟩ := h
 refine ⟨.inl (by omega), by omega, fun j hj => by rw [hc _ (by omega), hc _ (by omega)], ?_⟩
 by_cases hh : to - 1 <= 131074
 .exact .inr (.inl (by omega))
 .exact .inl (by omega)
theorem ayQ {w0 w : aDs} {p mb ab base : Nat} {bv : aDt} {B : List UInt8} {to lvl : Nat} {es : List (Rj 4 × aDt)} {A : List Int} {a0 : Nat} (hlv : lvl <= 9) (h0 : a0 <= to) (hb : B.length <= 4294967295)
 (D : Dst w0 p mb ab base bv) (h : Fst w0 w p mb ab base bv B to (2 ^ lvl) es A (.slice none 0 0) [] a0 a0) (hk : Kept a0 es A) (hE : Ex8 B a0 to a0 es [])
 {k : aDt -> aDt -> aDt -> aDs -> Prop}
 (hR : ∀ w' out L b, yW w' base 3 out L.length (flat L) -> ahI B to a0 L b -> b <= to -> jN w0 w' mC -> (apH B a0 to -> L ≠ []) -> k (.int .i64 to) out (.int .i64 b) w') :
 FN k (.int .i64 to) (.int .i64 lvl) (.pointer (some ⟨p, 0, none⟩)) (.slice none 0 0) (.int .i64 a0) (.int .i64 a0) w := by
 have htr1 : 1 <= 2 ^ lvl := Nat.one_le_two_pow
 have htr2 : 2 ^ lvl <= 1048576 := aB4 (aBw (by omega) hlv) (by decide)
 have hle := h.f.le
 unfold FN
 refine kO.rule (fun m t w' => ∃ (out : aDt) (L : List Sq) (begun at_ : Nat) (es : List (Rj 4 × aDt)) (A : List Int), m = to - at_ /\ t = (out, .int .i64 begun, .int .i64 at_) /\ begun <= at_ /\ at_ <= to /\ Fst w0 w' p mb ab base bv B to (2 ^ lvl) es A out L a0 begun /\ Kept at_ es A /\ Ex8 B a0 to at_ es L) (to - a0)
  ⟨_, [], a0, a0, es, A, rfl, rfl, aBk _, h0, h, hk, hE⟩ ?_
 clear h hk hE
 rintro m t w1 ⟨out, L, begun, at_, es, A, rfl, rfl, hbe, hat, h, hk, hE⟩
 have hpl := Zs h.pl h0
 by_cases hlt : at_ < to
 .have d1 : decide ((at_ : Int) < (to : Int)) = true := by simp; omega
  unfold Ch FJ J3 Td Kh
  simp (disch := omega) only [gI, jD, dJ, stepR_skip, hJ, iC, iM, iP, iL, iO, jJ, iW, gM, iG, iI, iJ, iH, gY, iN, iA, iF, iX, iV, iK, gR, iR, iQ, iE, jW, jV, kH, kC, kG, kF, kI, kE, kD, gD, Result.ok.injEq, Next.value.injEq, true_and, and_true, gX, iB, iU, iT, iS, jI, aA9, gV, gU, gW, gT, gO, gJ, gP, gN, gB, fV, if_true, if_false, aA8, aBc, aBa, aBb, aBe, aBd, aA7, aA6, fQ, fL, fA, fR, cU, eS, eH, dK, bN, fS, fC, aM, dF, aX, bM, bP, aQ, cP, cG, eQ, aF, gS, aI, cK, aT, bV, fT, cI, cJ, aD, gA, fB, aP, aG, bQ, gQ, aK, fH, dT, dP, gG, dA, eU, dI, eF, fG, fF, cF, dC, gK, dO, cB, aS, bU, bT, fN, aE, aH, aN, aY, bF, cN, bK, aA, eY, aL, cL, fJ, fE, gF, bJ, eP, eN, bY, fW, fI, eJ, dH, cO, dB, bD, aZ, aO, fZ, aJ, dE, dQ, bG, cC, fK, dL, gC, fM, eZ, eT, dU, aR, cH, dG, fY, fX, fD, cZ, aW, dV, fU, cR, eX, fP, cD, bO, eD, bB, dX, dW, cM, eL, eK, bE, cY, bA, dR, dY, eE, bL, cS, cQ, dN, bS, cW, cV, fO, bZ, eI, eM, gE, dZ, dS, dM, dD, bH, bR, bX, bW, aU, cX, aV, d1]
  refine (aqW h.f hk hat htr2).mono ?_
  rintro r w2 ⟨n, off, rfl, hbst, hlong, x2⟩
  have h2 := h.same x2
  have fin : ∀ {w3 : aDs} {es3 : List (Rj 4 × aDt)} {A3 : List Int} {at3 n3 off3 : Nat}, Fst w0 w3 p mb ab base bv B to (2 ^ lvl) es3 A3 out L a0 begun -> Kept at3 es3 A3 ∨ Kept (at3 + 1) es3 A3 -> begun <= at3 -> at_ <= at3 -> Bst B to at3 n3 off3 -> 4 <= n3 →
      Cc (fun _ _ _ jX jU lD w => ∃ m, m < to - at_ /\ ∃ (out : aDt) (L : List Sq) (begun at_ : Nat) (es : List (Rj 4 × aDt)) (A : List Int), m = to - at_ /\ (jX, jU, lD) = (out, .int .i64 begun, .int .i64 at_) /\ begun <= at_ /\ at_ <= to /\ Fst w0 w p mb ab base bv B to (2 ^ lvl) es A out L a0 begun /\ Kept at_ es A /\ Ex8 B a0 to at_ es L)
       (.int .i64 to) (.int .i64 lvl) (.pointer (some ⟨p, 0, none⟩)) out (.int .i64 begun) (.int .i64 at3) (.int .i64 n3) (.int .i64 off3) w3 := by
   intro w3 es3 A3 at3 n3 off3 F K hb3 ha3 hbst3 hn3
   have K : Kept (at3 + 1) es3 A3 := by
    rcases K with K | K
    .exact K.mono (by omega)
    .exact K
   refine atZ D F h0 K (aBk _) hb3 hbst3 hn3 hb fun w' es' A' out' s F' hto K' => ?_
   exact ⟨to - (at3 + n3), by omega, out', L ++ [s], at3 + n3, at3 + n3, es', A', rfl, rfl, aBk _, hto, F', K', fun _ => .inr (.inr (by simp))⟩
  by_cases hn : n < 4
  .have d2 : decide ((n : Int) < 4) = true := by simp; omega
   simp (disch := omega) only [gI, jD, dJ, stepR_skip, hJ, iC, iM, iP, iL, iO, jJ, iW, gM, iG, iI, iJ, iH, gY, iN, iA, iF, iX, iV, iK, gR, iR, iQ, iE, jW, jV, kH, kC, kG, kF, kI, kE, kD, gD, Result.ok.injEq, Next.value.injEq, true_and, and_true, gX, iB, iU, iT, iS, jI, aA9, gV, gU, gW, gT, gO, gJ, gP, gN, gB, fV, if_true, if_false, aA8, aBc, aBa, aBb, aBe, aBd, aA7, aA6, fQ, fL, fA, fR, cU, eS, eH, dK, bN, fS, fC, aM, dF, aX, bM, bP, aQ, cP, cG, eQ, aF, gS, aI, cK, aT, bV, fT, cI, cJ, aD, gA, fB, aP, aG, bQ, gQ, aK, fH, dT, dP, gG, dA, eU, dI, eF, fG, fF, cF, dC, gK, dO, cB, aS, bU, bT, fN, aE, aH, aN, aY, bF, cN, bK, aA, eY, aL, cL, fJ, fE, gF, bJ, eP, eN, bY, fW, fI, eJ, dH, cO, dB, bD, aZ, aO, fZ, aJ, dE, dQ, bG, cC, fK, dL, gC, fM, eZ, eT, dU, aR, cH, dG, fY, fX, fD, cZ, aW, dV, fU, cR, eX, fP, cD, bO, eD, bB, dX, dW, cM, eL, eK, bE, cY, bA, dR, dY, eE, bL, cS, cQ, dN, bS, cW, cV, fO, bZ, eI, eM, gE, dZ, dS, dM, dD, bH, bR, bX, bW, aU, cX, aV, d2]
   refine (Zu D h2 (hk.mono (by omega)) hlt).mono ?_
   rintro r w3 ⟨A3, h3, k3⟩
   refine ⟨to - (at_ + 1), by omega, out, L, begun, at_ + 1, _, A3, rfl, rfl, by omega, by omega, h3, k3, fun h8 => ?_⟩
   rcases hE h8 with ⟨e1, e2⟩ | ⟨e1, e2⟩ | e
   .subst e1 e2
    refine .inr (.inl ⟨rfl, ?_⟩)
    obtain ⟨_, _, h81, h82⟩ := h8
    unfold noted
    rw [if_pos (by omega), anH, if_pos rfl]
   .exfalso
    subst e1
    have hl := asN h8
    have hky := atH h8
    obtain ⟨_, _, h81, h82⟩ := h8
    have := hlong (by omega) htr1 0 (by rw [hky]; exact e2) _ hl
    omega
   .exact .inr (.inr e)
  .have d2 : decide ((n : Int) < 4) = false := by simp; omega
   by_cases hl4 : 4 < lvl
   .have d3 : decide ((4 : Int) < (lvl : Int)) = true := by simp; omega
    by_cases ha1 : at_ + 1 < to
    .have d4 : decide ((at_ : Int) + 1 < (to : Int)) = true := by simp; omega
     simp (disch := omega) only [gI, jD, dJ, stepR_skip, hJ, iC, iM, iP, iL, iO, jJ, iW, gM, iG, iI, iJ, iH, gY, iN, iA, iF, iX, iV, iK, gR, iR, iQ, iE, jW, jV, kH, kC, kG, kF, kI, kE, kD, gD, Result.ok.injEq, Next.value.injEq, true_and, and_true, gX, iB, iU, iT, iS, jI, aA9, gV, gU, gW, gT, gO, gJ, gP, gN, gB, fV, if_true, if_false, aA8, aBc, aBa, aBb, aBe, aBd, aA7, aA6, fQ, fL, fA, fR, cU, eS, eH, dK, bN, fS, fC, aM, dF, aX, bM, bP, aQ, cP, cG, eQ, aF, gS, aI, cK, aT, bV, fT, cI, cJ, aD, gA, fB, aP, aG, bQ, gQ, aK, fH, dT, dP, gG, dA, eU, dI, eF, fG, fF, cF, dC, gK, dO, cB, aS, bU, bT, fN, aE, aH, aN, aY, bF, cN, bK, aA, eY, aL, cL, fJ, fE, gF, bJ, eP, eN, bY, fW, fI, eJ, dH, cO, dB, bD, aZ, aO, fZ, aJ, dE, dQ, bG, cC, fK, dL, gC, fM, eZ, eT, dU, aR, cH, dG, fY, fX, fD, cZ, aW, dV, fU, cR, eX, fP, cD, bO, eD, bB, dX, dW, cM, eL, eK, bE, cY, bA, dR, dY, eE, bL, cS, cQ, dN, bS, cW, cV, fO, bZ, eI, eM, gE, dZ, dS, dM, dD, bH, bR, bX, bW, aU, cX, aV, d2, d3, d4]
     refine (Zu D h2 (hk.mono (by omega)) hlt).mono ?_
     rintro r w3 ⟨A3, h3, k3⟩
     have e1 : (at_ : Int) + 1 = ((at_ + 1 : Nat) : Int) := by omega
     rw [e1]
     refine (aqW h3.f k3 (by omega) htr2).mono ?_
     rintro r w4 ⟨n4, off4, rfl, hbst4, _, x4⟩
     have h4 := h3.same x4
     have hm4 : n4 <= 131074 /\ n <= 131074 := by
      refine ⟨?_, ?_⟩
      .rcases hbst4.one with ⟨rfl, _⟩ | ⟨_, _, _, hl⟩
       .omega
       .exact hl.most
      .rcases hbst.one with ⟨rfl, _⟩ | ⟨_, _, _, hl⟩
       .omega
       .exact hl.most
     by_cases hg : n + 1 < n4
     .have d5 : decide ((n : Int) + 1 < (n4 : Int)) = true := by simp; omega
      simp (disch := omega) only [gI, jD, dJ, stepR_skip, hJ, iC, iM, iP, iL, iO, jJ, iW, gM, iG, iI, iJ, iH, gY, iN, iA, iF, iX, iV, iK, gR, iR, iQ, iE, jW, jV, kH, kC, kG, kF, kI, kE, kD, gD, Result.ok.injEq, Next.value.injEq, true_and, and_true, gX, iB, iU, iT, iS, jI, aA9, gV, gU, gW, gT, gO, gJ, gP, gN, gB, fV, if_true, if_false, aA8, aBc, aBa, aBb, aBe, aBd, aA7, aA6, fQ, fL, fA, fR, cU, eS, eH, dK, bN, fS, fC, aM, dF, aX, bM, bP, aQ, cP, cG, eQ, aF, gS, aI, cK, aT, bV, fT, cI, cJ, aD, gA, fB, aP, aG, bQ, gQ, aK, fH, dT, dP, gG, dA, eU, dI, eF, fG, fF, cF, dC, gK, dO, cB, aS, bU, bT, fN, aE, aH, aN, aY, bF, cN, bK, aA, eY, aL, cL, fJ, fE, gF, bJ, eP, eN, bY, fW, fI, eJ, dH, cO, dB, bD, aZ, aO, fZ, aJ, dE, dQ, bG, cC, fK, dL, gC, fM, eZ, eT, dU, aR, cH, dG, fY, fX, fD, cZ, aW, dV, fU, cR, eX, fP, cD, bO, eD, bB, dX, dW, cM, eL, eK, bE, cY, bA, dR, dY, eE, bL, cS, cQ, dN, bS, cW, cV, fO, bZ, eI, eM, gE, dZ, dS, dM, dD, bH, bR, bX, bW, aU, cX, aV, d5]
      exact fin h4 (.inl k3) (by omega) (by omega) hbst4 (by omega)
     .have d5 : decide ((n : Int) + 1 < (n4 : Int)) = false := by simp; omega
      simp (disch := omega) only [gI, jD, dJ, stepR_skip, hJ, iC, iM, iP, iL, iO, jJ, iW, gM, iG, iI, iJ, iH, gY, iN, iA, iF, iX, iV, iK, gR, iR, iQ, iE, jW, jV, kH, kC, kG, kF, kI, kE, kD, gD, Result.ok.injEq, Next.value.injEq, true_and, and_true, gX, iB, iU, iT, iS, jI, aA9, gV, gU, gW, gT, gO, gJ, gP, gN, gB, fV, if_true, if_false, aA8, aBc, aBa, aBb, aBe, aBd, aA7, aA6, fQ, fL, fA, fR, cU, eS, eH, dK, bN, fS, fC, aM, dF, aX, bM, bP, aQ, cP, cG, eQ, aF, gS, aI, cK, aT, bV, fT, cI, cJ, aD, gA, fB, aP, aG, bQ, gQ, aK, fH, dT, dP, gG, dA, eU, dI, eF, fG, fF, cF, dC, gK, dO, cB, aS, bU, bT, fN, aE, aH, aN, aY, bF, cN, bK, aA, eY, aL, cL, fJ, fE, gF, bJ, eP, eN, bY, fW, fI, eJ, dH, cO, dB, bD, aZ, aO, fZ, aJ, dE, dQ, bG, cC, fK, dL, gC, fM, eZ, eT, dU, aR, cH, dG, fY, fX, fD, cZ, aW, dV, fU, cR, eX, fP, cD, bO, eD, bB, dX, dW, cM, eL, eK, bE, cY, bA, dR, dY, eE, bL, cS, cQ, dN, bS, cW, cV, fO, bZ, eI, eM, gE, dZ, dS, dM, dD, bH, bR, bX, bW, aU, cX, aV, d5]
      exact fin h4 (.inr k3) (by omega) (by omega) hbst (by omega)
    .have d4 : decide ((at_ : Int) + 1 < (to : Int)) = false := by simp; omega
     simp (disch := omega) only [gI, jD, dJ, stepR_skip, hJ, iC, iM, iP, iL, iO, jJ, iW, gM, iG, iI, iJ, iH, gY, iN, iA, iF, iX, iV, iK, gR, iR, iQ, iE, jW, jV, kH, kC, kG, kF, kI, kE, kD, gD, Result.ok.injEq, Next.value.injEq, true_and, and_true, gX, iB, iU, iT, iS, jI, aA9, gV, gU, gW, gT, gO, gJ, gP, gN, gB, fV, if_true, if_false, aA8, aBc, aBa, aBb, aBe, aBd, aA7, aA6, fQ, fL, fA, fR, cU, eS, eH, dK, bN, fS, fC, aM, dF, aX, bM, bP, aQ, cP, cG, eQ, aF, gS, aI, cK, aT, bV, fT, cI, cJ, aD, gA, fB, aP, aG, bQ, gQ, aK, fH, dT, dP, gG, dA, eU, dI, eF, fG, fF, cF, dC, gK, dO, cB, aS, bU, bT, fN, aE, aH, aN, aY, bF, cN, bK, aA, eY, aL, cL, fJ, fE, gF, bJ, eP, eN, bY, fW, fI, eJ, dH, cO, dB, bD, aZ, aO, fZ, aJ, dE, dQ, bG, cC, fK, dL, gC, fM, eZ, eT, dU, aR, cH, dG, fY, fX, fD, cZ, aW, dV, fU, cR, eX, fP, cD, bO, eD, bB, dX, dW, cM, eL, eK, bE, cY, bA, dR, dY, eE, bL, cS, cQ, dN, bS, cW, cV, fO, bZ, eI, eM, gE, dZ, dS, dM, dD, bH, bR, bX, bW, aU, cX, aV, d2, d3, d4]
     exact fin h2 (.inl hk) hbe (aBk _) hbst (by omega)
   .have d3 : decide ((4 : Int) < (lvl : Int)) = false := by simp; omega
    simp (disch := omega) only [gI, jD, dJ, stepR_skip, hJ, iC, iM, iP, iL, iO, jJ, iW, gM, iG, iI, iJ, iH, gY, iN, iA, iF, iX, iV, iK, gR, iR, iQ, iE, jW, jV, kH, kC, kG, kF, kI, kE, kD, gD, Result.ok.injEq, Next.value.injEq, true_and, and_true, gX, iB, iU, iT, iS, jI, aA9, gV, gU, gW, gT, gO, gJ, gP, gN, gB, fV, if_true, if_false, aA8, aBc, aBa, aBb, aBe, aBd, aA7, aA6, fQ, fL, fA, fR, cU, eS, eH, dK, bN, fS, fC, aM, dF, aX, bM, bP, aQ, cP, cG, eQ, aF, gS, aI, cK, aT, bV, fT, cI, cJ, aD, gA, fB, aP, aG, bQ, gQ, aK, fH, dT, dP, gG, dA, eU, dI, eF, fG, fF, cF, dC, gK, dO, cB, aS, bU, bT, fN, aE, aH, aN, aY, bF, cN, bK, aA, eY, aL, cL, fJ, fE, gF, bJ, eP, eN, bY, fW, fI, eJ, dH, cO, dB, bD, aZ, aO, fZ, aJ, dE, dQ, bG, cC, fK, dL, gC, fM, eZ, eT, dU, aR, cH, dG, fY, fX, fD, cZ, aW, dV, fU, cR, eX, fP, cD, bO, eD, bB, dX, dW, cM, eL, eK, bE, cY, bA, dR, dY, eE, bL, cS, cQ, dN, bS, cW, cV, fO, bZ, eI, eM, gE, dZ, dS, dM, dD, bH, bR, bX, bW, aU, cX, aV, d2, d3]
    exact fin h2 (.inl hk) hbe (aBk _) hbst (by omega)
 .have d1 : decide ((at_ : Int) < (to : Int)) = false := by simp; omega
  unfold Ch FJ
  simp (disch := omega) only [gI, jD, dJ, stepR_skip, hJ, iC, iM, iP, iL, iO, jJ, iW, gM, iG, iI, iJ, iH, gY, iN, iA, iF, iX, iV, iK, gR, iR, iQ, iE, jW, jV, kH, kC, kG, kF, kI, kE, kD, gD, Result.ok.injEq, Next.value.injEq, true_and, and_true, gX, iB, iU, iT, iS, jI, aA9, gV, gU, gW, gT, gO, gJ, gP, gN, gB, fV, if_true, if_false, aA8, aBc, aBa, aBb, aBe, aBd, aA7, aA6, fQ, fL, fA, fR, cU, eS, eH, dK, bN, fS, fC, aM, dF, aX, bM, bP, aQ, cP, cG, eQ, aF, gS, aI, cK, aT, bV, fT, cI, cJ, aD, gA, fB, aP, aG, bQ, gQ, aK, fH, dT, dP, gG, dA, eU, dI, eF, fG, fF, cF, dC, gK, dO, cB, aS, bU, bT, fN, aE, aH, aN, aY, bF, cN, bK, aA, eY, aL, cL, fJ, fE, gF, bJ, eP, eN, bY, fW, fI, eJ, dH, cO, dB, bD, aZ, aO, fZ, aJ, dE, dQ, bG, cC, fK, dL, gC, fM, eZ, eT, dU, aR, cH, dG, fY, fX, fD, cZ, aW, dV, fU, cR, eX, fP, cD, bO, eD, bB, dX, dW, cM, eL, eK, bE, cY, bA, dR, dY, eE, bL, cS, cQ, dN, bS, cW, cV, fO, bZ, eI, eM, gE, dZ, dS, dM, dD, bH, bR, bX, bW, aU, cX, aV, d1]
  refine hR _ _ _ _ h.o h.pl hpl.2 h.x fun h8 => ?_
  rcases hE h8 with ⟨e1, e2⟩ | ⟨e1, e2⟩ | e
  .obtain ⟨_, _, h81, h82⟩ := h8; omega
  .obtain ⟨_, _, h81, h82⟩ := h8; omega
  .exact e
structure Found (w0 w : aDs) (B : List UInt8) (a0 to lvl : Nat) (r : aDt) : Prop where
 ex : ∃ (v : aDt) (L : List Sq) (b : Nat), r = .tuple #[v, .int .i64 ((to - b : Nat) : Int), .int .i64 0] /\ yW w w0.heap.size 3 v L.length (flat L) /\ ahI B to a0 L b /\ b <= to /\ (lvl = 0 -> L = []) /\ (1 <= lvl -> apH B a0 to -> L ≠ [])
 x : jN w0 w mC
theorem auE (lvl : Nat) (h : lvl <= 9) : IntKind.i64.wrap (1 * 2 ^ (min lvl IntKind.i64.bits)) = ((2 ^ lvl : Nat) : Int) := by
 have : ∀ k : Fin 10, IntKind.i64.wrap (1 * 2 ^ (min k.val IntKind.i64.bits)) = ((2 ^ k.val : Nat) : Int) := by decide
 exact this ⟨lvl, by omega⟩
theorem acE {w0 w : aDs} {p mb ab : Nat} {bv : aDt} {B : List UInt8} {to lvl a0 : Nat} (hl1 : 1 <= lvl) (hlv : lvl <= 9) (h0 : a0 <= to) (hto : to <= B.length) (hb : B.length <= 4294967295) (hbv : Bs w0 bv B)
 (hx : jN w0 w mC) (o : lN w p [bv, .int .i64 to, .map (some mb), .slice (some ⟨ab, 0, none⟩) to to, .int .i64 ((2 ^ lvl : Nat) : Int)]) (m : Mp w mb WS ([] : List (Rj 4 × aDt))) (oa : lN w ab (List.replicate to (.int .i64 0)))
 (hne : p ≠ mb /\ p ≠ ab /\ mb ≠ ab) (hlo : w0.heap.size <= p /\ w0.heap.size <= mb /\ w0.heap.size <= ab) :
 GD (fun r w' => Found w0 w' B a0 to lvl r) (.int .i64 a0) (.int .i64 to) (.int .i64 lvl) (.pointer (some ⟨p, 0, none⟩)) w := by
 have D : Dst w0 p mb ab w.heap.size bv := ⟨hne, hlo, ⟨o.lt, m.lt, oa.lt⟩, hbv.old⟩
 have F : Fst w0 w p mb ab w.heap.size bv B to (2 ^ lvl) [] (List.replicate to 0) (.slice none 0 0) [] a0 a0 :=
  ⟨⟨o, hbv.ext hx (kL _), m, by simpa using oa, by simp, hto, by omega⟩, yW.nil _ _ _, rfl, hx, aBk _⟩
 have K : Kept 0 ([] : List (Rj 4 × aDt)) (List.replicate to (0 : Int)) := ⟨fun q hq => absurd hq (by simp), fun i hi => by simp⟩
 unfold GD KC KD Kx KA
 refine kO.rule (fun m t w' => ∃ (j : Nat) (es : List (Rj 4 × aDt)) (A : List Int), m = a0 - j /\ t = .int .i64 j /\ j <= a0 /\ Fst w0 w' p mb ab w.heap.size bv B to (2 ^ lvl) es A (.slice none 0 0) [] a0 a0 /\ Kept j es A /\ (j = 0 -> es = [])) a0
  ⟨0, [], _, rfl, rfl, by omega, F, K, fun _ => rfl⟩ ?_
 rintro m t w1 ⟨j, es, A, rfl, rfl, hj, h, hk, he⟩
 by_cases hlt : j < a0
 .have d1 : decide ((j : Int) < (a0 : Int)) = true := by simp; omega
  simp (disch := omega) only [Cj, gI, jD, dJ, stepR_skip, hJ, iC, iM, iP, iL, iO, jJ, iW, gM, iG, iI, iJ, iH, gY, iN, iA, iF, iX, iV, iK, gR, iR, iQ, iE, jW, jV, kH, kC, kG, kF, kI, kE, kD, gD, Result.ok.injEq, Next.value.injEq, true_and, and_true, gX, iB, iU, iT, iS, jI, aA9, gV, gU, gW, gT, gO, gJ, gP, gN, gB, fV, if_true, if_false, aA8, aBc, aBa, aBb, aBe, aBd, aA7, aA6, fQ, fL, fA, fR, cU, eS, eH, dK, bN, fS, fC, aM, dF, aX, bM, bP, aQ, cP, cG, eQ, aF, gS, aI, cK, aT, bV, fT, cI, cJ, aD, gA, fB, aP, aG, bQ, gQ, aK, fH, dT, dP, gG, dA, eU, dI, eF, fG, fF, cF, dC, gK, dO, cB, aS, bU, bT, fN, aE, aH, aN, aY, bF, cN, bK, aA, eY, aL, cL, fJ, fE, gF, bJ, eP, eN, bY, fW, fI, eJ, dH, cO, dB, bD, aZ, aO, fZ, aJ, dE, dQ, bG, cC, fK, dL, gC, fM, eZ, eT, dU, aR, cH, dG, fY, fX, fD, cZ, aW, dV, fU, cR, eX, fP, cD, bO, eD, bB, dX, dW, cM, eL, eK, bE, cY, bA, dR, dY, eE, bL, cS, cQ, dN, bS, cW, cV, fO, bZ, eI, eM, gE, dZ, dS, dM, dD, bH, bR, bX, bW, aU, cX, aV, d1]
  refine (Zu D h (hk.mono (by omega)) (by omega)).mono ?_
  rintro r w2 ⟨A2, f2, k2⟩
  exact ⟨a0 - (j + 1), by omega, j + 1, _, A2, rfl, rfl, by omega, f2, k2, fun h => by omega⟩
 .have d1 : decide ((j : Int) < (a0 : Int)) = false := by simp; omega
  have : j = a0 := by omega
  subst this
  simp (disch := omega) only [Cj, gI, jD, dJ, stepR_skip, hJ, iC, iM, iP, iL, iO, jJ, iW, gM, iG, iI, iJ, iH, gY, iN, iA, iF, iX, iV, iK, gR, iR, iQ, iE, jW, jV, kH, kC, kG, kF, kI, kE, kD, gD, Result.ok.injEq, Next.value.injEq, true_and, and_true, gX, iB, iU, iT, iS, jI, aA9, gV, gU, gW, gT, gO, gJ, gP, gN, gB, fV, if_true, if_false, aA8, aBc, aBa, aBb, aBe, aBd, aA7, aA6, fQ, fL, fA, fR, cU, eS, eH, dK, bN, fS, fC, aM, dF, aX, bM, bP, aQ, cP, cG, eQ, aF, gS, aI, cK, aT, bV, fT, cI, cJ, aD, gA, fB, aP, aG, bQ, gQ, aK, fH, dT, dP, gG, dA, eU, dI, eF, fG, fF, cF, dC, gK, dO, cB, aS, bU, bT, fN, aE, aH, aN, aY, bF, cN, bK, aA, eY, aL, cL, fJ, fE, gF, bJ, eP, eN, bY, fW, fI, eJ, dH, cO, dB, bD, aZ, aO, fZ, aJ, dE, dQ, bG, cC, fK, dL, gC, fM, eZ, eT, dU, aR, cH, dG, fY, fX, fD, cZ, aW, dV, fU, cR, eX, fP, cD, bO, eD, bB, dX, dW, cM, eL, eK, bE, cY, bA, dR, dY, eE, bL, cS, cQ, dN, bS, cW, cV, fO, bZ, eI, eM, gE, dZ, dS, dM, dD, bH, bR, bX, bW, aU, cX, aV, d1]
  unfold KU JY Ku Lb Kf Lt
  refine ayQ hlv h0 hb D h hk (fun h8 => .inl ⟨h8.2.1, he h8.2.1⟩) fun w' out L b ho hpl hbt hx' h8 => ?_
  unfold Io
  have e : (to : Int) - (b : Int) = ((to - b : Nat) : Int) := by omega
  simp (disch := omega) only [gI, jD, dJ, stepR_skip, hJ, iC, iM, iP, iL, iO, jJ, iW, gM, iG, iI, iJ, iH, gY, iN, iA, iF, iX, iV, iK, gR, iR, iQ, iE, jW, jV, kH, kC, kG, kF, kI, kE, kD, gD, Result.ok.injEq, Next.value.injEq, true_and, and_true, gX, iB, iU, iT, iS, jI, aA9, gV, gU, gW, gT, gO, gJ, gP, gN, gB, fV, if_true, if_false, aA8, aBc, aBa, aBb, aBe, aBd, aA7, aA6, fQ, fL, fA, fR, cU, eS, eH, dK, bN, fS, fC, aM, dF, aX, bM, bP, aQ, cP, cG, eQ, aF, gS, aI, cK, aT, bV, fT, cI, cJ, aD, gA, fB, aP, aG, bQ, gQ, aK, fH, dT, dP, gG, dA, eU, dI, eF, fG, fF, cF, dC, gK, dO, cB, aS, bU, bT, fN, aE, aH, aN, aY, bF, cN, bK, aA, eY, aL, cL, fJ, fE, gF, bJ, eP, eN, bY, fW, fI, eJ, dH, cO, dB, bD, aZ, aO, fZ, aJ, dE, dQ, bG, cC, fK, dL, gC, fM, eZ, eT, dU, aR, cH, dG, fY, fX, fD, cZ, aW, dV, fU, cR, eX, fP, cD, bO, eD, bB, dX, dW, cM, eL, eK, bE, cY, bA, dR, dY, eE, bL, cS, cQ, dN, bS, cW, cV, fO, bZ, eI, eM, gE, dZ, dS, dM, dD, bH, bR, bX, bW, aU, cX, aV, e]
  exact ⟨⟨out, L, b, rfl, yW.lower ho hx.size, hpl, hbt, fun h => by omega, fun _ => h8⟩, hx'⟩
theorem ayE {w : aDs} {bv : aDt} {B : List UInt8} {to lvl a0 : Nat} (hlv : lvl <= 9) (h0 : a0 <= to) (hto : to <= B.length) (hb : B.length <= 4294967295) (hbv : Bs w bv B) :
 jE pg Gk #[bv, .int .i64 a0, .int .i64 to, .int .i64 lvl] w (fun r w' => Found w w' B a0 to lvl r) := by
 refine Y8 ?_
 obtain ⟨a, c, hv, hc⟩ := hbv.len
 simp only [aBf] at hv hc
 unfold ZF LH KW
 have d1 : decide ((a0 : Int) < 0) = false := by simp
 have d2 : decide ((to : Int) < (a0 : Int)) = false := by simp; omega
 have d3 : decide ((B.length : Int) < (to : Int)) = false := by simp; omega
 have d4 : decide ((lvl : Int) < 0) = false := by simp
 have d5 : decide ((9 : Int) < (lvl : Int)) = false := by simp; omega
 subst hv
 have ln := fQ (ty := 3) a B.length c w
 by_cases hl : lvl = 0
 .subst hl
  have d6 : (((0 : Nat) : Int) == 0) = true := by simp
  have e : (to : Int) - (a0 : Int) = ((to - a0 : Nat) : Int) := by omega
  simp (disch := omega) only [gI, jD, dJ, stepR_skip, hJ, iC, iM, iP, iL, iO, jJ, iW, gM, iG, iI, iJ, iH, gY, iN, iA, iF, iX, iV, iK, gR, iR, iQ, iE, jW, jV, kH, kC, kG, kF, kI, kE, kD, gD, Result.ok.injEq, Next.value.injEq, true_and, and_true, gX, iB, iU, iT, iS, jI, aA9, gV, gU, gW, gT, gO, gJ, gP, gN, gB, fV, if_true, if_false, aA8, aBc, aBa, aBb, aBe, aBd, aA7, aA6, fQ, fL, fA, fR, cU, eS, eH, dK, bN, fS, fC, aM, dF, aX, bM, bP, aQ, cP, cG, eQ, aF, gS, aI, cK, aT, bV, fT, cI, cJ, aD, gA, fB, aP, aG, bQ, gQ, aK, fH, dT, dP, gG, dA, eU, dI, eF, fG, fF, cF, dC, gK, dO, cB, aS, bU, bT, fN, aE, aH, aN, aY, bF, cN, bK, aA, eY, aL, cL, fJ, fE, gF, bJ, eP, eN, bY, fW, fI, eJ, dH, cO, dB, bD, aZ, aO, fZ, aJ, dE, dQ, bG, cC, fK, dL, gC, fM, eZ, eT, dU, aR, cH, dG, fY, fX, fD, cZ, aW, dV, fU, cR, eX, fP, cD, bO, eD, bB, dX, dW, cM, eL, eK, bE, cY, bA, dR, dY, eE, bL, cS, cQ, dN, bS, cW, cV, fO, bZ, eI, eM, gE, dZ, dS, dM, dD, bH, bR, bX, bW, aU, cX, aV, ln, d1, d2, d3, d4, d5, d6, e]
  exact ⟨⟨_, [], a0, rfl, yW.nil _ _ _, rfl, h0, fun _ => rfl, fun h => by omega⟩, jN.refl _ _⟩
 .have d6 : ((lvl : Int) == 0) = false := by simpa using hl
  have e1 := auE lvl hlv
  have hbd := hbv.dr
  simp (disch := omega) only [gI, jD, dJ, stepR_skip, hJ, iC, iM, iP, iL, iO, jJ, iW, gM, iG, iI, iJ, iH, gY, iN, iA, iF, iX, iV, iK, gR, iR, iQ, iE, jW, jV, kH, kC, kG, kF, kI, kE, kD, gD, Result.ok.injEq, Next.value.injEq, true_and, and_true, gX, iB, iU, iT, iS, jI, aA9, gV, gU, gW, gT, gO, gJ, gP, gN, gB, fV, if_true, if_false, aA8, aBc, aBa, aBb, aBe, aBd, aA7, aA6, fQ, fL, fA, fR, cU, eS, eH, dK, bN, fS, fC, aM, dF, aX, bM, bP, aQ, cP, cG, eQ, aF, gS, aI, cK, aT, bV, fT, cI, cJ, aD, gA, fB, aP, aG, bQ, gQ, aK, fH, dT, dP, gG, dA, eU, dI, eF, fG, fF, cF, dC, gK, dO, cB, aS, bU, bT, fN, aE, aH, aN, aY, bF, cN, bK, aA, eY, aL, cL, fJ, fE, gF, bJ, eP, eN, bY, fW, fI, eJ, dH, cO, dB, bD, aZ, aO, fZ, aJ, dE, dQ, bG, cC, fK, dL, gC, fM, eZ, eT, dU, aR, cH, dG, fY, fX, fD, cZ, aW, dV, fU, cR, eX, fP, cD, bO, eD, bB, dX, dW, cM, eL, eK, bE, cY, bA, dR, dY, eE, bL, cS, cQ, dN, bS, cW, cV, fO, bZ, eI, eM, gE, dZ, dS, dM, dD, bH, bR, bX, bW, aU, cX, aV, ln, d1, d2, d3, d4, d5, d6]
  refine apV ?_ ?_
  .refine IB fun w1 m1 x1 s1 => ?_
   refine XM (by omega) (by omega) fun w2 o2 x2 s2 => ?_
   simp (disch := omega) only [gI, jD, dJ, stepR_skip, hJ, iC, iM, iP, iL, iO, jJ, iW, gM, iG, iI, iJ, iH, gY, iN, iA, iF, iX, iV, iK, gR, iR, iQ, iE, jW, jV, kH, kC, kG, kF, kI, kE, kD, gD, Result.ok.injEq, Next.value.injEq, true_and, and_true, gX, iB, iU, iT, iS, jI, aA9, gV, gU, gW, gT, gO, gJ, gP, gN, gB, fV, if_true, if_false, aA8, aBc, aBa, aBb, aBe, aBd, aA7, aA6, fQ, fL, fA, fR, cU, eS, eH, dK, bN, fS, fC, aM, dF, aX, bM, bP, aQ, cP, cG, eQ, aF, gS, aI, cK, aT, bV, fT, cI, cJ, aD, gA, fB, aP, aG, bQ, gQ, aK, fH, dT, dP, gG, dA, eU, dI, eF, fG, fF, cF, dC, gK, dO, cB, aS, bU, bT, fN, aE, aH, aN, aY, bF, cN, bK, aA, eY, aL, cL, fJ, fE, gF, bJ, eP, eN, bY, fW, fI, eJ, dH, cO, dB, bD, aZ, aO, fZ, aJ, dE, dQ, bG, cC, fK, dL, gC, fM, eZ, eT, dU, aR, cH, dG, fY, fX, fD, cZ, aW, dV, fU, cR, eX, fP, cD, bO, eD, bB, dX, dW, cM, eL, eK, bE, cY, bA, dR, dY, eE, bL, cS, cQ, dN, bS, cW, cV, fO, bZ, eI, eM, gE, dZ, dS, dM, dD, bH, bR, bX, bW, aU, cX, aV, e1]
   refine Az fun w3 o3 x3 s3 => ?_
   refine acE (w0 := w) (by omega) hlv h0 hto hb hbv ((((jN.dr w mC).seq x1).seq x2).seq x3) o3 ((m1.ext x2 fun h => h).ext x3 fun h => h) (o2.ext x3 fun h => h) ?_ ?_
   .have : (dr w).heap.size = w.heap.size := rfl
    refine ⟨?_, ?_, ?_⟩ <;> omega
   .have : (dr w).heap.size = w.heap.size := rfl
    refine ⟨?_, ?_, ?_⟩ <;> omega
  .refine XM (by omega) (by omega) fun w1 o1 x1 s1 => ?_
   refine IB fun w2 m2 x2 s2 => ?_
   simp (disch := omega) only [gI, jD, dJ, stepR_skip, hJ, iC, iM, iP, iL, iO, jJ, iW, gM, iG, iI, iJ, iH, gY, iN, iA, iF, iX, iV, iK, gR, iR, iQ, iE, jW, jV, kH, kC, kG, kF, kI, kE, kD, gD, Result.ok.injEq, Next.value.injEq, true_and, and_true, gX, iB, iU, iT, iS, jI, aA9, gV, gU, gW, gT, gO, gJ, gP, gN, gB, fV, if_true, if_false, aA8, aBc, aBa, aBb, aBe, aBd, aA7, aA6, fQ, fL, fA, fR, cU, eS, eH, dK, bN, fS, fC, aM, dF, aX, bM, bP, aQ, cP, cG, eQ, aF, gS, aI, cK, aT, bV, fT, cI, cJ, aD, gA, fB, aP, aG, bQ, gQ, aK, fH, dT, dP, gG, dA, eU, dI, eF, fG, fF, cF, dC, gK, dO, cB, aS, bU, bT, fN, aE, aH, aN, aY, bF, cN, bK, aA, eY, aL, cL, fJ, fE, gF, bJ, eP, eN, bY, fW, fI, eJ, dH, cO, dB, bD, aZ, aO, fZ, aJ, dE, dQ, bG, cC, fK, dL, gC, fM, eZ, eT, dU, aR, cH, dG, fY, fX, fD, cZ, aW, dV, fU, cR, eX, fP, cD, bO, eD, bB, dX, dW, cM, eL, eK, bE, cY, bA, dR, dY, eE, bL, cS, cQ, dN, bS, cW, cV, fO, bZ, eI, eM, gE, dZ, dS, dM, dD, bH, bR, bX, bW, aU, cX, aV, e1]
   refine Az fun w3 o3 x3 s3 => ?_
   refine acE (w0 := w) (by omega) hlv h0 hto hb hbv ((((jN.dr w mC).seq x1).seq x2).seq x3) o3 (m2.ext x3 fun h => h) ((o1.ext x2 fun h => h).ext x3 fun h => h) ?_ ?_
   .have : (dr w).heap.size = w.heap.size := rfl
    refine ⟨?_, ?_, ?_⟩ <;> omega
   .have : (dr w).heap.size = w.heap.size := rfl
    refine ⟨?_, ?_, ?_⟩ <;> omega
end Go.Proofs.YtoecppploooloaaGreatDoor
namespace Go.En
open Go
section
variable {P : Program} {w : aDs} {t e : TypeId}
theorem agM {S : Nat -> Prop} {sz n m : Nat} {i : TypeInfo} {z : aDt} {ty t2 : TypeId} {k : IntKind} (hu : P.underlying t = some (.slice e)) (hu2 : P.underlying t2 = some (.int k)) (hi : P.info? e = some i) (hsz : i.size = sz) (hz : i.zero = some z) (hzs : z.cells.size = sz)
 {v : aDt} {l : List aDt} (h : GM w S sz v n l) (hsz0 : 0 < sz) (hone : ∀ y ∈ z.cells.toList, one y = true) (hb : ∀ b, w.heap.size <= b -> S b)
 (hn : n + m <= 9223372036854775807) (hbytes : (n + m) * i.bytes <= 140737488355328) (hmb : m * i.bytes <= 140737488355328)
 {K : aDt -> aDs -> Prop} (hk : ∀ v' w', GM w' S sz v' (n + m) (l ++ (Builtin.zeroCells z.cells m).toList) -> jN w w' S -> K v' w') : gI P (oF .append #[t, t2] ty [v, .int k m]) w K := by
 generalize hnews : (Builtin.zeroCells z.cells m).toList = news at *
 have hnl : news.length = m * sz := by rw [<- hnews, aCC, xQ, hzs]
 have hone' : ∀ y ∈ news, one y = true := by
  intro y hy
  rw [<- hnews] at hy
  simp only [Builtin.zeroCells, Array.toList_map, aB3] at hy
  obtain ⟨j, _, rfl⟩ := hy
  refine hone _ ?_
  have : j % z.cells.size < z.cells.size := Nat.mod_lt _ (by omega)
  rw [getElem!_pos z.cells _ this]
  exact Array.getElem_mem_toList this
 have hmw : IntKind.i64.wrap ((m : Nat) : Int) = (m : Int) := gX (by omega) (by omega)
 have hm0 : ¬ ((m : Int) < 0) := by omega
 have hmx : ¬ ((m : Int) * (i.bytes : Nat) > 2 ^ 48) := by
  have : (m : Int) * (i.bytes : Nat) = ((m * i.bytes : Nat) : Int) := by simp
  rw [this]; omega
 have has : ∀ w, (asInt (.int k m)).run P w = .ok (m : Int) w := fun w => rfl
 have hz' : ∀ w, (zeroValue e).run P w = .ok z w := fun w => by simp [zeroValue, typeInfo, hi, hz]
 have hnw : ∀ w, (if m * sz = 0 then pure #[] else do pure (Builtin.zeroCells (<- zeroValue e).cells m) : Sem (Array aDt)).run P w = .ok news.toArray w := fun w => by
  by_cases h0 : m * sz = 0
  .rw [if_pos h0, Sem.run_pure]
   have : news = [] := aBT.1 (by omega)
   rw [this]
  .rw [if_neg h0, Sem.run_bind, hz', Result.andThen_ok, Sem.run_pure, <- hnews, Array.toArray_toList]
 have hmax : IntKind.i64.max = 9223372036854775807 := by decide
 have hnot : ¬ (((n + m : Nat) : Int) > IntKind.i64.max) := by rw [hmax]; omega
 have hlen := h.1
 rcases h.2 with ⟨rfl, rfl⟩ | ⟨b, c, rest, rfl, h2, h3, h4, h5⟩
 .have hl0 : l = [] := aBT.1 (by omega)
  subst hl0
  by_cases hm : m = 0
  .subst hm
   have hn0 : news = [] := aBT.1 (by omega)
   subst hn0
   have : (oF .append #[t, t2] ty [.slice none 0 0, .int k (0 : Nat)]).run P w = .ok (.value (.slice none 0 0)) w := by
    unfold oF builtin
    simp only [Builtin.append_, aB7, aA6, aA7]
    simp only [underlying, typeInfo, Sem.run_bind, run_program, Result.andThen_ok, hu, hu2, hi, Sem.run_pure, lH hi, hsz, has, hmw, hm0, hmx, if_true, if_false, aA9, aBe, aA8, aBk, aB1, hnw]
   unfold gI
   rw [this]
   exact hk _ _ ⟨by simp, .inl ⟨rfl, by omega⟩⟩ (jN.refl _ _)
  .have hfit := growslice_fits (need := 0 + m) (old := 0) (bytes := i.bytes) (by omega) (by omega)
   have hfit' : ¬ (Builtin.nextslicecap (0 + m) 0 * i.bytes > 2 ^ 48) := by omega
   have hle : ¬ (0 + m <= 0) := by omega
   have hq : (Question.appendCap (0 + m) 0 e).forced = false := rfl
   obtain ⟨r, hr⟩ : ∃ r, (Question.appendCap (0 + m) 0 e).cut (w.tape w.drawn (.appendCap (0 + m) 0 e)) = m + r :=
    ⟨(w.tape w.drawn (.appendCap (0 + m) 0 e)) % (2 ^ 63 - (0 + m)), by simp only [Question.cut]; omega⟩
   have : (oF .append #[t, t2] ty [.slice none 0 0, .int k m]).run P w = .ok (.value (.slice (some ⟨w.heap.size, 0, none⟩) (0 + m) (m + r))) ((dr w).alloc (.cells (news ++ (Builtin.zeroCells z.cells (m + r - (0 + m))).toList).toArray e)) := by
    unfold oF builtin
    simp only [Builtin.append_, aB7, aA6, aA7]
    simp only [underlying, typeInfo, Sem.run_bind, run_program, Result.andThen_ok, hu, hu2, hi, Sem.run_pure, lH hi, hsz, has, hmw, hm0, hmx, if_true, if_false, aA9, aBe, aA8, hle, hnot, false_and, hfit', run_choose, hq, hr, run_askRoom]
    change ((Sem.run P _ (dr w)).andThen _).andThen _ = _
    simp only [Sem.run_bind, hnw, run_firstCells_none, Result.andThen_ok, hz', Sem.run_pure, newRow, run_newObj]
    have e1 : (#[] ++ news.toArray ++ Builtin.zeroCells z.cells (m + r - (0 + m)) : Array aDt) = (news ++ (Builtin.zeroCells z.cells (m + r - (0 + m))).toList).toArray := by
     apply Array.ext'; simp
    rw [e1]
    rfl
   unfold gI
   rw [this]
   refine hk _ _ ⟨by simp only [aBZ]; rw [hnl, aBc], .inr ⟨w.heap.size, m + r, (Builtin.zeroCells z.cells (m + r - (0 + m))).toList, by rw [aBc], hb _ (aBk _), lN.alloc (dr w) _ _, ?_, by omega⟩⟩ ((jN.dr w _).seq (jN.alloc _ _ _))
   simp only [aBZ, aBg, aCC, xQ, hzs, hnl]
   rw [show m + r - (0 + m) = r from by omega, aB0]
 .by_cases hc : n + m <= c
  .have hroom : news.length <= rest.length := by
    rw [aBg, hlen] at h4
    have : (n + m) * sz <= c * sz := aBL _ hc
    rw [aB0] at this; omega
   obtain ⟨w', s1, s2, s3, s4, _⟩ := F1 (P := P) (M := S) h2 news w (n * sz) 0 (l ++ rest) h3 (by rw [aBg, hlen]; omega) hone'
   have : (oF .append #[t, t2] ty [.slice (some ⟨b, 0, none⟩) n c, .int k m]).run P w = .ok (.value (.slice (some ⟨b, 0, none⟩) (n + m) c)) w' := by
    unfold oF builtin
    simp only [Builtin.append_, aB7, aA6, aA7]
    simp only [underlying, typeInfo, Sem.run_bind, run_program, Result.andThen_ok, hu, hu2, hi, Sem.run_pure, lH hi, hsz, has, hmw, hm0, hmx, if_true, if_false, aA9, aBe, aA8, hc, hnw, Hy, aBc, s1]
   unfold gI
   rw [this]
   rw [aB1, <- hlen, UR _ _ _ hroom] at s2
   refine hk _ _ ⟨by rw [aBg, hlen, hnl, aB0], .inr ⟨b, c, rest.drop news.length, rfl, h2, s2, ?_, hc⟩⟩ s3
   rw [<- h4]; simp; omega
  .have hfit := growslice_fits (need := n + m) (old := c) (bytes := i.bytes) (by omega) hbytes
   have hfit' : ¬ (Builtin.nextslicecap (n + m) c * i.bytes > 2 ^ 48) := by omega
   have hq : (Question.appendCap (n + m) c e).forced = false := rfl
   obtain ⟨r, hr⟩ : ∃ r, (Question.appendCap (n + m) c e).cut (w.tape w.drawn (.appendCap (n + m) c e)) = n + m + r :=
    ⟨(w.tape w.drawn (.appendCap (n + m) c e)) % (2 ^ 63 - (n + m)), by simp only [Question.cut]⟩
   have hold : Cl (dr w) sz (.slice (some ⟨b, 0, none⟩) n c) n l := ⟨_, _, rfl, hlen, fun _ => ⟨b, 0, rfl, fun i hi => by
    show w.cell? _ = _
    rw [h3.cell, aBc, aBv hi]⟩⟩
   have : (oF .append #[t, t2] ty [.slice (some ⟨b, 0, none⟩) n c, .int k m]).run P w = .ok (.value (.slice (some ⟨w.heap.size, 0, none⟩) (n + m) (n + m + r))) ((dr w).alloc (.cells (l ++ news ++ (Builtin.zeroCells z.cells (n + m + r - (n + m))).toList).toArray e)) := by
    have hfo := DW (P := P) hold
    unfold oF builtin
    simp only [Builtin.append_, aB7, aA6, aA7]
    simp only [underlying, typeInfo, Sem.run_bind, run_program, Result.andThen_ok, hu, hu2, hi, Sem.run_pure, lH hi, hsz, has, hmw, hm0, hmx, if_true, if_false, aA9, aBe, aA8, hc, hnot, false_and, hfit', run_choose, hq, hr, run_askRoom]
    change ((Sem.run P _ (dr w)).andThen _).andThen _ = _
    simp only [Sem.run_bind, hnw, hfo, Result.andThen_ok, hz', Sem.run_pure, newRow, run_newObj]
    have e1 : (l.toArray ++ news.toArray ++ Builtin.zeroCells z.cells (n + m + r - (n + m)) : Array aDt) = (l ++ news ++ (Builtin.zeroCells z.cells (n + m + r - (n + m))).toList).toArray := by
     apply Array.ext'; simp
    rw [e1]
    rfl
   unfold gI
   rw [this]
   refine hk _ _ ⟨by rw [aBg, hlen, hnl, aB0], .inr ⟨w.heap.size, n + m + r, _, rfl, hb _ (aBk _), lN.alloc (dr w) _ _, ?_, by omega⟩⟩ ((jN.dr w _).seq (jN.alloc _ _ _))
   simp only [aBg, aCC, xQ, hzs, hnl, hlen]
   rw [show n + m + r - (n + m) = r from by omega, aB0, aB0]
end
end Go.En
namespace Go.En
open Go
theorem axO {P : Program} {w : aDs} {t e ty : TypeId} (hu : P.underlying t = some (.slice e)) (x : Option Addr) (n c : Nat) : (oF .cap #[t] ty [.slice x n c]).run P w = .ok (.value (.int .i64 c)) w := by
 simp [oF, builtin, Builtin.cap_, underlying, hu, goInt]
end Go.En
namespace Go.Proofs.YtoecppploooloaaGreatDoor
open Go Go.En Go.Pu
set_option maxRecDepth 4000
set_option linter.unusedSimpArgs false
set_option linter.unusedVariables false
theorem apQ {y : aDt} (hy : y ∈ (Value.int .u8 0).cells.toList) : one y = true := by
 have : y = .int .u8 0 := by simpa [Value.cells] using hy
 subst this; rfl
theorem ayB {n : Nat} {w : aDs} (h1 : 1 <= n) (hn : n <= 100000000) :
 jE pg Ar #[.slice none 0 0, .int .i64 (n : Nat)] w (fun r w' => (∃ b c, r = .slice (some ⟨b, 0, none⟩) 0 c) /\ yW w' w.heap.size 1 r 0 [] /\ jN w w' mC) := by
 refine Rf ?_
 unfold OI Dj C6 C3 CX wR
 have d1 : decide (((n : Nat) : Int) < 0) = false := decide_eq_false (by omega)
 have hcap := fun (x : Option Addr) (n c : Nat) w => axO (P := pg) (w := w) (ty := 3) Tryz.underlying22 x n c
 have e1 : ((0 : Nat) : Int) = 0 := rfl
 have e2 : ((n : Nat) : Int) - (0 - 0) = ((n : Nat) : Int) := by omega
 have d2 : decide ((0 : Int) < ((n : Nat) : Int)) = true := decide_eq_true (by omega)
 have z0 : (0 : Int).toNat = 0 := rfl
 have s0 : mN none 0 0 1 = none := rfl
 have e3 : ((0 : Int) - 0) = 0 := rfl
 have e4 : ((n : Nat) : Int) - 0 = ((n : Nat) : Int) := by omega
 simp (disch := omega) only [gI, jD, dJ, stepR_skip, hJ, iC, iM, iP, iL, iO, jJ, iW, gM, iG, iI, iJ, iH, gY, iN, iA, iF, iX, iV, iK, gR, iR, iQ, iE, jW, jV, kH, kC, kG, kF, kI, kE, kD, gD, Result.ok.injEq, Next.value.injEq, true_and, and_true, gX, iB, iU, iT, iS, jI, aA9, gV, gU, gW, gT, gO, gJ, gP, gN, gB, fV, if_true, if_false, aA8, aBc, aBa, aBb, aBe, aBd, aA7, aA6, fQ, fL, fA, fR, cU, eS, eH, dK, bN, fS, fC, aM, dF, aX, bM, bP, aQ, cP, cG, eQ, aF, gS, aI, cK, aT, bV, fT, cI, cJ, aD, gA, fB, aP, aG, bQ, gQ, aK, fH, dT, dP, gG, dA, eU, dI, eF, fG, fF, cF, dC, gK, dO, cB, aS, bU, bT, fN, aE, aH, aN, aY, bF, cN, bK, aA, eY, aL, cL, fJ, fE, gF, bJ, eP, eN, bY, fW, fI, eJ, dH, cO, dB, bD, aZ, aO, fZ, aJ, dE, dQ, bG, cC, fK, dL, gC, fM, eZ, eT, dU, aR, cH, dG, fY, fX, fD, cZ, aW, dV, fU, cR, eX, fP, cD, bO, eD, bB, dX, dW, cM, eL, eK, bE, cY, bA, dR, dY, eE, bL, cS, cQ, dN, bS, cW, cV, fO, bZ, eI, eM, gE, dZ, dS, dM, dD, bH, bR, bX, bW, aU, cX, aV, d1, hcap, e1, e2, e3, e4, d2, z0, s0, aCN]
 refine agM (m := n) (n := 0) (l := []) (S := fun y => w.heap.size <= y) (i := Tryz.t5) Tryz.underlying22 Tryz.underlying3 JG rfl rfl rfl ⟨rfl, .inl ⟨rfl, rfl⟩⟩ (by decide) (fun y hy => apQ hy) (fun b hb => hb) (by omega) (by rw [show Tryz.t5.bytes = 1 from rfl]; omega) (by rw [show Tryz.t5.bytes = 1 from rfl]; omega) fun v1 w1 o1 x1 => ?_
 rcases o1.2 with ⟨-, h0⟩ | ⟨b, c, rest, rfl, hb, ho, hc, hnc⟩
 .omega
 have hcn : ¬ c = 0 := by omega
 have s1 : mN (some ⟨b, 0, none⟩) c 0 1 = some ⟨b, 0, none⟩ := by unfold mN; rw [if_neg hcn, aBJ] <;> rfl
 simp (disch := omega) only [gI, jD, dJ, stepR_skip, hJ, iC, iM, iP, iL, iO, jJ, iW, gM, iG, iI, iJ, iH, gY, iN, iA, iF, iX, iV, iK, gR, iR, iQ, iE, jW, jV, kH, kC, kG, kF, kI, kE, kD, gD, Result.ok.injEq, Next.value.injEq, true_and, and_true, gX, iB, iU, iT, iS, jI, aA9, gV, gU, gW, gT, gO, gJ, gP, gN, gB, fV, if_true, if_false, aA8, aBc, aBa, aBb, aBe, aBd, aA7, aA6, fQ, fL, fA, fR, cU, eS, eH, dK, bN, fS, fC, aM, dF, aX, bM, bP, aQ, cP, cG, eQ, aF, gS, aI, cK, aT, bV, fT, cI, cJ, aD, gA, fB, aP, aG, bQ, gQ, aK, fH, dT, dP, gG, dA, eU, dI, eF, fG, fF, cF, dC, gK, dO, cB, aS, bU, bT, fN, aE, aH, aN, aY, bF, cN, bK, aA, eY, aL, cL, fJ, fE, gF, bJ, eP, eN, bY, fW, fI, eJ, dH, cO, dB, bD, aZ, aO, fZ, aJ, dE, dQ, bG, cC, fK, dL, gC, fM, eZ, eT, dU, aR, cH, dG, fY, fX, fD, cZ, aW, dV, fU, cR, eX, fP, cD, bO, eD, bB, dX, dW, cM, eL, eK, bE, cY, bA, dR, dY, eE, bL, cS, cQ, dN, bS, cW, cV, fO, bZ, eI, eM, gE, dZ, dS, dM, dD, bH, bR, bX, bW, aU, cX, aV, e1, z0, s1, aCN]
 refine ⟨⟨b, c, rfl⟩, ⟨rfl, .inr ⟨b, c, _, rfl, hb, ho, hc, by omega⟩⟩, x1.mono fun y hy h => by omega⟩
theorem aqB {b : Nat} {xv yv : aDt} {l m : List UInt8} {w : aDs} (o : lN w b [xv, yv]) (hx : Bs w xv l) (hy : Bs w yv m) (h1 : 1 <= l.length) (hl : l.length <= 10000000) (hm : m.length <= 10000000) :
 jE pg wB #[.slice (some ⟨b, 0, none⟩) 2 2] w (fun r w' => yW w' w.heap.size 1 r (l ++ m).length ((l ++ m).map nR) /\ jN w w' mC) := by
 refine Oz ?_
 obtain ⟨RR, hRR⟩ : ∃ RR : aDt -> aDs -> Prop, RR = fun r w' => yW w' w.heap.size 1 r (l ++ m).length ((l ++ m).map nR) /\ jN w w' mC := ⟨_, rfl⟩
 rw [<- hRR]
 have hbx := hx
 have hby := hy
 obtain ⟨xa, xc, rfl, -⟩ := hx.len
 obtain ⟨ya, yc, rfl, -⟩ := hy.len
 rw [aBf] at hbx hby o
 rw [aBf] at o
 have z0 : (0 : Int).toNat = 0 := rfl
 have z1 : (1 : Int).toNat = 1 := rfl
 have n2 : ((2 : Nat) : Int) = 2 := rfl
 have c0 : ∀ {W}, jN w W mC -> W.cell? ⟨b, 0, none⟩ = some (.slice xa l.length xc) := fun x => (o.ext x (fun h => h)).cell (off := 0)
 have c1 : ∀ {W}, jN w W mC -> W.cell? ⟨b, 1, none⟩ = some (.slice ya m.length yc) := fun x => (o.ext x (fun h => h)).cell (off := 1)
 have c00 := c0 (jN.refl w mC)
 have c10 := c1 (jN.refl w mC)
 have d0 : decide ((0 : Int) < 2) = true := rfl
 have d1 : decide ((1 : Int) < 2) = true := rfl
 have d2 : decide ((2 : Int) < 2) = false := rfl
 have e01 : (0 : Int) + 1 = 1 := rfl
 have e12 : (1 : Int) + 1 = 2 := rfl
 unfold Kd zC zY zR Ai Ag zM zX
 simp (disch := omega) only [gI, jD, dJ, stepR_skip, hJ, iC, iM, iP, iL, iO, jJ, iW, gM, iG, iI, iJ, iH, gY, iN, iA, iF, iX, iV, iK, gR, iR, iQ, iE, jW, jV, kH, kC, kG, kF, kI, kE, kD, gD, Result.ok.injEq, Next.value.injEq, true_and, and_true, gX, iB, iU, iT, iS, jI, aA9, gV, gU, gW, gT, gO, gJ, gP, gN, gB, fV, if_true, if_false, aA8, aBc, aBa, aBb, aBe, aBd, aA7, aA6, fQ, fL, fA, fR, cU, eS, eH, dK, bN, fS, fC, aM, dF, aX, bM, bP, aQ, cP, cG, eQ, aF, gS, aI, cK, aT, bV, fT, cI, cJ, aD, gA, fB, aP, aG, bQ, gQ, aK, fH, dT, dP, gG, dA, eU, dI, eF, fG, fF, cF, dC, gK, dO, cB, aS, bU, bT, fN, aE, aH, aN, aY, bF, cN, bK, aA, eY, aL, cL, fJ, fE, gF, bJ, eP, eN, bY, fW, fI, eJ, dH, cO, dB, bD, aZ, aO, fZ, aJ, dE, dQ, bG, cC, fK, dL, gC, fM, eZ, eT, dU, aR, cH, dG, fY, fX, fD, cZ, aW, dV, fU, cR, eX, fP, cD, bO, eD, bB, dX, dW, cM, eL, eK, bE, cY, bA, dR, dY, eE, bL, cS, cQ, dN, bS, cW, cV, fO, bZ, eI, eM, gE, dZ, dS, dM, dD, bH, bR, bX, bW, aU, cX, aV, n2]
 refine kO.rule (fun k (t : aDt × aDt) W => W = w /\ ((k = 2 /\ t = (.int .i64 0, .int .i64 0)) ∨ (k = 1 /\ t = (.int .i64 (l.length : Nat), .int .i64 1)) ∨ (k = 0 /\ t = (.int .i64 ((l.length + m.length : Nat) : Int), .int .i64 2)))) 2 ⟨rfl, .inl ⟨rfl, rfl⟩⟩ ?_
 rintro k t W ⟨rfl, ⟨rfl, rfl⟩ | ⟨rfl, rfl⟩ | ⟨rfl, rfl⟩⟩
 .unfold qC rK rL
  have e1 : (0 : Int) + (l.length : Int) = (l.length : Int) := by omega
  have d3 : decide ((l.length : Int) < 0) = false := decide_eq_false (by omega)
  simp (disch := omega) only [gI, jD, dJ, stepR_skip, hJ, iC, iM, iP, iL, iO, jJ, iW, gM, iG, iI, iJ, iH, gY, iN, iA, iF, iX, iV, iK, gR, iR, iQ, iE, jW, jV, kH, kC, kG, kF, kI, kE, kD, gD, Result.ok.injEq, Next.value.injEq, true_and, and_true, gX, iB, iU, iT, iS, jI, aA9, gV, gU, gW, gT, gO, gJ, gP, gN, gB, fV, if_true, if_false, aA8, aBc, aBa, aBb, aBe, aBd, aA7, aA6, fQ, fL, fA, fR, cU, eS, eH, dK, bN, fS, fC, aM, dF, aX, bM, bP, aQ, cP, cG, eQ, aF, gS, aI, cK, aT, bV, fT, cI, cJ, aD, gA, fB, aP, aG, bQ, gQ, aK, fH, dT, dP, gG, dA, eU, dI, eF, fG, fF, cF, dC, gK, dO, cB, aS, bU, bT, fN, aE, aH, aN, aY, bF, cN, bK, aA, eY, aL, cL, fJ, fE, gF, bJ, eP, eN, bY, fW, fI, eJ, dH, cO, dB, bD, aZ, aO, fZ, aJ, dE, dQ, bG, cC, fK, dL, gC, fM, eZ, eT, dU, aR, cH, dG, fY, fX, fD, cZ, aW, dV, fU, cR, eX, fP, cD, bO, eD, bB, dX, dW, cM, eL, eK, bE, cY, bA, dR, dY, eE, bL, cS, cQ, dN, bS, cW, cV, fO, bZ, eI, eM, gE, dZ, dS, dM, dD, bH, bR, bX, bW, aU, cX, aV, d0, z0, n2, c00, e1, d3, e01, aCY, aB1]
  first
   | exact ⟨1, by omega, rfl, .inr (.inl ⟨rfl, rfl⟩)⟩
   | exact ⟨1, by omega, .inr (.inl ⟨rfl, rfl⟩)⟩
   | exact ⟨1, by omega, .inr (.inl rfl)⟩
 .unfold qC rK rL
  have e1 : (l.length : Int) + (m.length : Int) = ((l.length + m.length : Nat) : Int) := by omega
  have d3 : decide (((l.length + m.length : Nat) : Int) < 0) = false := decide_eq_false (by omega)
  simp (disch := omega) only [gI, jD, dJ, stepR_skip, hJ, iC, iM, iP, iL, iO, jJ, iW, gM, iG, iI, iJ, iH, gY, iN, iA, iF, iX, iV, iK, gR, iR, iQ, iE, jW, jV, kH, kC, kG, kF, kI, kE, kD, gD, Result.ok.injEq, Next.value.injEq, true_and, and_true, gX, iB, iU, iT, iS, jI, aA9, gV, gU, gW, gT, gO, gJ, gP, gN, gB, fV, if_true, if_false, aA8, aBc, aBa, aBb, aBe, aBd, aA7, aA6, fQ, fL, fA, fR, cU, eS, eH, dK, bN, fS, fC, aM, dF, aX, bM, bP, aQ, cP, cG, eQ, aF, gS, aI, cK, aT, bV, fT, cI, cJ, aD, gA, fB, aP, aG, bQ, gQ, aK, fH, dT, dP, gG, dA, eU, dI, eF, fG, fF, cF, dC, gK, dO, cB, aS, bU, bT, fN, aE, aH, aN, aY, bF, cN, bK, aA, eY, aL, cL, fJ, fE, gF, bJ, eP, eN, bY, fW, fI, eJ, dH, cO, dB, bD, aZ, aO, fZ, aJ, dE, dQ, bG, cC, fK, dL, gC, fM, eZ, eT, dU, aR, cH, dG, fY, fX, fD, cZ, aW, dV, fU, cR, eX, fP, cD, bO, eD, bB, dX, dW, cM, eL, eK, bE, cY, bA, dR, dY, eE, bL, cS, cQ, dN, bS, cW, cV, fO, bZ, eI, eM, gE, dZ, dS, dM, dD, bH, bR, bX, bW, aU, cX, aV, d1, z1, n2, c10, e1, d3, e12, Nat.one_mul, aB9, aBc]
  first
   | exact ⟨0, by omega, rfl, .inr (.inr ⟨rfl, rfl⟩)⟩
   | exact ⟨0, by omega, .inr (.inr ⟨rfl, rfl⟩)⟩
   | exact ⟨0, by omega, .inr (.inr rfl)⟩
 .unfold qC rK Bp Bh
  simp (disch := omega) only [gI, jD, dJ, stepR_skip, hJ, iC, iM, iP, iL, iO, jJ, iW, gM, iG, iI, iJ, iH, gY, iN, iA, iF, iX, iV, iK, gR, iR, iQ, iE, jW, jV, kH, kC, kG, kF, kI, kE, kD, gD, Result.ok.injEq, Next.value.injEq, true_and, and_true, gX, iB, iU, iT, iS, jI, aA9, gV, gU, gW, gT, gO, gJ, gP, gN, gB, fV, if_true, if_false, aA8, aBc, aBa, aBb, aBe, aBd, aA7, aA6, fQ, fL, fA, fR, cU, eS, eH, dK, bN, fS, fC, aM, dF, aX, bM, bP, aQ, cP, cG, eQ, aF, gS, aI, cK, aT, bV, fT, cI, cJ, aD, gA, fB, aP, aG, bQ, gQ, aK, fH, dT, dP, gG, dA, eU, dI, eF, fG, fF, cF, dC, gK, dO, cB, aS, bU, bT, fN, aE, aH, aN, aY, bF, cN, bK, aA, eY, aL, cL, fJ, fE, gF, bJ, eP, eN, bY, fW, fI, eJ, dH, cO, dB, bD, aZ, aO, fZ, aJ, dE, dQ, bG, cC, fK, dL, gC, fM, eZ, eT, dU, aR, cH, dG, fY, fX, fD, cZ, aW, dV, fU, cR, eX, fP, cD, bO, eD, bB, dX, dW, cM, eL, eK, bE, cY, bA, dR, dY, eE, bL, cS, cQ, dN, bS, cW, cV, fO, bZ, eI, eM, gE, dZ, dS, dM, dD, bH, bR, bX, bW, aU, cX, aV, d2]
  refine (ayB (n := l.length + m.length) (by omega) (by omega)).mono ?_
  rintro r w1 ⟨-, o1, x1⟩
  have s1 := x1.size
  unfold Bg AZ A8 AU AY
  simp (disch := omega) only [gI, jD, dJ, stepR_skip, hJ, iC, iM, iP, iL, iO, jJ, iW, gM, iG, iI, iJ, iH, gY, iN, iA, iF, iX, iV, iK, gR, iR, iQ, iE, jW, jV, kH, kC, kG, kF, kI, kE, kD, gD, Result.ok.injEq, Next.value.injEq, true_and, and_true, gX, iB, iU, iT, iS, jI, aA9, gV, gU, gW, gT, gO, gJ, gP, gN, gB, fV, if_true, if_false, aA8, aBc, aBa, aBb, aBe, aBd, aA7, aA6, fQ, fL, fA, fR, cU, eS, eH, dK, bN, fS, fC, aM, dF, aX, bM, bP, aQ, cP, cG, eQ, aF, gS, aI, cK, aT, bV, fT, cI, cJ, aD, gA, fB, aP, aG, bQ, gQ, aK, fH, dT, dP, gG, dA, eU, dI, eF, fG, fF, cF, dC, gK, dO, cB, aS, bU, bT, fN, aE, aH, aN, aY, bF, cN, bK, aA, eY, aL, cL, fJ, fE, gF, bJ, eP, eN, bY, fW, fI, eJ, dH, cO, dB, bD, aZ, aO, fZ, aJ, dE, dQ, bG, cC, fK, dL, gC, fM, eZ, eT, dU, aR, cH, dG, fY, fX, fD, cZ, aW, dV, fU, cR, eX, fP, cD, bO, eD, bB, dX, dW, cM, eL, eK, bE, cY, bA, dR, dY, eE, bL, cS, cQ, dN, bS, cW, cV, fO, bZ, eI, eM, gE, dZ, dS, dM, dD, bH, bR, bX, bW, aU, cX, aV, n2]
  obtain ⟨w0, hw0⟩ : ∃ w0, w0 = W.heap.size := ⟨_, rfl⟩
  rw [<- hw0] at o1
  refine kO.rule (fun k (t : aDt × aDt) W' => jN W W' mC /\ ((k = 2 /\ ∃ v, t = (v, .int .i64 0) /\ yW W' w0 1 v 0 []) ∨ (k = 1 /\ ∃ v, t = (v, .int .i64 1) /\ yW W' w0 1 v l.length (l.map nR)) ∨ (k = 0 /\ ∃ v, t = (v, .int .i64 2) /\ yW W' w0 1 v (l ++ m).length ((l ++ m).map nR)))) 2 ⟨x1, .inl ⟨rfl, _, rfl, o1⟩⟩ ?_
  rintro k t W' ⟨x, ⟨rfl, v, rfl, ov⟩ | ⟨rfl, v, rfl, ov⟩ | ⟨rfl, v, rfl, ov⟩⟩
  .unfold qJ
   have cc := c0 x
   have hcl := (hbx.ext x (kL _)).cl
   rw [aBf] at hcl
   have zz := x.size
   simp (disch := omega) only [gI, jD, dJ, stepR_skip, hJ, iC, iM, iP, iL, iO, jJ, iW, gM, iG, iI, iJ, iH, gY, iN, iA, iF, iX, iV, iK, gR, iR, iQ, iE, jW, jV, kH, kC, kG, kF, kI, kE, kD, gD, Result.ok.injEq, Next.value.injEq, true_and, and_true, gX, iB, iU, iT, iS, jI, aA9, gV, gU, gW, gT, gO, gJ, gP, gN, gB, fV, if_true, if_false, aA8, aBc, aBa, aBb, aBe, aBd, aA7, aA6, fQ, fL, fA, fR, cU, eS, eH, dK, bN, fS, fC, aM, dF, aX, bM, bP, aQ, cP, cG, eQ, aF, gS, aI, cK, aT, bV, fT, cI, cJ, aD, gA, fB, aP, aG, bQ, gQ, aK, fH, dT, dP, gG, dA, eU, dI, eF, fG, fF, cF, dC, gK, dO, cB, aS, bU, bT, fN, aE, aH, aN, aY, bF, cN, bK, aA, eY, aL, cL, fJ, fE, gF, bJ, eP, eN, bY, fW, fI, eJ, dH, cO, dB, bD, aZ, aO, fZ, aJ, dE, dQ, bG, cC, fK, dL, gC, fM, eZ, eT, dU, aR, cH, dG, fY, fX, fD, cZ, aW, dV, fU, cR, eX, fP, cD, bO, eD, bB, dX, dW, cM, eL, eK, bE, cY, bA, dR, dY, eE, bL, cS, cQ, dN, bS, cW, cV, fO, bZ, eI, eM, gE, dZ, dS, dM, dD, bH, bR, bX, bW, aU, cX, aV, d0, z0, n2, cc, aCY, aB1]
   refine mU ov hcl (F6 _) (by omega) (by omega) fun v2 w2 o2 x2 => ?_
   simp (disch := omega) only [gI, jD, dJ, stepR_skip, hJ, iC, iM, iP, iL, iO, jJ, iW, gM, iG, iI, iJ, iH, gY, iN, iA, iF, iX, iV, iK, gR, iR, iQ, iE, jW, jV, kH, kC, kG, kF, kI, kE, kD, gD, Result.ok.injEq, Next.value.injEq, true_and, and_true, gX, iB, iU, iT, iS, jI, aA9, gV, gU, gW, gT, gO, gJ, gP, gN, gB, fV, if_true, if_false, aA8, aBc, aBa, aBb, aBe, aBd, aA7, aA6, fQ, fL, fA, fR, cU, eS, eH, dK, bN, fS, fC, aM, dF, aX, bM, bP, aQ, cP, cG, eQ, aF, gS, aI, cK, aT, bV, fT, cI, cJ, aD, gA, fB, aP, aG, bQ, gQ, aK, fH, dT, dP, gG, dA, eU, dI, eF, fG, fF, cF, dC, gK, dO, cB, aS, bU, bT, fN, aE, aH, aN, aY, bF, cN, bK, aA, eY, aL, cL, fJ, fE, gF, bJ, eP, eN, bY, fW, fI, eJ, dH, cO, dB, bD, aZ, aO, fZ, aJ, dE, dQ, bG, cC, fK, dL, gC, fM, eZ, eT, dU, aR, cH, dG, fY, fX, fD, cZ, aW, dV, fU, cR, eX, fP, cD, bO, eD, bB, dX, dW, cM, eL, eK, bE, cY, bA, dR, dY, eE, bL, cS, cQ, dN, bS, cW, cV, fO, bZ, eI, eM, gE, dZ, dS, dM, dD, bH, bR, bX, bW, aU, cX, aV, e01]
   rw [aBc, aBZ] at o2
   exact ⟨1, by omega, x.trans x2 fun y hy h => by omega, .inr (.inl ⟨rfl, _, rfl, o2⟩)⟩
  .unfold qJ
   have cc := c1 x
   have hcl := (hby.ext x (kL _)).cl
   rw [aBf] at hcl
   have zz := x.size
   simp (disch := omega) only [gI, jD, dJ, stepR_skip, hJ, iC, iM, iP, iL, iO, jJ, iW, gM, iG, iI, iJ, iH, gY, iN, iA, iF, iX, iV, iK, gR, iR, iQ, iE, jW, jV, kH, kC, kG, kF, kI, kE, kD, gD, Result.ok.injEq, Next.value.injEq, true_and, and_true, gX, iB, iU, iT, iS, jI, aA9, gV, gU, gW, gT, gO, gJ, gP, gN, gB, fV, if_true, if_false, aA8, aBc, aBa, aBb, aBe, aBd, aA7, aA6, fQ, fL, fA, fR, cU, eS, eH, dK, bN, fS, fC, aM, dF, aX, bM, bP, aQ, cP, cG, eQ, aF, gS, aI, cK, aT, bV, fT, cI, cJ, aD, gA, fB, aP, aG, bQ, gQ, aK, fH, dT, dP, gG, dA, eU, dI, eF, fG, fF, cF, dC, gK, dO, cB, aS, bU, bT, fN, aE, aH, aN, aY, bF, cN, bK, aA, eY, aL, cL, fJ, fE, gF, bJ, eP, eN, bY, fW, fI, eJ, dH, cO, dB, bD, aZ, aO, fZ, aJ, dE, dQ, bG, cC, fK, dL, gC, fM, eZ, eT, dU, aR, cH, dG, fY, fX, fD, cZ, aW, dV, fU, cR, eX, fP, cD, bO, eD, bB, dX, dW, cM, eL, eK, bE, cY, bA, dR, dY, eE, bL, cS, cQ, dN, bS, cW, cV, fO, bZ, eI, eM, gE, dZ, dS, dM, dD, bH, bR, bX, bW, aU, cX, aV, d1, z1, n2, cc, Nat.one_mul, aB9, aBc]
   refine mU ov hcl (F6 _) (by omega) (by omega) fun v2 w2 o2 x2 => ?_
   simp (disch := omega) only [gI, jD, dJ, stepR_skip, hJ, iC, iM, iP, iL, iO, jJ, iW, gM, iG, iI, iJ, iH, gY, iN, iA, iF, iX, iV, iK, gR, iR, iQ, iE, jW, jV, kH, kC, kG, kF, kI, kE, kD, gD, Result.ok.injEq, Next.value.injEq, true_and, and_true, gX, iB, iU, iT, iS, jI, aA9, gV, gU, gW, gT, gO, gJ, gP, gN, gB, fV, if_true, if_false, aA8, aBc, aBa, aBb, aBe, aBd, aA7, aA6, fQ, fL, fA, fR, cU, eS, eH, dK, bN, fS, fC, aM, dF, aX, bM, bP, aQ, cP, cG, eQ, aF, gS, aI, cK, aT, bV, fT, cI, cJ, aD, gA, fB, aP, aG, bQ, gQ, aK, fH, dT, dP, gG, dA, eU, dI, eF, fG, fF, cF, dC, gK, dO, cB, aS, bU, bT, fN, aE, aH, aN, aY, bF, cN, bK, aA, eY, aL, cL, fJ, fE, gF, bJ, eP, eN, bY, fW, fI, eJ, dH, cO, dB, bD, aZ, aO, fZ, aJ, dE, dQ, bG, cC, fK, dL, gC, fM, eZ, eT, dU, aR, cH, dG, fY, fX, fD, cZ, aW, dV, fU, cR, eX, fP, cD, bO, eD, bB, dX, dW, cM, eL, eK, bE, cY, bA, dR, dY, eE, bL, cS, cQ, dN, bS, cW, cV, fO, bZ, eI, eM, gE, dZ, dS, dM, dD, bH, bR, bX, bW, aU, cX, aV, e12]
   rw [<- aBK, <- aBg] at o2
   exact ⟨0, by omega, x.trans x2 fun y hy h => by omega, .inr (.inr ⟨rfl, _, rfl, o2⟩)⟩
  .unfold qJ vA
   simp (disch := omega) only [gI, jD, dJ, stepR_skip, hJ, iC, iM, iP, iL, iO, jJ, iW, gM, iG, iI, iJ, iH, gY, iN, iA, iF, iX, iV, iK, gR, iR, iQ, iE, jW, jV, kH, kC, kG, kF, kI, kE, kD, gD, Result.ok.injEq, Next.value.injEq, true_and, and_true, gX, iB, iU, iT, iS, jI, aA9, gV, gU, gW, gT, gO, gJ, gP, gN, gB, fV, if_true, if_false, aA8, aBc, aBa, aBb, aBe, aBd, aA7, aA6, fQ, fL, fA, fR, cU, eS, eH, dK, bN, fS, fC, aM, dF, aX, bM, bP, aQ, cP, cG, eQ, aF, gS, aI, cK, aT, bV, fT, cI, cJ, aD, gA, fB, aP, aG, bQ, gQ, aK, fH, dT, dP, gG, dA, eU, dI, eF, fG, fF, cF, dC, gK, dO, cB, aS, bU, bT, fN, aE, aH, aN, aY, bF, cN, bK, aA, eY, aL, cL, fJ, fE, gF, bJ, eP, eN, bY, fW, fI, eJ, dH, cO, dB, bD, aZ, aO, fZ, aJ, dE, dQ, bG, cC, fK, dL, gC, fM, eZ, eT, dU, aR, cH, dG, fY, fX, fD, cZ, aW, dV, fU, cR, eX, fP, cD, bO, eD, bB, dX, dW, cM, eL, eK, bE, cY, bA, dR, dY, eE, bL, cS, cQ, dN, bS, cW, cV, fO, bZ, eI, eM, gE, dZ, dS, dM, dD, bH, bR, bX, bW, aU, cX, aV, d2]
   rw [hRR, <- hw0]
   exact ⟨ov, x⟩
theorem ahO {a : Option Addr} {c : Nat} {w : aDs} :
 jE pg BU #[.slice a 0 c] w (fun r w' => ∃ v, r = .tuple #[v, .int .i64 0] /\ yW w' w.heap.size 1 v 1 (([0] : List UInt8).map nR) /\ jN w w' mC) := by
 refine Sv ?_
 unfold QL Di C0
 refine (HC w).mono ?_
 rintro r w1 ⟨rfl, hlt, h1, x1⟩
 have d1 : decide ((98047 : Int) < ((0 : Nat) : Int)) = false := rfl
 have n1 : (((0 : Nat) : Int) == 0) = true := rfl
 simp (disch := omega) only [gI, jD, dJ, stepR_skip, hJ, iC, iM, iP, iL, iO, jJ, iW, gM, iG, iI, iJ, iH, gY, iN, iA, iF, iX, iV, iK, gR, iR, iQ, iE, jW, jV, kH, kC, kG, kF, kI, kE, kD, gD, Result.ok.injEq, Next.value.injEq, true_and, and_true, gX, iB, iU, iT, iS, jI, aA9, gV, gU, gW, gT, gO, gJ, gP, gN, gB, fV, if_true, if_false, aA8, aBc, aBa, aBb, aBe, aBd, aA7, aA6, fQ, fL, fA, fR, cU, eS, eH, dK, bN, fS, fC, aM, dF, aX, bM, bP, aQ, cP, cG, eQ, aF, gS, aI, cK, aT, bV, fT, cI, cJ, aD, gA, fB, aP, aG, bQ, gQ, aK, fH, dT, dP, gG, dA, eU, dI, eF, fG, fF, cF, dC, gK, dO, cB, aS, bU, bT, fN, aE, aH, aN, aY, bF, cN, bK, aA, eY, aL, cL, fJ, fE, gF, bJ, eP, eN, bY, fW, fI, eJ, dH, cO, dB, bD, aZ, aO, fZ, aJ, dE, dQ, bG, cC, fK, dL, gC, fM, eZ, eT, dU, aR, cH, dG, fY, fX, fD, cZ, aW, dV, fU, cR, eX, fP, cD, bO, eD, bB, dX, dW, cM, eL, eK, bE, cY, bA, dR, dY, eE, bL, cS, cQ, dN, bS, cW, cV, fO, bZ, eI, eM, gE, dZ, dS, dM, dD, bH, bR, bX, bW, aU, cX, aV, d1, n1]
 refine uE (cells := #[.int .u8 0]) (by decide) (by decide) (by kernel_rfl) fun w2 o2 x2 s2 => ?_
 have z1 := x1.size
 refine ⟨_, rfl, ?_⟩
 exact ⟨⟨rfl, .inr ⟨_, 1, [], rfl, by omega, o2, rfl, aBk _⟩⟩, x1.seq x2⟩
abbrev W5 (a b c : Nat) : aDt := .agg #[.int .u32 (a : Nat), .int .u32 (b : Nat), .int .u32 (c : Nat)]
def PkO (w : aDs) (base : Nat) (r : aDt) : Prop :=
 (∃ (e : Int) (a b c : Nat), e ≠ 0 /\ r = .tuple #[.slice none 0 0, W5 a b c, .int .i64 e]) ∨
 (∃ (x : aDt) (bytes : List UInt8) (a b c : Nat), r = .tuple #[x, W5 a b c, .int .i64 0] /\ yW w base 1 x bytes.length (bytes.map nR) /\ 2 <= bytes.length)
theorem aoQ {v : aDt} {l : List UInt8} {lvl a b c : Nat} {w : aDs} (h : Bs w v l) (hl : l.length <= 2) (hlv : lvl <= 9) :
 jE pg Ef #[v, .int .i64 0, .int .i64 (l.length : Nat), .int .i64 (lvl : Nat), W5 a b c] w (fun r w' => PkO w' w.heap.size r /\ jN w w' mC) := by
 refine Vj ?_
 obtain ⟨RR, hRR⟩ : ∃ RR : aDt -> aDs -> Prop, RR = fun r w' => PkO w' w.heap.size r /\ jN w w' mC := ⟨_, rfl⟩
 rw [<- hRR]
 have hv := h
 obtain ⟨va, vc, rfl, hvc⟩ := h.len
 rw [aBf] at hv hvc ⊢
 unfold US HH Hj
 refine Az fun w1 o1 x1 s1 => ?_
 have o1 : lN w1 w.heap.size [.int .u32 (a : Nat), .int .u32 (b : Nat), .int .u32 (c : Nat)] := o1
 obtain ⟨p, hp⟩ : ∃ p, p = w.heap.size := ⟨_, rfl⟩
 rw [<- hp] at o1 ⊢
 refine tI fun w2 o2 x2 s2 => ?_
 obtain ⟨q, hq⟩ : ∃ q, q = w1.heap.size := ⟨_, rfl⟩
 rw [<- hq] at o2 ⊢
 have o2 : lN w2 q [.int .u32 0, .int .u32 0, .int .u32 0] := o2
 have x02 := x1.seq x2
 have hv2 := hv.ext x02 (kL _)
 have hqp : q ≠ p := by omega
 have oP : ∀ {W}, jN w2 W mC -> lN W p [.int .u32 (a : Nat), .int .u32 (b : Nat), .int .u32 (c : Nat)] := fun x => (o1.ext x2 (fun h => h)).ext x (fun h => h)
 have oQ : ∀ {W}, jN w2 W mC -> lN W q [.int .u32 0, .int .u32 0, .int .u32 0] := fun x => o2.ext x (fun h => h)
 have ld : ∀ {W}, jN w2 W mC -> (jF 45 (.pointer (some ⟨p, 0, none⟩))).run pg W = .ok (.value (W5 a b c)) W := fun x => CE (off := 0) (oP x) (by simp)
 have ldd : ∀ {W}, jN w2 W mC -> (jF 45 (.pointer (some ⟨p, 0, none⟩))).run pg (dr W) = .ok (.value (W5 a b c)) (dr W) := fun x => ld (x.seq (jN.dr _ mC))
 have n0 : ((0 : Int) != 0) = false := rfl
 have told : ∀ (W : aDs) (K : aDt -> aDs -> Prop), jN w2 W mC -> (∀ W', jN w W' mC -> jN W W' (fun y => y = q) -> K (W5 a b c) W') →
     gI pg (jQ 45 (.pointer (some ⟨q, 0, none⟩)) (W5 a b c)) W fun _u w => MO pg 45 (.pointer (some ⟨q, 0, none⟩)) w fun r1 => K r1 w := by
  intro W K x hK
  refine qT (oQ x) rfl (by simp [one]) (by simp) fun w4 o4 x4 s4 => ?_
  refine HS o4 (by simp [kV]) ?_
  exact hK w4 ((x02.seq x).trans x4 fun y hy h => by omega) x4
 refine (ayE (a0 := 0) (to := l.length) (lvl := lvl) (B := l) hlv (by omega) (aBk _) (by omega) hv2).mono ?_
 rintro r w3 ⟨⟨fv, L, bg, rfl, oL, hpl, hbl, -, -⟩, x3⟩
 have hL0 : L = [] := by
  have := Zs hpl (by omega)
  exact aBT.1 (by omega)
 subst hL0
 obtain ⟨fa, fc, rfl⟩ := oL.len
 unfold HM HP H6 HB Hf
 have e0 : ((([] : List Sq).length : Nat) : Int) = 0 := rfl
 have e00 : ([] : List Sq).length = 0 := rfl
 simp (disch := omega) only [gI, jD, dJ, stepR_skip, hJ, iC, iM, iP, iL, iO, jJ, iW, gM, iG, iI, iJ, iH, gY, iN, iA, iF, iX, iV, iK, gR, iR, iQ, iE, jW, jV, kH, kC, kG, kF, kI, kE, kD, gD, Result.ok.injEq, Next.value.injEq, true_and, and_true, gX, iB, iU, iT, iS, jI, aA9, gV, gU, gW, gT, gO, gJ, gP, gN, gB, fV, if_true, if_false, aA8, aBc, aBa, aBb, aBe, aBd, aA7, aA6, fQ, fL, fA, fR, cU, eS, eH, dK, bN, fS, fC, aM, dF, aX, bM, bP, aQ, cP, cG, eQ, aF, gS, aI, cK, aT, bV, fT, cI, cJ, aD, gA, fB, aP, aG, bQ, gQ, aK, fH, dT, dP, gG, dA, eU, dI, eF, fG, fF, cF, dC, gK, dO, cB, aS, bU, bT, fN, aE, aH, aN, aY, bF, cN, bK, aA, eY, aL, cL, fJ, fE, gF, bJ, eP, eN, bY, fW, fI, eJ, dH, cO, dB, bD, aZ, aO, fZ, aJ, dE, dQ, bG, cC, fK, dL, gC, fM, eZ, eT, dU, aR, cH, dG, fY, fX, fD, cZ, aW, dV, fU, cR, eX, fP, cD, bO, eD, bB, dX, dW, cM, eL, eK, bE, cY, bA, dR, dY, eE, bL, cS, cQ, dN, bS, cW, cV, fO, bZ, eI, eM, gE, dZ, dS, dM, dD, bH, bR, bX, bW, aU, cX, aV, n0, e0, e00]
 refine kO.rule (fun m (t : aDt × aDt × aDt) W => m = 0 /\ t = (.slice none 0 0, .int .i64 0, .int .i64 0) /\ W = w3) 0 ⟨rfl, rfl, rfl⟩ ?_
 rintro m t W ⟨rfl, rfl, rfl⟩
 unfold CS
 have d0 : decide ((0 : Int) < ((0 : Nat) : Int)) = false := rfl
 have d0' : decide ((0 : Int) < 0) = false := rfl
 unfold CR
 have x23 : jN w2 W mC := x3
 have z23 := x23.size
 have hn : ((l.length : Nat) : Int).toNat = l.length := aA9 _
 have z0 : (0 : Int).toNat = 0 := rfl
 simp (disch := omega) only [gI, jD, dJ, stepR_skip, hJ, iC, iM, iP, iL, iO, jJ, iW, gM, iG, iI, iJ, iH, gY, iN, iA, iF, iX, iV, iK, gR, iR, iQ, iE, jW, jV, kH, kC, kG, kF, kI, kE, kD, gD, Result.ok.injEq, Next.value.injEq, true_and, and_true, gX, iB, iU, iT, iS, jI, aA9, gV, gU, gW, gT, gO, gJ, gP, gN, gB, fV, if_true, if_false, aA8, aBc, aBa, aBb, aBe, aBd, aA7, aA6, fQ, fL, fA, fR, cU, eS, eH, dK, bN, fS, fC, aM, dF, aX, bM, bP, aQ, cP, cG, eQ, aF, gS, aI, cK, aT, bV, fT, cI, cJ, aD, gA, fB, aP, aG, bQ, gQ, aK, fH, dT, dP, gG, dA, eU, dI, eF, fG, fF, cF, dC, gK, dO, cB, aS, bU, bT, fN, aE, aH, aN, aY, bF, cN, bK, aA, eY, aL, cL, fJ, fE, gF, bJ, eP, eN, bY, fW, fI, eJ, dH, cO, dB, bD, aZ, aO, fZ, aJ, dE, dQ, bG, cC, fK, dL, gC, fM, eZ, eT, dU, aR, cH, dG, fY, fX, fD, cZ, aW, dV, fU, cR, eX, fP, cD, bO, eD, bB, dX, dW, cM, eL, eK, bE, cY, bA, dR, dY, eE, bL, cS, cQ, dN, bS, cW, cV, fO, bZ, eI, eM, gE, dZ, dS, dM, dD, bH, bR, bX, bW, aU, cX, aV, d0, d0', hn, z0]
 have hsl : Bs W (.slice (mN va vc 0 1) (l.length - 0) (vc - 0)) l := by
  have := Sl.take' (hv.ext (x02.seq x23) (kL _)) (k := l.length) (aBk _)
  rw [aBp (by rw [aBf]; omega)] at this
  exact this
 have hcl := hsl.cl
 rw [aBf] at hcl
 refine mU (yW.nil W W.heap.size 1) hcl (F6 _) (aBk _) (by omega) fun v4 w4 o4 x4 => ?_
 rw [aBc, aBZ] at o4
 have x24 : jN w2 w4 mC := x23.trans x4 fun y hy h => by omega
 refine (aoN (l := l) o4.sl (by omega)).mono ?_
 rintro r w5 ⟨⟨xv, bytes, rfl, o5, hb1, hb2⟩, x5⟩
 have x25 := x24.seq x5
 have z25 := x25.size
 simp (disch := omega) only [gI, jD, dJ, stepR_skip, hJ, iC, iM, iP, iL, iO, jJ, iW, gM, iG, iI, iJ, iH, gY, iN, iA, iF, iX, iV, iK, gR, iR, iQ, iE, jW, jV, kH, kC, kG, kF, kI, kE, kD, gD, Result.ok.injEq, Next.value.injEq, true_and, and_true, gX, iB, iU, iT, iS, jI, aA9, gV, gU, gW, gT, gO, gJ, gP, gN, gB, fV, if_true, if_false, aA8, aBc, aBa, aBb, aBe, aBd, aA7, aA6, fQ, fL, fA, fR, cU, eS, eH, dK, bN, fS, fC, aM, dF, aX, bM, bP, aQ, cP, cG, eQ, aF, gS, aI, cK, aT, bV, fT, cI, cJ, aD, gA, fB, aP, aG, bQ, gQ, aK, fH, dT, dP, gG, dA, eU, dI, eF, fG, fF, cF, dC, gK, dO, cB, aS, bU, bT, fN, aE, aH, aN, aY, bF, cN, bK, aA, eY, aL, cL, fJ, fE, gF, bJ, eP, eN, bY, fW, fI, eJ, dH, cO, dB, bD, aZ, aO, fZ, aJ, dE, dQ, bG, cC, fK, dL, gC, fM, eZ, eT, dU, aR, cH, dG, fY, fX, fD, cZ, aW, dV, fU, cR, eX, fP, cD, bO, eD, bB, dX, dW, cM, eL, eK, bE, cY, bA, dR, dY, eE, bL, cS, cQ, dN, bS, cW, cV, fO, bZ, eI, eM, gE, dZ, dS, dM, dD, bH, bR, bX, bW, aU, cX, aV, n0]
 refine (ahO).mono ?_
 rintro r w6 ⟨yv, rfl, o6, x6⟩
 have x26 := x25.seq x6
 have z26 := x26.size
 have hx6 : Bs w6 xv bytes := (o5.sl).ext x6 (kL _)
 have hy6 : Bs w6 yv [0] := o6.sl
 have hx6' := hx6
 have hy6' := hy6
 obtain ⟨xa, xc, rfl, -⟩ := hx6.len
 obtain ⟨ya, yc, rfl, -⟩ := hy6.len
 rw [aBf] at hx6' hy6'
 rw [aBf, aBf]
 have l6 := ldd x26
 simp (disch := omega) only [gI, jD, dJ, stepR_skip, hJ, iC, iM, iP, iL, iO, jJ, iW, gM, iG, iI, iJ, iH, gY, iN, iA, iF, iX, iV, iK, gR, iR, iQ, iE, jW, jV, kH, kC, kG, kF, kI, kE, kD, gD, Result.ok.injEq, Next.value.injEq, true_and, and_true, gX, iB, iU, iT, iS, jI, aA9, gV, gU, gW, gT, gO, gJ, gP, gN, gB, fV, if_true, if_false, aA8, aBc, aBa, aBb, aBe, aBd, aA7, aA6, fQ, fL, fA, fR, cU, eS, eH, dK, bN, fS, fC, aM, dF, aX, bM, bP, aQ, cP, cG, eQ, aF, gS, aI, cK, aT, bV, fT, cI, cJ, aD, gA, fB, aP, aG, bQ, gQ, aK, fH, dT, dP, gG, dA, eU, dI, eF, fG, fF, cF, dC, gK, dO, cB, aS, bU, bT, fN, aE, aH, aN, aY, bF, cN, bK, aA, eY, aL, cL, fJ, fE, gF, bJ, eP, eN, bY, fW, fI, eJ, dH, cO, dB, bD, aZ, aO, fZ, aJ, dE, dQ, bG, cC, fK, dL, gC, fM, eZ, eT, dU, aR, cH, dG, fY, fX, fD, cZ, aW, dV, fU, cR, eX, fP, cD, bO, eD, bB, dX, dW, cM, eL, eK, bE, cY, bA, dR, dY, eE, bL, cS, cQ, dN, bS, cW, cV, fO, bZ, eI, eM, gE, dZ, dS, dM, dD, bH, bR, bX, bW, aU, cX, aV, n0]
 refine Tq (cells := #[.slice xa bytes.length xc, .slice ya [(0 : UInt8)].length yc]) (by decide) (by decide) (by kernel_rfl) fun w7 o7 x7 s7 => ?_
 have x6d : jN w2 (dr w6) mC := x26.seq (jN.dr _ mC)
 have x27 := x6d.seq x7
 have z27 := x27.size
 have hx7 : Bs w7 (.slice xa bytes.length xc) bytes := (hx6'.ext (jN.dr _ mC) (kL _)).ext x7 (kL _)
 have hy7 : Bs w7 (.slice ya [(0 : UInt8)].length yc) [0] := (hy6'.ext (jN.dr _ mC) (kL _)).ext x7 (kL _)
 refine (aqB (l := bytes) (m := [0]) o7 hx7 hy7 hb1 (by omega) (by simp)).mono ?_
 rintro r w8 ⟨o8, x8⟩
 have x28 := x27.seq x8
 have l7 := ld x27
 have l8 := ld x28
 simp (disch := omega) only [gI, jD, dJ, stepR_skip, hJ, iC, iM, iP, iL, iO, jJ, iW, gM, iG, iI, iJ, iH, gY, iN, iA, iF, iX, iV, iK, gR, iR, iQ, iE, jW, jV, kH, kC, kG, kF, kI, kE, kD, gD, Result.ok.injEq, Next.value.injEq, true_and, and_true, gX, iB, iU, iT, iS, jI, aA9, gV, gU, gW, gT, gO, gJ, gP, gN, gB, fV, if_true, if_false, aA8, aBc, aBa, aBb, aBe, aBd, aA7, aA6, fQ, fL, fA, fR, cU, eS, eH, dK, bN, fS, fC, aM, dF, aX, bM, bP, aQ, cP, cG, eQ, aF, gS, aI, cK, aT, bV, fT, cI, cJ, aD, gA, fB, aP, aG, bQ, gQ, aK, fH, dT, dP, gG, dA, eU, dI, eF, fG, fF, cF, dC, gK, dO, cB, aS, bU, bT, fN, aE, aH, aN, aY, bF, cN, bK, aA, eY, aL, cL, fJ, fE, gF, bJ, eP, eN, bY, fW, fI, eJ, dH, cO, dB, bD, aZ, aO, fZ, aJ, dE, dQ, bG, cC, fK, dL, gC, fM, eZ, eT, dU, aR, cH, dG, fY, fX, fD, cZ, aW, dV, fU, cR, eX, fP, cD, bO, eD, bB, dX, dW, cM, eL, eK, bE, cY, bA, dR, dY, eE, bL, cS, cQ, dN, bS, cW, cV, fO, bZ, eI, eM, gE, dZ, dS, dM, dD, bH, bR, bX, bW, aU, cX, aV, l6, l7, l8]
 refine told w8 (fun r1 w => RR (.tuple #[r, r1, .int .i64 0]) w) x28 fun W' xw xq => ?_
 rw [hRR]
 refine ⟨.inr ⟨r, bytes ++ [0], a, b, c, rfl, ?_, by rw [aBg]; simp; omega⟩, xw⟩
 exact (o8.ext xq (fun y hy h => by omega)).lower (by omega)
end Go.Proofs.YtoecppploooloaaGreatDoor
namespace Go.Proofs.YtoecppploooloaaGreatDoor
open Go Go.En Go.Pu
set_option maxRecDepth 4000
def Jd (l : List UInt8) : List UInt8 := if Ev l then YA l.length (l.headD 0) true else aqL l
def azG (w : aDs) (base : Nat) (l : List UInt8) (r : aDt) : Prop := ∃ (v : aDt) (a b c : Nat), r = .tuple #[v, W5 a b c, .int .i64 0] /\ yW w base 1 v (Jd l).length ((Jd l).map nR)
theorem avO {v : aDt} {l : List UInt8} {lvl a b c : Nat} {w : aDs} (h : Bs w v l) (h1 : 1 <= l.length) (hl : l.length <= 65536) (hs : Ev l = true ∨ l.length <= 2) (hlv : lvl <= 9) :
 jE pg FP #[v, .int .i64 0, .int .i64 (l.length : Nat), .int .i64 (lvl : Nat), W5 a b c] w (fun r w' => azG w' w.heap.size l r /\ jN w w' mC) := by
 refine Ww ?_
 obtain ⟨RR, hRR⟩ : ∃ RR : aDt -> aDs -> Prop, RR = fun r w' => azG w' w.heap.size l r /\ jN w w' mC := ⟨_, rfl⟩
 rw [<- hRR]
 have hv := h
 obtain ⟨va, vc, rfl, hvc⟩ := h.len
 rw [aBf] at hv hvc ⊢
 unfold WV I7 Jc
 refine Az fun w1 o1 x1 s1 => ?_
 have o1 : lN w1 w.heap.size [.int .u32 (a : Nat), .int .u32 (b : Nat), .int .u32 (c : Nat)] := o1
 obtain ⟨p, hp⟩ : ∃ p, p = w.heap.size := ⟨_, rfl⟩
 rw [<- hp] at o1 ⊢
 refine tI fun w2 o2 x2 s2 => ?_
 obtain ⟨q, hq⟩ : ∃ q, q = w1.heap.size := ⟨_, rfl⟩
 rw [<- hq] at o2 ⊢
 have o2 : lN w2 q [.int .u32 0, .int .u32 0, .int .u32 0] := o2
 have hn : ((l.length : Nat) : Int).toNat = l.length := aA9 _
 have z0 : (0 : Int).toNat = 0 := rfl
 have k1 : (((l.length : Nat) : Int) == ((l.length : Nat) : Int)) = true := beq_self_eq_true _
 have hs0 : l.length - 0 = l.length := rfl
 simp (disch := omega) only [gI, jD, dJ, stepR_skip, hJ, iC, iM, iP, iL, iO, jJ, iW, gM, iG, iI, iJ, iH, gY, iN, iA, iF, iX, iV, iK, gR, iR, iQ, iE, jW, jV, kH, kC, kG, kF, kI, kE, kD, gD, Result.ok.injEq, Next.value.injEq, true_and, and_true, gX, iB, iU, iT, iS, jI, aA9, gV, gU, gW, gT, gO, gJ, gP, gN, gB, fV, if_true, if_false, aA8, aBc, aBa, aBb, aBe, aBd, aA7, aA6, fQ, fL, fA, fR, cU, eS, eH, dK, bN, fS, fC, aM, dF, aX, bM, bP, aQ, cP, cG, eQ, aF, gS, aI, cK, aT, bV, fT, cI, cJ, aD, gA, fB, aP, aG, bQ, gQ, aK, fH, dT, dP, gG, dA, eU, dI, eF, fG, fF, cF, dC, gK, dO, cB, aS, bU, bT, fN, aE, aH, aN, aY, bF, cN, bK, aA, eY, aL, cL, fJ, fE, gF, bJ, eP, eN, bY, fW, fI, eJ, dH, cO, dB, bD, aZ, aO, fZ, aJ, dE, dQ, bG, cC, fK, dL, gC, fM, eZ, eT, dU, aR, cH, dG, fY, fX, fD, cZ, aW, dV, fU, cR, eX, fP, cD, bO, eD, bB, dX, dW, cM, eL, eK, bE, cY, bA, dR, dY, eE, bL, cS, cQ, dN, bS, cW, cV, fO, bZ, eI, eM, gE, dZ, dS, dM, dD, bH, bR, bX, bW, aU, cX, aV, hn, z0, k1, hs0]
 obtain ⟨na, hna⟩ : ∃ na, na = mN va vc 0 1 := ⟨_, rfl⟩
 rw [<- hna]
 refine Gi fun w3 o3 x3 s3 => ?_
 obtain ⟨x, hx⟩ : ∃ x, x = w2.heap.size := ⟨_, rfl⟩
 rw [<- hx] at o3 ⊢
 refine AH o3 rfl (by simp [one]) (by simp) fun w4 o4 x4 s4 => ?_
 have o4 : lN w4 x [.bool true, .int .i64 0, .int .i64 (l.length : Nat)] := o4
 have x24 : jN w2 w4 mC := x3.trans x4 fun y hy h => by omega
 have x04 : jN w w4 mC := (x1.seq x2).seq x24
 have hpq : p ≠ q := by omega
 have hxp : x ≠ p := by omega
 have hxq : x ≠ q := by omega
 have oP : ∀ {W} {M : Nat -> Prop}, jN w4 W M -> ¬ M p -> lN W p [.int .u32 (a : Nat), .int .u32 (b : Nat), .int .u32 (c : Nat)] := fun xx hm => ((o1.ext x2 (fun h => h)).ext x24 (fun h => h)).ext xx hm
 have oQ : ∀ {W} {M : Nat -> Prop}, jN w4 W M -> ¬ M q -> lN W q [.int .u32 0, .int .u32 0, .int .u32 0] := fun xx hm => (o2.ext x24 (fun h => h)).ext xx hm
 have ld : ∀ {W} {M : Nat -> Prop}, jN w4 W M -> ¬ M p -> (jF 45 (.pointer (some ⟨p, 0, none⟩))).run pg W = .ok (.value (W5 a b c)) W := fun xx hm => CE (off := 0) (oP xx hm) (by simp)
 have lt4 : x < w4.heap.size := o4.lt
 have hold : ¬ Mz (.slice na l.length (vc - 0)) (fun y => w2.heap.size <= y) := by
  have := Sl.take' (hv.ext (x1.seq x2) (kL _)) (k := l.length) (aBk _)
  rw [<- hna] at this
  exact this.old
 have hsl : Bs w4 (.slice na l.length (vc - 0)) l := by
  have := Sl.take' (hv.ext x04 (kL _)) (k := l.length) (aBk _)
  rw [aBp (by rw [aBf]; omega), <- hna] at this
  exact this
 obtain ⟨nc, hnc⟩ : ∃ nc, nc = vc - 0 := ⟨_, rfl⟩
 rw [<- hnc] at hsl hold ⊢
 have n0 : ((0 : Int) != 0) = false := rfl
 have told : ∀ (W : aDs) (K : aDt -> aDs -> Prop) (M : Nat -> Prop), jN w4 W M -> ¬ M q -> jN w W mC -> (∀ W', jN w W' mC -> jN W W' (fun y => y = q) -> K (W5 a b c) W') →
     gI pg (jQ 45 (.pointer (some ⟨q, 0, none⟩)) (W5 a b c)) W fun _u w => MO pg 45 (.pointer (some ⟨q, 0, none⟩)) w fun r1 => K r1 w := by
  intro W K M xx hm x0 hK
  refine qT (oQ xx hm) rfl (by simp [one]) (by simp) fun w5 o5 x5 s5 => ?_
  refine HS o5 (by simp [kV]) ?_
  exact hK w5 (x0.trans x5 fun y hy h => by omega) x5
 have tail : ∀ (W : aDs) (k : Nat) (ba : Option Addr) (bc : Nat) (bl : List UInt8), k <= 2 -> lN W x [.bool true, .int .i64 (k : Nat), .int .i64 (l.length : Nat)] -> jN w4 W (fun y => y = x) -> Bs W (.slice ba bl.length bc) bl -> bl.length <= 65536 -> b3 (8 * l.length + 2 * k + 1) ++ bl = Jd l →
     vK RR (.pointer (some ⟨p, 0, none⟩)) (.pointer (some ⟨q, 0, none⟩)) (.pointer (some ⟨x, 0, none⟩)) (.slice ba bl.length bc) W := by
  intro W k ba bc bl hk oX xW hb hbl he
  unfold vK
  have ldx : (jF 65 (.pointer (some ⟨x, 0, none⟩))).run pg W = .ok (.value (.agg #[.bool true, .int .i64 (k : Nat), .int .i64 (l.length : Nat)])) W := Zm (off := 0) oX (by simp)
  have x0W : jN w W mC := x04.trans xW fun y hy h => by omega
  simp (disch := omega) only [gI, jD, dJ, stepR_skip, hJ, iC, iM, iP, iL, iO, jJ, iW, gM, iG, iI, iJ, iH, gY, iN, iA, iF, iX, iV, iK, gR, iR, iQ, iE, jW, jV, kH, kC, kG, kF, kI, kE, kD, gD, Result.ok.injEq, Next.value.injEq, true_and, and_true, gX, iB, iU, iT, iS, jI, aA9, gV, gU, gW, gT, gO, gJ, gP, gN, gB, fV, if_true, if_false, aA8, aBc, aBa, aBb, aBe, aBd, aA7, aA6, fQ, fL, fA, fR, cU, eS, eH, dK, bN, fS, fC, aM, dF, aX, bM, bP, aQ, cP, cG, eQ, aF, gS, aI, cK, aT, bV, fT, cI, cJ, aD, gA, fB, aP, aG, bQ, gQ, aK, fH, dT, dP, gG, dA, eU, dI, eF, fG, fF, cF, dC, gK, dO, cB, aS, bU, bT, fN, aE, aH, aN, aY, bF, cN, bK, aA, eY, aL, cL, fJ, fE, gF, bJ, eP, eN, bY, fW, fI, eJ, dH, cO, dB, bD, aZ, aO, fZ, aJ, dE, dQ, bG, cC, fK, dL, gC, fM, eZ, eT, dU, aR, cH, dG, fY, fX, fD, cZ, aW, dV, fU, cR, eX, fP, cD, bO, eD, bB, dX, dW, cM, eL, eK, bE, cY, bA, dR, dY, eE, bL, cS, cQ, dN, bS, cW, cV, fO, bZ, eI, eM, gE, dZ, dS, dM, dD, bH, bR, bX, bW, aU, cX, aV, ldx]
  refine (aeM hk (by omega)).mono ?_
  rintro r w5 ⟨hv5, rfl, o5, x5⟩
  have he1 : (8 * l.length + 2 * k + if true = true then 1 else 0) = 8 * l.length + 2 * k + 1 := by simp
  rw [he1] at o5
  have x45 : jN w4 w5 (fun y => y = x) := xW.seq (x5.mono fun _ _ h => h.elim)
  have l5 := ld x45 (fun h => hxp h.symm)
  have x4d : jN w4 (dr w5) (fun y => y = x) := x45.seq (jN.dr _ _)
  have l5d := ld x4d (fun h => hxp h.symm)
  have z5 := x5.size
  simp (disch := omega) only [gI, jD, dJ, stepR_skip, hJ, iC, iM, iP, iL, iO, jJ, iW, gM, iG, iI, iJ, iH, gY, iN, iA, iF, iX, iV, iK, gR, iR, iQ, iE, jW, jV, kH, kC, kG, kF, kI, kE, kD, gD, Result.ok.injEq, Next.value.injEq, true_and, and_true, gX, iB, iU, iT, iS, jI, aA9, gV, gU, gW, gT, gO, gJ, gP, gN, gB, fV, if_true, if_false, aA8, aBc, aBa, aBb, aBe, aBd, aA7, aA6, fQ, fL, fA, fR, cU, eS, eH, dK, bN, fS, fC, aM, dF, aX, bM, bP, aQ, cP, cG, eQ, aF, gS, aI, cK, aT, bV, fT, cI, cJ, aD, gA, fB, aP, aG, bQ, gQ, aK, fH, dT, dP, gG, dA, eU, dI, eF, fG, fF, cF, dC, gK, dO, cB, aS, bU, bT, fN, aE, aH, aN, aY, bF, cN, bK, aA, eY, aL, cL, fJ, fE, gF, bJ, eP, eN, bY, fW, fI, eJ, dH, cO, dB, bD, aZ, aO, fZ, aJ, dE, dQ, bG, cC, fK, dL, gC, fM, eZ, eT, dU, aR, cH, dG, fY, fX, fD, cZ, aW, dV, fU, cR, eX, fP, cD, bO, eD, bB, dX, dW, cM, eL, eK, bE, cY, bA, dR, dY, eE, bL, cS, cQ, dN, bS, cW, cV, fO, bZ, eI, eM, gE, dZ, dS, dM, dD, bH, bR, bX, bW, aU, cX, aV, n0, l5d]
  have hb5 := (hb.ext x5 (kL _)).ext (jN.dr _ mC) (kL _)
  have hcl := hb5.cl
  rw [aBf] at hcl
  refine mU (o5.ext (jN.dr _ mC) (fun _ _ h => h)) hcl (F6 _) (by show W.heap.size <= (dr w5).heap.size; exact z5) (by omega) fun v6 w6 o6 x6 => ?_
  have o6 : yW w6 W.heap.size 1 v6 (Jd l).length ((Jd l).map nR) := by
   rw [<- he, aBg, aBK]
   exact o6
  have zW := xW.size
  have x46 : jN w4 w6 (fun y => y = x) := x4d.trans x6 fun y hy h => by omega
  have l6 := ld x46 (fun h => hxp h.symm)
  have x06 : jN w w6 mC := ((x0W.seq x5).seq (jN.dr _ mC)).trans x6 fun y hy h => by omega
  simp (disch := omega) only [gI, jD, dJ, stepR_skip, hJ, iC, iM, iP, iL, iO, jJ, iW, gM, iG, iI, iJ, iH, gY, iN, iA, iF, iX, iV, iK, gR, iR, iQ, iE, jW, jV, kH, kC, kG, kF, kI, kE, kD, gD, Result.ok.injEq, Next.value.injEq, true_and, and_true, gX, iB, iU, iT, iS, jI, aA9, gV, gU, gW, gT, gO, gJ, gP, gN, gB, fV, if_true, if_false, aA8, aBc, aBa, aBb, aBe, aBd, aA7, aA6, fQ, fL, fA, fR, cU, eS, eH, dK, bN, fS, fC, aM, dF, aX, bM, bP, aQ, cP, cG, eQ, aF, gS, aI, cK, aT, bV, fT, cI, cJ, aD, gA, fB, aP, aG, bQ, gQ, aK, fH, dT, dP, gG, dA, eU, dI, eF, fG, fF, cF, dC, gK, dO, cB, aS, bU, bT, fN, aE, aH, aN, aY, bF, cN, bK, aA, eY, aL, cL, fJ, fE, gF, bJ, eP, eN, bY, fW, fI, eJ, dH, cO, dB, bD, aZ, aO, fZ, aJ, dE, dQ, bG, cC, fK, dL, gC, fM, eZ, eT, dU, aR, cH, dG, fY, fX, fD, cZ, aW, dV, fU, cR, eX, fP, cD, bO, eD, bB, dX, dW, cM, eL, eK, bE, cY, bA, dR, dY, eE, bL, cS, cQ, dN, bS, cW, cV, fO, bZ, eI, eM, gE, dZ, dS, dM, dD, bH, bR, bX, bW, aU, cX, aV, l6, l5d]
  refine told w6 (fun r1 w => RR (.tuple #[v6, r1, .int .i64 0]) w) _ x46 (fun h => hxq h.symm) x06 fun W' xw xq => ?_
  rw [hRR]
  refine ⟨⟨v6, a, b, c, rfl, ?_⟩, xw⟩
  refine (o6.ext xq fun y hy h => by omega).lower (by omega)
 refine (akO hsl (by omega)).mono ?_
 rintro r w5 ⟨rfl, x5⟩
 have o5 := o4.ext x5 (fun h => h)
 cases hal : Ev l with
 | true =>
   have hblk : Jd l = YA l.length (l.headD 0) true := by unfold Jd; rw [if_pos hal]
   have z1 : (1 : Int).toNat = 1 := rfl
   have d1 : (1 : Int) <= (nc : Int) := by
    have := hsl.len
    obtain ⟨a', c', he, hc'⟩ := this
    simp only [Value.slice.injEq] at he
    rw [aBf] at hc'
    omega
   have hn10 : 1 - 0 = 1 := rfl
   simp (disch := omega) only [gI, jD, dJ, stepR_skip, hJ, iC, iM, iP, iL, iO, jJ, iW, gM, iG, iI, iJ, iH, gY, iN, iA, iF, iX, iV, iK, gR, iR, iQ, iE, jW, jV, kH, kC, kG, kF, kI, kE, kD, gD, Result.ok.injEq, Next.value.injEq, true_and, and_true, gX, iB, iU, iT, iS, jI, aA9, gV, gU, gW, gT, gO, gJ, gP, gN, gB, fV, if_true, if_false, aA8, aBc, aBa, aBb, aBe, aBd, aA7, aA6, fQ, fL, fA, fR, cU, eS, eH, dK, bN, fS, fC, aM, dF, aX, bM, bP, aQ, cP, cG, eQ, aF, gS, aI, cK, aT, bV, fT, cI, cJ, aD, gA, fB, aP, aG, bQ, gQ, aK, fH, dT, dP, gG, dA, eU, dI, eF, fG, fF, cF, dC, gK, dO, cB, aS, bU, bT, fN, aE, aH, aN, aY, bF, cN, bK, aA, eY, aL, cL, fJ, fE, gF, bJ, eP, eN, bY, fW, fI, eJ, dH, cO, dB, bD, aZ, aO, fZ, aJ, dE, dQ, bG, cC, fK, dL, gC, fM, eZ, eT, dU, aR, cH, dG, fY, fX, fD, cZ, aW, dV, fU, cR, eX, fP, cD, bO, eD, bB, dX, dW, cM, eL, eK, bE, cY, bA, dR, dY, eE, bL, cS, cQ, dN, bS, cW, cV, fO, bZ, eI, eM, gE, dZ, dS, dM, dD, bH, bR, bX, bW, aU, cX, aV, z1, hn10]
   obtain ⟨ma, hma⟩ : ∃ ma, ma = mN na nc 0 1 := ⟨_, rfl⟩
   rw [<- hma]
   have s5d := fun (W : aDs) => eH (k := .i64) (hi := (1 : Int)) na l.length nc W (by omega) (by omega)
   rw [<- hma] at s5d
   refine LA (off := 1) (o5.ext (jN.dr _ mC) (fun h => h)) rfl (by simp) fun w6 o6 x6 s6 => ?_
   simp only [aBj, aBl] at o6
   have x46 : jN w4 w6 (fun y => y = x) := (x5.mono fun _ _ h => h.elim).seq ((jN.dr _ _).seq x6)
   have hb6 : Bs w6 (.slice ma 1 (nc - 0)) [l.headD 0] := by
    have := Sl.take' (hsl.ext x46 fun hi => ?_) (k := 1) (by omega)
    .rw [<- hma] at this
     have e : (l.map nR).take 1 = ([l.headD 0] : List UInt8).map nR := by
      cases l with
      | nil => cases h1
      | cons c r => rfl
     rw [e] at this
     exact this
    .exact hold (DO hi fun y hy => by omega)
   have t6 := tail w6 1 ma (nc - 0) [l.headD 0] (by omega) o6 x46 hb6 (by simp) (by rw [hblk]; unfold YA smX; simp)
   first
    | exact t6
    | (simp (disch := omega) only [gI, jD, dJ, stepR_skip, hJ, iC, iM, iP, iL, iO, jJ, iW, gM, iG, iI, iJ, iH, gY, iN, iA, iF, iX, iV, iK, gR, iR, iQ, iE, jW, jV, kH, kC, kG, kF, kI, kE, kD, gD, Result.ok.injEq, Next.value.injEq, true_and, and_true, gX, iB, iU, iT, iS, jI, aA9, gV, gU, gW, gT, gO, gJ, gP, gN, gB, fV, if_true, if_false, aA8, aBc, aBa, aBb, aBe, aBd, aA7, aA6, fQ, fL, fA, fR, cU, eS, eH, dK, bN, fS, fC, aM, dF, aX, bM, bP, aQ, cP, cG, eQ, aF, gS, aI, cK, aT, bV, fT, cI, cJ, aD, gA, fB, aP, aG, bQ, gQ, aK, fH, dT, dP, gG, dA, eU, dI, eF, fG, fF, cF, dC, gK, dO, cB, aS, bU, bT, fN, aE, aH, aN, aY, bF, cN, bK, aA, eY, aL, cL, fJ, fE, gF, bJ, eP, eN, bY, fW, fI, eJ, dH, cO, dB, bD, aZ, aO, fZ, aJ, dE, dQ, bG, cC, fK, dL, gC, fM, eZ, eT, dU, aR, cH, dG, fY, fX, fD, cZ, aW, dV, fU, cR, eX, fP, cD, bO, eD, bB, dX, dW, cM, eL, eK, bE, cY, bA, dR, dY, eE, bL, cS, cQ, dN, bS, cW, cV, fO, bZ, eI, eM, gE, dZ, dS, dM, dD, bH, bR, bX, bW, aU, cX, aV, s5d, z1, hn10]
       exact t6)
    | (simp (disch := omega) only [gI, jD, dJ, stepR_skip, hJ, iC, iM, iP, iL, iO, jJ, iW, gM, iG, iI, iJ, iH, gY, iN, iA, iF, iX, iV, iK, gR, iR, iQ, iE, jW, jV, kH, kC, kG, kF, kI, kE, kD, gD, Result.ok.injEq, Next.value.injEq, true_and, and_true, gX, iB, iU, iT, iS, jI, aA9, gV, gU, gW, gT, gO, gJ, gP, gN, gB, fV, if_true, if_false, aA8, aBc, aBa, aBb, aBe, aBd, aA7, aA6, fQ, fL, fA, fR, cU, eS, eH, dK, bN, fS, fC, aM, dF, aX, bM, bP, aQ, cP, cG, eQ, aF, gS, aI, cK, aT, bV, fT, cI, cJ, aD, gA, fB, aP, aG, bQ, gQ, aK, fH, dT, dP, gG, dA, eU, dI, eF, fG, fF, cF, dC, gK, dO, cB, aS, bU, bT, fN, aE, aH, aN, aY, bF, cN, bK, aA, eY, aL, cL, fJ, fE, gF, bJ, eP, eN, bY, fW, fI, eJ, dH, cO, dB, bD, aZ, aO, fZ, aJ, dE, dQ, bG, cC, fK, dL, gC, fM, eZ, eT, dU, aR, cH, dG, fY, fX, fD, cZ, aW, dV, fU, cR, eX, fP, cD, bO, eD, bB, dX, dW, cM, eL, eK, bE, cY, bA, dR, dY, eE, bL, cS, cQ, dN, bS, cW, cV, fO, bZ, eI, eM, gE, dZ, dS, dM, dD, bH, bR, bX, bW, aU, cX, aV, s5d, z1, hn10])
 | false =>
   have hl2 : l.length <= 2 := by
    rcases hs with h | h
    .rw [hal] at h; cases h
    .exact h
   have x45 : jN w4 w5 (fun y => y = x) := x5.mono fun _ _ h => h.elim
   have hblk : Jd l = aqL l := by unfold Jd; rw [if_neg (by rw [hal]; decide)]
   have l5 := ld x45 (fun h => hxp h.symm)
   try simp (disch := omega) only [gI, jD, dJ, stepR_skip, hJ, iC, iM, iP, iL, iO, jJ, iW, gM, iG, iI, iJ, iH, gY, iN, iA, iF, iX, iV, iK, gR, iR, iQ, iE, jW, jV, kH, kC, kG, kF, kI, kE, kD, gD, Result.ok.injEq, Next.value.injEq, true_and, and_true, gX, iB, iU, iT, iS, jI, aA9, gV, gU, gW, gT, gO, gJ, gP, gN, gB, fV, if_true, if_false, aA8, aBc, aBa, aBb, aBe, aBd, aA7, aA6, fQ, fL, fA, fR, cU, eS, eH, dK, bN, fS, fC, aM, dF, aX, bM, bP, aQ, cP, cG, eQ, aF, gS, aI, cK, aT, bV, fT, cI, cJ, aD, gA, fB, aP, aG, bQ, gQ, aK, fH, dT, dP, gG, dA, eU, dI, eF, fG, fF, cF, dC, gK, dO, cB, aS, bU, bT, fN, aE, aH, aN, aY, bF, cN, bK, aA, eY, aL, cL, fJ, fE, gF, bJ, eP, eN, bY, fW, fI, eJ, dH, cO, dB, bD, aZ, aO, fZ, aJ, dE, dQ, bG, cC, fK, dL, gC, fM, eZ, eT, dU, aR, cH, dG, fY, fX, fD, cZ, aW, dV, fU, cR, eX, fP, cD, bO, eD, bB, dX, dW, cM, eL, eK, bE, cY, bA, dR, dY, eE, bL, cS, cQ, dN, bS, cW, cV, fO, bZ, eI, eM, gE, dZ, dS, dM, dD, bH, bR, bX, bW, aU, cX, aV, l5]
   refine (aoQ (l := l) (lvl := lvl) (hv.ext (x04.seq x5) (kL _)) hl2 hlv).mono ?_
   rintro r w6 ⟨ho, x6⟩
   have hb6 := (hsl.ext x5 (kL _)).ext x6 (kL _)
   have fin : ∀ W, jN w6 W mC -> vK RR (.pointer (some ⟨p, 0, none⟩)) (.pointer (some ⟨q, 0, none⟩)) (.pointer (some ⟨x, 0, none⟩)) (.slice na l.length nc) W := fun W xx =>
    tail W 0 na nc l (by omega) ((o5.ext x6 (fun h => h)).ext xx (fun h => h)) ((x45.seq (x6.mono fun _ _ h => h.elim)).seq (xx.mono fun _ _ h => h.elim)) (hb6.ext xx (kL _)) hl (by rw [hblk] <;> rfl)
   rcases ho with ⟨e, a', b', c', he, rfl⟩ | ⟨xv, bytes, a', b', c', rfl, ox, hb2⟩
   .have e0 : (e == 0) = false := beq_eq_false_iff_ne.2 he
    simp (disch := omega) only [gI, jD, dJ, stepR_skip, hJ, iC, iM, iP, iL, iO, jJ, iW, gM, iG, iI, iJ, iH, gY, iN, iA, iF, iX, iV, iK, gR, iR, iQ, iE, jW, jV, kH, kC, kG, kF, kI, kE, kD, gD, Result.ok.injEq, Next.value.injEq, true_and, and_true, gX, iB, iU, iT, iS, jI, aA9, gV, gU, gW, gT, gO, gJ, gP, gN, gB, fV, if_true, if_false, aA8, aBc, aBa, aBb, aBe, aBd, aA7, aA6, fQ, fL, fA, fR, cU, eS, eH, dK, bN, fS, fC, aM, dF, aX, bM, bP, aQ, cP, cG, eQ, aF, gS, aI, cK, aT, bV, fT, cI, cJ, aD, gA, fB, aP, aG, bQ, gQ, aK, fH, dT, dP, gG, dA, eU, dI, eF, fG, fF, cF, dC, gK, dO, cB, aS, bU, bT, fN, aE, aH, aN, aY, bF, cN, bK, aA, eY, aL, cL, fJ, fE, gF, bJ, eP, eN, bY, fW, fI, eJ, dH, cO, dB, bD, aZ, aO, fZ, aJ, dE, dQ, bG, cC, fK, dL, gC, fM, eZ, eT, dU, aR, cH, dG, fY, fX, fD, cZ, aW, dV, fU, cR, eX, fP, cD, bO, eD, bB, dX, dW, cM, eL, eK, bE, cY, bA, dR, dY, eE, bL, cS, cQ, dN, bS, cW, cV, fO, bZ, eI, eM, gE, dZ, dS, dM, dD, bH, bR, bX, bW, aU, cX, aV]
    refine tI fun w7 o7 x7 s7 => ?_
    refine qT o7 rfl (by simp [one]) (by simp) fun w8 o8 x8 s8 => ?_
    simp (disch := omega) only [gI, jD, dJ, stepR_skip, hJ, iC, iM, iP, iL, iO, jJ, iW, gM, iG, iI, iJ, iH, gY, iN, iA, iF, iX, iV, iK, gR, iR, iQ, iE, jW, jV, kH, kC, kG, kF, kI, kE, kD, gD, Result.ok.injEq, Next.value.injEq, true_and, and_true, gX, iB, iU, iT, iS, jI, aA9, gV, gU, gW, gT, gO, gJ, gP, gN, gB, fV, if_true, if_false, aA8, aBc, aBa, aBb, aBe, aBd, aA7, aA6, fQ, fL, fA, fR, cU, eS, eH, dK, bN, fS, fC, aM, dF, aX, bM, bP, aQ, cP, cG, eQ, aF, gS, aI, cK, aT, bV, fT, cI, cJ, aD, gA, fB, aP, aG, bQ, gQ, aK, fH, dT, dP, gG, dA, eU, dI, eF, fG, fF, cF, dC, gK, dO, cB, aS, bU, bT, fN, aE, aH, aN, aY, bF, cN, bK, aA, eY, aL, cL, fJ, fE, gF, bJ, eP, eN, bY, fW, fI, eJ, dH, cO, dB, bD, aZ, aO, fZ, aJ, dE, dQ, bG, cC, fK, dL, gC, fM, eZ, eT, dU, aR, cH, dG, fY, fX, fD, cZ, aW, dV, fU, cR, eX, fP, cD, bO, eD, bB, dX, dW, cM, eL, eK, bE, cY, bA, dR, dY, eE, bL, cS, cQ, dN, bS, cW, cV, fO, bZ, eI, eM, gE, dZ, dS, dM, dD, bH, bR, bX, bW, aU, cX, aV, e0]
    exact fin w8 (x7.trans x8 fun y hy h => by omega)
   .have e0 : ((0 : Int) == 0) = true := rfl
    obtain ⟨xa, xc, rfl⟩ := ox.len
    have d1 : decide ((bytes.length : Int) < (l.length : Int)) = false := decide_eq_false (by omega)
    simp (disch := omega) only [gI, jD, dJ, stepR_skip, hJ, iC, iM, iP, iL, iO, jJ, iW, gM, iG, iI, iJ, iH, gY, iN, iA, iF, iX, iV, iK, gR, iR, iQ, iE, jW, jV, kH, kC, kG, kF, kI, kE, kD, gD, Result.ok.injEq, Next.value.injEq, true_and, and_true, gX, iB, iU, iT, iS, jI, aA9, gV, gU, gW, gT, gO, gJ, gP, gN, gB, fV, if_true, if_false, aA8, aBc, aBa, aBb, aBe, aBd, aA7, aA6, fQ, fL, fA, fR, cU, eS, eH, dK, bN, fS, fC, aM, dF, aX, bM, bP, aQ, cP, cG, eQ, aF, gS, aI, cK, aT, bV, fT, cI, cJ, aD, gA, fB, aP, aG, bQ, gQ, aK, fH, dT, dP, gG, dA, eU, dI, eF, fG, fF, cF, dC, gK, dO, cB, aS, bU, bT, fN, aE, aH, aN, aY, bF, cN, bK, aA, eY, aL, cL, fJ, fE, gF, bJ, eP, eN, bY, fW, fI, eJ, dH, cO, dB, bD, aZ, aO, fZ, aJ, dE, dQ, bG, cC, fK, dL, gC, fM, eZ, eT, dU, aR, cH, dG, fY, fX, fD, cZ, aW, dV, fU, cR, eX, fP, cD, bO, eD, bB, dX, dW, cM, eL, eK, bE, cY, bA, dR, dY, eE, bL, cS, cQ, dN, bS, cW, cV, fO, bZ, eI, eM, gE, dZ, dS, dM, dD, bH, bR, bX, bW, aU, cX, aV]
    refine tI fun w7 o7 x7 s7 => ?_
    refine qT o7 rfl (by simp [one]) (by simp) fun w8 o8 x8 s8 => ?_
    simp (disch := omega) only [gI, jD, dJ, stepR_skip, hJ, iC, iM, iP, iL, iO, jJ, iW, gM, iG, iI, iJ, iH, gY, iN, iA, iF, iX, iV, iK, gR, iR, iQ, iE, jW, jV, kH, kC, kG, kF, kI, kE, kD, gD, Result.ok.injEq, Next.value.injEq, true_and, and_true, gX, iB, iU, iT, iS, jI, aA9, gV, gU, gW, gT, gO, gJ, gP, gN, gB, fV, if_true, if_false, aA8, aBc, aBa, aBb, aBe, aBd, aA7, aA6, fQ, fL, fA, fR, cU, eS, eH, dK, bN, fS, fC, aM, dF, aX, bM, bP, aQ, cP, cG, eQ, aF, gS, aI, cK, aT, bV, fT, cI, cJ, aD, gA, fB, aP, aG, bQ, gQ, aK, fH, dT, dP, gG, dA, eU, dI, eF, fG, fF, cF, dC, gK, dO, cB, aS, bU, bT, fN, aE, aH, aN, aY, bF, cN, bK, aA, eY, aL, cL, fJ, fE, gF, bJ, eP, eN, bY, fW, fI, eJ, dH, cO, dB, bD, aZ, aO, fZ, aJ, dE, dQ, bG, cC, fK, dL, gC, fM, eZ, eT, dU, aR, cH, dG, fY, fX, fD, cZ, aW, dV, fU, cR, eX, fP, cD, bO, eD, bB, dX, dW, cM, eL, eK, bE, cY, bA, dR, dY, eE, bL, cS, cQ, dN, bS, cW, cV, fO, bZ, eI, eM, gE, dZ, dS, dM, dD, bH, bR, bX, bW, aU, cX, aV, e0, d1]
    exact fin w8 (x7.trans x8 fun y hy h => by omega)
theorem aeK {v : aDt} {lvl : Int} {s : Bool} {w : aDs} (h : lvl < 0 ∨ 9 < lvl) : jE pg tH #[v, .int .i64 lvl, .bool s] w (fun r w' => r = .tuple #[.slice none 0 0, .int .i64 1] /\ w' = w) := by
 refine Kl ?_
 unfold MS Bv Bw
 by_cases h0 : lvl < 0
 .have d1 : decide (lvl < 0) = true := decide_eq_true h0
  simp (disch := omega) only [gI, jD, dJ, stepR_skip, hJ, iC, iM, iP, iL, iO, jJ, iW, gM, iG, iI, iJ, iH, gY, iN, iA, iF, iX, iV, iK, gR, iR, iQ, iE, jW, jV, kH, kC, kG, kF, kI, kE, kD, gD, Result.ok.injEq, Next.value.injEq, true_and, and_true, gX, iB, iU, iT, iS, jI, aA9, gV, gU, gW, gT, gO, gJ, gP, gN, gB, fV, if_true, if_false, aA8, aBc, aBa, aBb, aBe, aBd, aA7, aA6, fQ, fL, fA, fR, cU, eS, eH, dK, bN, fS, fC, aM, dF, aX, bM, bP, aQ, cP, cG, eQ, aF, gS, aI, cK, aT, bV, fT, cI, cJ, aD, gA, fB, aP, aG, bQ, gQ, aK, fH, dT, dP, gG, dA, eU, dI, eF, fG, fF, cF, dC, gK, dO, cB, aS, bU, bT, fN, aE, aH, aN, aY, bF, cN, bK, aA, eY, aL, cL, fJ, fE, gF, bJ, eP, eN, bY, fW, fI, eJ, dH, cO, dB, bD, aZ, aO, fZ, aJ, dE, dQ, bG, cC, fK, dL, gC, fM, eZ, eT, dU, aR, cH, dG, fY, fX, fD, cZ, aW, dV, fU, cR, eX, fP, cD, bO, eD, bB, dX, dW, cM, eL, eK, bE, cY, bA, dR, dY, eE, bL, cS, cQ, dN, bS, cW, cV, fO, bZ, eI, eM, gE, dZ, dS, dM, dD, bH, bR, bX, bW, aU, cX, aV, d1]
 .have d1 : decide (lvl < 0) = false := decide_eq_false h0
  have d2 : decide ((9 : Int) < lvl) = true := decide_eq_true (by omega)
  simp (disch := omega) only [gI, jD, dJ, stepR_skip, hJ, iC, iM, iP, iL, iO, jJ, iW, gM, iG, iI, iJ, iH, gY, iN, iA, iF, iX, iV, iK, gR, iR, iQ, iE, jW, jV, kH, kC, kG, kF, kI, kE, kD, gD, Result.ok.injEq, Next.value.injEq, true_and, and_true, gX, iB, iU, iT, iS, jI, aA9, gV, gU, gW, gT, gO, gJ, gP, gN, gB, fV, if_true, if_false, aA8, aBc, aBa, aBb, aBe, aBd, aA7, aA6, fQ, fL, fA, fR, cU, eS, eH, dK, bN, fS, fC, aM, dF, aX, bM, bP, aQ, cP, cG, eQ, aF, gS, aI, cK, aT, bV, fT, cI, cJ, aD, gA, fB, aP, aG, bQ, gQ, aK, fH, dT, dP, gG, dA, eU, dI, eF, fG, fF, cF, dC, gK, dO, cB, aS, bU, bT, fN, aE, aH, aN, aY, bF, cN, bK, aA, eY, aL, cL, fJ, fE, gF, bJ, eP, eN, bY, fW, fI, eJ, dH, cO, dB, bD, aZ, aO, fZ, aJ, dE, dQ, bG, cC, fK, dL, gC, fM, eZ, eT, dU, aR, cH, dG, fY, fX, fD, cZ, aW, dV, fU, cR, eX, fP, cD, bO, eD, bB, dX, dW, cM, eL, eK, bE, cY, bA, dR, dY, eE, bL, cS, cQ, dN, bS, cW, cV, fO, bZ, eI, eM, gE, dZ, dS, dM, dD, bH, bR, bX, bW, aU, cX, aV, d1, d2]
theorem aqF {R : aDt -> aDs -> Prop} {S : Nat -> Prop} {base : Nat} {v0 vo : aDt} {b out : List UInt8} {s : Bool} {w : aDs} (h0 : Bs w v0 b) (hb : b.length <= 1000000) (ho : GM w S 1 vo out.length (out.map nR)) (hout : out.length <= 1000000) (hS : ∀ b, w.heap.size <= b -> S b)
 (hk : ∀ w' vr, GM w' S 1 vr (out ++ enT b s).length ((out ++ enT b s).map nR) -> jN w w' S -> R (.tuple #[vr, .int .i64 0]) w') :
 CF R v0 (.bool s) vo w := by
 unfold CF Ho
 cases s with
 | false =>
   unfold enT at hk
   simp only [aA8, if_false, aBV] at hk
   simp (disch := omega) only [gI, jD, dJ, stepR_skip, hJ, iC, iM, iP, iL, iO, jJ, iW, gM, iG, iI, iJ, iH, gY, iN, iA, iF, iX, iV, iK, gR, iR, iQ, iE, jW, jV, kH, kC, kG, kF, kI, kE, kD, gD, Result.ok.injEq, Next.value.injEq, true_and, and_true, gX, iB, iU, iT, iS, jI, aA9, gV, gU, gW, gT, gO, gJ, gP, gN, gB, fV, if_true, if_false, aA8, aBc, aBa, aBb, aBe, aBd, aA7, aA6, fQ, fL, fA, fR, cU, eS, eH, dK, bN, fS, fC, aM, dF, aX, bM, bP, aQ, cP, cG, eQ, aF, gS, aI, cK, aT, bV, fT, cI, cJ, aD, gA, fB, aP, aG, bQ, gQ, aK, fH, dT, dP, gG, dA, eU, dI, eF, fG, fF, cF, dC, gK, dO, cB, aS, bU, bT, fN, aE, aH, aN, aY, bF, cN, bK, aA, eY, aL, cL, fJ, fE, gF, bJ, eP, eN, bY, fW, fI, eJ, dH, cO, dB, bD, aZ, aO, fZ, aJ, dE, dQ, bG, cC, fK, dL, gC, fM, eZ, eT, dU, aR, cH, dG, fY, fX, fD, cZ, aW, dV, fU, cR, eX, fP, cD, bO, eD, bB, dX, dW, cM, eL, eK, bE, cY, bA, dR, dY, eE, bL, cS, cQ, dN, bS, cW, cV, fO, bZ, eI, eM, gE, dZ, dS, dM, dD, bH, bR, bX, bW, aU, cX, aV]
   unfold yM
   exact hk w vo ho (jN.refl _ _)
 | true =>
   unfold enT at hk
   simp only [if_true] at hk
   simp (disch := omega) only [gI, jD, dJ, stepR_skip, hJ, iC, iM, iP, iL, iO, jJ, iW, gM, iG, iI, iJ, iH, gY, iN, iA, iF, iX, iV, iK, gR, iR, iQ, iE, jW, jV, kH, kC, kG, kF, kI, kE, kD, gD, Result.ok.injEq, Next.value.injEq, true_and, and_true, gX, iB, iU, iT, iS, jI, aA9, gV, gU, gW, gT, gO, gJ, gP, gN, gB, fV, if_true, if_false, aA8, aBc, aBa, aBb, aBe, aBd, aA7, aA6, fQ, fL, fA, fR, cU, eS, eH, dK, bN, fS, fC, aM, dF, aX, bM, bP, aQ, cP, cG, eQ, aF, gS, aI, cK, aT, bV, fT, cI, cJ, aD, gA, fB, aP, aG, bQ, gQ, aK, fH, dT, dP, gG, dA, eU, dI, eF, fG, fF, cF, dC, gK, dO, cB, aS, bU, bT, fN, aE, aH, aN, aY, bF, cN, bK, aA, eY, aL, cL, fJ, fE, gF, bJ, eP, eN, bY, fW, fI, eJ, dH, cO, dB, bD, aZ, aO, fZ, aJ, dE, dQ, bG, cC, fK, dL, gC, fM, eZ, eT, dU, aR, cH, dG, fY, fX, fD, cZ, aW, dV, fU, cR, eX, fP, cD, bO, eD, bB, dX, dW, cM, eL, eK, bE, cY, bA, dR, dY, eE, bL, cS, cQ, dN, bS, cW, cV, fO, bZ, eI, eM, gE, dZ, dS, dM, dD, bH, bR, bX, bW, aU, cX, aV]
   refine (arM b (by omega) v0 w h0).mono ?_
   rintro r w1 ⟨rfl, x1⟩
   rw [awI]
   obtain ⟨X, hX⟩ : ∃ X, X = XN b := ⟨_, rfl⟩
   have hXl := avY b
   rw [<- hX] at hXl hk ⊢
   have q1 : (X : Int).fdiv (2 ^ min (Int.toNat 8) IntKind.u64.bits) = ((X / 256 : Nat) : Int) := by
    have : (2 : Int) ^ min (Int.toNat 8) IntKind.u64.bits = 256 := by decide
    rw [this, aBM _ (by omega)]; omega
   have q2 : (X : Int).fdiv (2 ^ min (Int.toNat 16) IntKind.u64.bits) = ((X / 65536 : Nat) : Int) := by
    have : (2 : Int) ^ min (Int.toNat 16) IntKind.u64.bits = 65536 := by decide
    rw [this, aBM _ (by omega)]; omega
   have q3 : (X : Int).fdiv (2 ^ min (Int.toNat 24) IntKind.u64.bits) = ((X / 16777216 : Nat) : Int) := by
    have : (2 : Int) ^ min (Int.toNat 24) IntKind.u64.bits = 16777216 := by decide
    rw [this, aBM _ (by omega)]; omega
   simp (disch := omega) only [gI, jD, dJ, stepR_skip, hJ, iC, iM, iP, iL, iO, jJ, iW, gM, iG, iI, iJ, iH, gY, iN, iA, iF, iX, iV, iK, gR, iR, iQ, iE, jW, jV, kH, kC, kG, kF, kI, kE, kD, gD, Result.ok.injEq, Next.value.injEq, true_and, and_true, gX, iB, iU, iT, iS, jI, aA9, gV, gU, gW, gT, gO, gJ, gP, gN, gB, fV, if_true, if_false, aA8, aBc, aBa, aBb, aBe, aBd, aA7, aA6, fQ, fL, fA, fR, cU, eS, eH, dK, bN, fS, fC, aM, dF, aX, bM, bP, aQ, cP, cG, eQ, aF, gS, aI, cK, aT, bV, fT, cI, cJ, aD, gA, fB, aP, aG, bQ, gQ, aK, fH, dT, dP, gG, dA, eU, dI, eF, fG, fF, cF, dC, gK, dO, cB, aS, bU, bT, fN, aE, aH, aN, aY, bF, cN, bK, aA, eY, aL, cL, fJ, fE, gF, bJ, eP, eN, bY, fW, fI, eJ, dH, cO, dB, bD, aZ, aO, fZ, aJ, dE, dQ, bG, cC, fK, dL, gC, fM, eZ, eT, dU, aR, cH, dG, fY, fX, fD, cZ, aW, dV, fU, cR, eX, fP, cD, bO, eD, bB, dX, dW, cM, eL, eK, bE, cY, bA, dR, dY, eE, bL, cS, cQ, dN, bS, cW, cV, fO, bZ, eI, eM, gE, dZ, dS, dM, dD, bH, bR, bX, bW, aU, cX, aV, q1, q2, q3, wu8]
   refine uE (cells := #[.int .u8 ((X : Int) % 256), .int .u8 (((X / 256 : Nat) : Int) % 256), .int .u8 (((X / 65536 : Nat) : Int) % 256), .int .u8 (((X / 16777216 : Nat) : Int) % 256)]) (by decide) (by decide) (by kernel_rfl) fun w2 o2 x2 s2 => ?_
   have hc : (#[.int .u8 ((X : Int) % 256), .int .u8 (((X / 256 : Nat) : Int) % 256), .int .u8 (((X / 65536 : Nat) : Int) % 256), .int .u8 (((X / 16777216 : Nat) : Int) % 256)] : Array aDt).toList = (nK X 4).map nR := by
    simp only [nK, aBH, aDp, nR]
    rw [ofN (by omega), ofN (by omega), ofN (by omega), ofN (by omega), aCs, aCs]
    rfl
   rw [hc] at o2
   have hb2 := atA o2
   rw [kZ] at hb2
   have z1 := x1.size
   have z2 := x2.size
   refine apB ((ho.ext x1 fun _ _ h => h).ext x2 fun _ _ h => h) hb2 (fun y hy => hS y (by omega)) (by rw [kZ]; omega) fun v3 w3 o3 x3 => ?_
   unfold yM
   exact hk w3 v3 o3 ((((x1.seq x2).mono fun _ _ h => h.elim).seq x3))
theorem aaA {v : aDt} {l : List UInt8} {lvl : Nat} {s : Bool} {w : aDs} (h : Bs w v l) (h1 : 1 <= l.length) (hl : l.length <= 65536) (hs : Ev l = true ∨ l.length <= 2) (hlv : lvl <= 9) :
 jE pg tH #[v, .int .i64 (lvl : Nat), .bool s] w (fun r w' => (∃ x, r = .tuple #[x, .int .i64 0] /\ yW w' w.heap.size 1 x (enF l (Jd l) s).length ((enF l (Jd l) s).map nR)) /\ jN w w' mC) := by
 refine Kl ?_
 obtain ⟨RR, hRR⟩ : ∃ RR : aDt -> aDs -> Prop, RR = fun r w' => (∃ x, r = .tuple #[x, .int .i64 0] /\ yW w' w.heap.size 1 x (enF l (Jd l) s).length ((enF l (Jd l) s).map nR)) /\ jN w w' mC := ⟨_, rfl⟩
 rw [<- hRR]
 have hv := h
 obtain ⟨va, vc, rfl, hvc⟩ := h.len
 rw [aBf] at hv hvc ⊢
 have d1 : decide ((lvl : Int) < 0) = false := decide_eq_false (by omega)
 have d2 : decide ((9 : Int) < (lvl : Int)) = false := decide_eq_false (by omega)
 have d3 : decide ((4194304 : Int) < (l.length : Int)) = false := decide_eq_false (by omega)
 have e1 : IntKind.u64.wrap ((l.length : Nat) : Int) = ((l.length : Nat) : Int) := iB (by omega) (by omega)
 unfold MS Bv Bw
 simp (disch := omega) only [gI, jD, dJ, stepR_skip, hJ, iC, iM, iP, iL, iO, jJ, iW, gM, iG, iI, iJ, iH, gY, iN, iA, iF, iX, iV, iK, gR, iR, iQ, iE, jW, jV, kH, kC, kG, kF, kI, kE, kD, gD, Result.ok.injEq, Next.value.injEq, true_and, and_true, gX, iB, iU, iT, iS, jI, aA9, gV, gU, gW, gT, gO, gJ, gP, gN, gB, fV, if_true, if_false, aA8, aBc, aBa, aBb, aBe, aBd, aA7, aA6, fQ, fL, fA, fR, cU, eS, eH, dK, bN, fS, fC, aM, dF, aX, bM, bP, aQ, cP, cG, eQ, aF, gS, aI, cK, aT, bV, fT, cI, cJ, aD, gA, fB, aP, aG, bQ, gQ, aK, fH, dT, dP, gG, dA, eU, dI, eF, fG, fF, cF, dC, gK, dO, cB, aS, bU, bT, fN, aE, aH, aN, aY, bF, cN, bK, aA, eY, aL, cL, fJ, fE, gF, bJ, eP, eN, bY, fW, fI, eJ, dH, cO, dB, bD, aZ, aO, fZ, aJ, dE, dQ, bG, cC, fK, dL, gC, fM, eZ, eT, dU, aR, cH, dG, fY, fX, fD, cZ, aW, dV, fU, cR, eX, fP, cD, bO, eD, bB, dX, dW, cM, eL, eK, bE, cY, bA, dR, dY, eE, bL, cS, cQ, dN, bS, cW, cV, fO, bZ, eI, eM, gE, dZ, dS, dM, dD, bH, bR, bX, bW, aU, cX, aV, d1, d2, d3, e1]
 refine (aeD (n := l.length) (by omega)).mono ?_
 rintro r w1 ⟨o1, x1⟩
 refine alF.mono ?_
 rintro r1 w2 ⟨rfl, x2⟩
 refine tI fun w3 o3 x3 s3 => ?_
 obtain ⟨p, hp⟩ : ∃ p, p = w2.heap.size := ⟨_, rfl⟩
 rw [<- hp] at o3 ⊢
 refine qT o3 rfl (by simp [one]) (by simp) fun w4 o4 x4 s4 => ?_
 have o4 : lN w4 p [.int .u32 (1 : Nat), .int .u32 (4 : Nat), .int .u32 (8 : Nat)] := o4
 have z1 := x1.size
 have z2 := x2.size
 have x24 : jN w2 w4 mC := x3.trans x4 fun y hy h => by omega
 have x04 : jN w w4 mC := (x1.seq x2).seq x24
 have z4 := x04.size
 let S : Nat -> Prop := fun y => w.heap.size <= y /\ y ≠ p
 have S4 : GM w4 S 1 r (GB l.length s).length ((GB l.length s).map nR) := (((yW.ne o1 (by omega)).ext x2 (fun _ _ h => h)).ext x24 (fun _ _ h => h))
 have hpl := aaK l.length s
 have lt4 : p < w4.heap.size := o4.lt
 unfold Hr Ib HK Hz He
 have hbl : (Jd l).length <= 65540 := by
  unfold Jd; split
  .simp [YA, b3]
  .simp [aqL, b3]; omega
 refine kO.rule (fun m (t : aDt × aDt) W => (m = 1 /\ t = (r, .int .i64 0) /\ W = w4) ∨ (m = 0 /\ ∃ vo, t = (vo, .int .i64 65536) /\ GM W S 1 vo (GB l.length s ++ Jd l).length ((GB l.length s ++ Jd l).map nR) /\ jN w W mC /\ p < W.heap.size)) 1 (.inl ⟨rfl, rfl, rfl⟩) ?_
 rintro m t W (⟨rfl, rfl, rfl⟩ | ⟨rfl, vo, rfl, oW, xW, ltW⟩)
 .unfold yA
  have k1 : ((0 : Int) == 0) = true := rfl
  have k3 : (0 : Int) + 65536 = 65536 := rfl
  have k4 : (if ((l.length : Nat) : Int) < (65536 : Int) then ((l.length : Nat) : Int) else (65536 : Int)) = ((l.length : Nat) : Int) := by split <;> omega
  have ld : (jF 45 (.pointer (some ⟨p, 0, none⟩))).run pg W = .ok (.value (W5 1 4 8)) W := CE (off := 0) o4 (by simp)
  simp (disch := omega) only [gI, jD, dJ, stepR_skip, hJ, iC, iM, iP, iL, iO, jJ, iW, gM, iG, iI, iJ, iH, gY, iN, iA, iF, iX, iV, iK, gR, iR, iQ, iE, jW, jV, kH, kC, kG, kF, kI, kE, kD, gD, Result.ok.injEq, Next.value.injEq, true_and, and_true, gX, iB, iU, iT, iS, jI, aA9, gV, gU, gW, gT, gO, gJ, gP, gN, gB, fV, if_true, if_false, aA8, aBc, aBa, aBb, aBe, aBd, aA7, aA6, fQ, fL, fA, fR, cU, eS, eH, dK, bN, fS, fC, aM, dF, aX, bM, bP, aQ, cP, cG, eQ, aF, gS, aI, cK, aT, bV, fT, cI, cJ, aD, gA, fB, aP, aG, bQ, gQ, aK, fH, dT, dP, gG, dA, eU, dI, eF, fG, fF, cF, dC, gK, dO, cB, aS, bU, bT, fN, aE, aH, aN, aY, bF, cN, bK, aA, eY, aL, cL, fJ, fE, gF, bJ, eP, eN, bY, fW, fI, eJ, dH, cO, dB, bD, aZ, aO, fZ, aJ, dE, dQ, bG, cC, fK, dL, gC, fM, eZ, eT, dU, aR, cH, dG, fY, fX, fD, cZ, aW, dV, fU, cR, eX, fP, cD, bO, eD, bB, dX, dW, cM, eL, eK, bE, cY, bA, dR, dY, eE, bL, cS, cQ, dN, bS, cW, cV, fO, bZ, eI, eM, gE, dZ, dS, dM, dD, bH, bR, bX, bW, aU, cX, aV, k1, k3, k4, ld]
  have hv4 := hv.ext x04 (kL _)
  have hb := avO (lvl := lvl) (a := 1) (b := 4) (c := 8) hv4 h1 hl hs hlv
  refine hb.mono ?_
  rintro r5 w5 ⟨⟨bv, a', b', c', rfl, o5⟩, x5⟩
  have n0 : ((0 : Int) != 0) = false := rfl
  simp (disch := omega) only [gI, jD, dJ, stepR_skip, hJ, iC, iM, iP, iL, iO, jJ, iW, gM, iG, iI, iJ, iH, gY, iN, iA, iF, iX, iV, iK, gR, iR, iQ, iE, jW, jV, kH, kC, kG, kF, kI, kE, kD, gD, Result.ok.injEq, Next.value.injEq, true_and, and_true, gX, iB, iU, iT, iS, jI, aA9, gV, gU, gW, gT, gO, gJ, gP, gN, gB, fV, if_true, if_false, aA8, aBc, aBa, aBb, aBe, aBd, aA7, aA6, fQ, fL, fA, fR, cU, eS, eH, dK, bN, fS, fC, aM, dF, aX, bM, bP, aQ, cP, cG, eQ, aF, gS, aI, cK, aT, bV, fT, cI, cJ, aD, gA, fB, aP, aG, bQ, gQ, aK, fH, dT, dP, gG, dA, eU, dI, eF, fG, fF, cF, dC, gK, dO, cB, aS, bU, bT, fN, aE, aH, aN, aY, bF, cN, bK, aA, eY, aL, cL, fJ, fE, gF, bJ, eP, eN, bY, fW, fI, eJ, dH, cO, dB, bD, aZ, aO, fZ, aJ, dE, dQ, bG, cC, fK, dL, gC, fM, eZ, eT, dU, aR, cH, dG, fY, fX, fD, cZ, aW, dV, fU, cR, eX, fP, cD, bO, eD, bB, dX, dW, cM, eL, eK, bE, cY, bA, dR, dY, eE, bL, cS, cQ, dN, bS, cW, cV, fO, bZ, eI, eM, gE, dZ, dS, dM, dD, bH, bR, bX, bW, aU, cX, aV]
  refine tI fun w6 o6 x6 s6 => ?_
  obtain ⟨q, hq⟩ : ∃ q, q = w5.heap.size := ⟨_, rfl⟩
  rw [<- hq] at o6 ⊢
  refine qT o6 rfl (by simp [one]) (by simp) fun w7 o7 x7 s7 => ?_
  have o7 : lN w7 q [.int .u32 (a' : Nat), .int .u32 (b' : Nat), .int .u32 (c' : Nat)] := o7
  have z5 := x5.size
  have x57 : jN w5 w7 mC := x6.trans x7 fun y hy h => by omega
  have x47 := x5.seq x57
  have xd : jN w5 (dr w7) mC := x57.seq (jN.dr _ mC)
  have ldq : ∀ {W'}, jN w7 W' (fun y => S y /\ y ≠ q) -> (jF 45 (.pointer (some ⟨q, 0, none⟩))).run pg W' = .ok (.value (W5 a' b' c')) W' := fun xx => CE (off := 0) (o7.ext xx fun hh => hh.2 rfl) (by simp)
  have l7 := ldq (jN.dr w7 _)
  simp (disch := omega) only [gI, jD, dJ, stepR_skip, hJ, iC, iM, iP, iL, iO, jJ, iW, gM, iG, iI, iJ, iH, gY, iN, iA, iF, iX, iV, iK, gR, iR, iQ, iE, jW, jV, kH, kC, kG, kF, kI, kE, kD, gD, Result.ok.injEq, Next.value.injEq, true_and, and_true, gX, iB, iU, iT, iS, jI, aA9, gV, gU, gW, gT, gO, gJ, gP, gN, gB, fV, if_true, if_false, aA8, aBc, aBa, aBb, aBe, aBd, aA7, aA6, fQ, fL, fA, fR, cU, eS, eH, dK, bN, fS, fC, aM, dF, aX, bM, bP, aQ, cP, cG, eQ, aF, gS, aI, cK, aT, bV, fT, cI, cJ, aD, gA, fB, aP, aG, bQ, gQ, aK, fH, dT, dP, gG, dA, eU, dI, eF, fG, fF, cF, dC, gK, dO, cB, aS, bU, bT, fN, aE, aH, aN, aY, bF, cN, bK, aA, eY, aL, cL, fJ, fE, gF, bJ, eP, eN, bY, fW, fI, eJ, dH, cO, dB, bD, aZ, aO, fZ, aJ, dE, dQ, bG, cC, fK, dL, gC, fM, eZ, eT, dU, aR, cH, dG, fY, fX, fD, cZ, aW, dV, fU, cR, eX, fP, cD, bO, eD, bB, dX, dW, cM, eL, eK, bE, cY, bA, dR, dY, eE, bL, cS, cQ, dN, bS, cW, cV, fO, bZ, eI, eM, gE, dZ, dS, dM, dD, bH, bR, bX, bW, aU, cX, aV, n0, l7]
  have hpq : p ≠ q := by omega
  have hb5 : Bs w5 bv (Jd l) := o5.sl
  have hb7 : Bs (dr w7) bv (Jd l) := hb5.ext xd (kL _)
  let S2 : Nat -> Prop := fun y => S y /\ y ≠ q
  have S7 : GM (dr w7) S2 1 r (GB l.length s).length ((GB l.length s).map nR) := by
   have hS := S4
   have := hS.2
   refine ⟨hS.1, ?_⟩
   have S7' := ((S4.ext x47 (fun _ _ h => h)).ext (jN.dr _ mC) (fun _ _ h => h)).2
   rcases this with ⟨h, h0⟩ | ⟨b1, c1, rest, h1, h2, h3, h4⟩
   .exact .inl ⟨h, h0⟩
   .have hlt := h3.lt
    exact .inr ⟨b1, c1, rest, h1, ⟨h2, by omega⟩, (h3.ext x47 (fun h => h)).ext (jN.dr _ mC) (fun h => h), h4⟩
  have zd : (dr w7).heap.size = w7.heap.size := rfl
  have lt7 : q < w7.heap.size := o7.lt
  refine apB S7 hb7 (fun y hy => ⟨⟨by omega, by omega⟩, by omega⟩) (by omega) fun v8 w8 o8 x8 => ?_
  have l8 := ldq ((jN.dr w7 _).seq x8)
  have zz8 := x8.size
  simp (disch := omega) only [gI, jD, dJ, stepR_skip, hJ, iC, iM, iP, iL, iO, jJ, iW, gM, iG, iI, iJ, iH, gY, iN, iA, iF, iX, iV, iK, gR, iR, iQ, iE, jW, jV, kH, kC, kG, kF, kI, kE, kD, gD, Result.ok.injEq, Next.value.injEq, true_and, and_true, gX, iB, iU, iT, iS, jI, aA9, gV, gU, gW, gT, gO, gJ, gP, gN, gB, fV, if_true, if_false, aA8, aBc, aBa, aBb, aBe, aBd, aA7, aA6, fQ, fL, fA, fR, cU, eS, eH, dK, bN, fS, fC, aM, dF, aX, bM, bP, aQ, cP, cG, eQ, aF, gS, aI, cK, aT, bV, fT, cI, cJ, aD, gA, fB, aP, aG, bQ, gQ, aK, fH, dT, dP, gG, dA, eU, dI, eF, fG, fF, cF, dC, gK, dO, cB, aS, bU, bT, fN, aE, aH, aN, aY, bF, cN, bK, aA, eY, aL, cL, fJ, fE, gF, bJ, eP, eN, bY, fW, fI, eJ, dH, cO, dB, bD, aZ, aO, fZ, aJ, dE, dQ, bG, cC, fK, dL, gC, fM, eZ, eT, dU, aR, cH, dG, fY, fX, fD, cZ, aW, dV, fU, cR, eX, fP, cD, bO, eD, bB, dX, dW, cM, eL, eK, bE, cY, bA, dR, dY, eE, bL, cS, cQ, dN, bS, cW, cV, fO, bZ, eI, eM, gE, dZ, dS, dM, dD, bH, bR, bX, bW, aU, cX, aV, l7, l8]
  have oP8 : lN w8 p [.int .u32 (1 : Nat), .int .u32 (4 : Nat), .int .u32 (8 : Nat)] := ((o4.ext x47 (fun h => h)).ext (jN.dr _ mC) (fun h => h)).ext x8 (fun hh => hh.1.2 rfl)
  refine qT oP8 rfl (by simp [one]) (by simp) fun w9 o9 x9 s9 => ?_
  refine ⟨0, by omega, .inr ⟨rfl, v8, rfl, ?_, ?_, by have := x47.size; omega⟩⟩
  .have := o8.ext x9 (fun y hy hh => by rw [hh] at hy; exact hy.1.2 rfl)
   refine ⟨this.1, ?_⟩
   rcases this.2 with h | ⟨b1, c1, rest, h1, h2, h3⟩
   .exact .inl h
   .exact .inr ⟨b1, c1, rest, h1, h2.1, h3⟩
  .exact (((x04.seq x47).seq (jN.dr _ mC)).trans x8 fun y hy h => by have := h.1.1; omega).trans x9 fun y hy h => by omega
 .unfold yA
  have k1 : ((65536 : Int) == 0) = false := rfl
  have d4 : decide ((65536 : Int) < ((l.length : Nat) : Int)) = false := decide_eq_false (by omega)
  simp (disch := omega) only [gI, jD, dJ, stepR_skip, hJ, iC, iM, iP, iL, iO, jJ, iW, gM, iG, iI, iJ, iH, gY, iN, iA, iF, iX, iV, iK, gR, iR, iQ, iE, jW, jV, kH, kC, kG, kF, kI, kE, kD, gD, Result.ok.injEq, Next.value.injEq, true_and, and_true, gX, iB, iU, iT, iS, jI, aA9, gV, gU, gW, gT, gO, gJ, gP, gN, gB, fV, if_true, if_false, aA8, aBc, aBa, aBb, aBe, aBd, aA7, aA6, fQ, fL, fA, fR, cU, eS, eH, dK, bN, fS, fC, aM, dF, aX, bM, bP, aQ, cP, cG, eQ, aF, gS, aI, cK, aT, bV, fT, cI, cJ, aD, gA, fB, aP, aG, bQ, gQ, aK, fH, dT, dP, gG, dA, eU, dI, eF, fG, fF, cF, dC, gK, dO, cB, aS, bU, bT, fN, aE, aH, aN, aY, bF, cN, bK, aA, eY, aL, cL, fJ, fE, gF, bJ, eP, eN, bY, fW, fI, eJ, dH, cO, dB, bD, aZ, aO, fZ, aJ, dE, dQ, bG, cC, fK, dL, gC, fM, eZ, eT, dU, aR, cH, dG, fY, fX, fD, cZ, aW, dV, fU, cR, eX, fP, cD, bO, eD, bB, dX, dW, cM, eL, eK, bE, cY, bA, dR, dY, eE, bL, cS, cQ, dN, bS, cW, cV, fO, bZ, eI, eM, gE, dZ, dS, dM, dD, bH, bR, bX, bW, aU, cX, aV, k1, d4]
  refine aqF (S := S) (b := l) (out := GB l.length s ++ Jd l) (base := 0) (hv.ext xW (kL _)) (by omega) oW (by rw [aBg]; omega) (fun y hy => ⟨by have := xW.size; omega, by omega⟩) fun w' vr ov xv => ?_
  rw [aBy] at ov
  have ov : GM w' S 1 vr (enF l (Jd l) s).length ((enF l (Jd l) s).map nR) := ov
  rw [hRR]
  refine ⟨⟨vr, rfl, ov.1, ?_⟩, xW.trans xv fun y hy h => by have := h.1; omega⟩
  rcases ov.2 with h | ⟨b1, c1, rest, h1, h2, h3⟩
  .exact .inl h
  .exact .inr ⟨b1, c1, rest, h1, h2.1, h3⟩
end Go.Proofs.YtoecppploooloaaGreatDoor
