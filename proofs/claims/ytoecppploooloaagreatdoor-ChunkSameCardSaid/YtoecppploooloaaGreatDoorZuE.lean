/- Parts of the proof of ChunkSame: merged and given short names by a program of ours. -/
import Derived.Test.YtoecppploooloaaGreatDoorZuD
set_option linter.unusedVariables false
set_option linter.unusedSimpArgs false
open Array renaming length_toList → aDt
open Bool renaming not_false → aB3, not_true → aB5, false_eq_true → aBZ
open Int renaming toNat_natCast → aB0, fdiv_eq_ediv_of_nonneg → aCD
open List renaming length_map → aB6, length_append → aB7, getElem?_eq_getElem → aB8, getD_eq_getElem?_getD → aB9, getElem?_cons_zero → aBX, getElem?_cons_succ → aBY, mem_append → aC3, mem_of_mem_take → aC5, replicate_succ → aC9, map_append → aCC, set_append_right → aCI, length_eq_zero_iff → aCK, append_nil → aCM, getElem?_take_of_lt → aCN, nil_append → aCT, mem_map → aCU, getElem_mem → aCW, getElem_of_mem → aCX, getElem?_toArray → aCY, length_replicate → aCZ, set_cons_zero → aCa, set_cons_succ → aCc, length_take → aCf, take_of_length_le → aCg, length_drop → aCi, getElem?_eq_none → aCj, length_cons → aCl, getElem?_append_left → aCm, getElem?_map → aCp, append_assoc → aCr, drop_zero → aCs, take_zero → aCw, map_cons → aCz, getLast?_eq_getElem? → aD0, mem_singleton → aD4, eq_of_mem_replicate → aD5, take_length → aDD, map_take → aDF, getElem?_drop → aDI, map_set → aDS, cons_append → aDd, ext_getElem? → aDg, map_replicate → aDx, take_append_drop → aDy, getElem_map → aEe, countP_le_length → aEg, map_nil → aEj
open Nat renaming zero_add → aB4, mul_one → aC0, pow_add → aC6, two_pow_pos → aCH, min_eq_left → aCL, mul_comm → aCO, add_mul → aCQ, add_zero → aCR, le_trans → aCV, le_refl → aCb, lt_or_ge → aCk, pow_le_pow_right → aCn, mul_le_mul_right → aCv, div_le_self → aD2, mod_lt → aD6, sub_zero → aDE, add_sub_cancel → aDJ, mul_add → aDL, zero_mul → aDQ, zero_le → aDX, mul_le_mul_left → aDZ, eq_zero_or_pos → aDc, sub_self → aDh, div_div_eq_div_mul → aDi, add_assoc → aDr, le_total → aEh
open Option renaming isNone_some → aB1, isNone_none → aB2, map_some → aCB, getD_some → aDu
open Option.some renaming inj → aCF
open UInt8 renaming toNat_lt → aC7
namespace Go.Proofs.YtoecppploooloaaGreatDoor
open Go Go.En Go.Pu
set_option maxRecDepth 4000
theorem Xb (b : Bool) : kO undef b = false := by cases b <;> rfl
def agN (ns out : List Nat) (i : Nat) (at' : Int) : Prop := (at' = -1 /\ ∀ j, j < i -> ¬ (0 < ns.getD j 0 /\ out.getD j 0 < 11)) ∨ (∃ a : Nat, at' = a /\ a < ns.length /\ 0 < ns.getD a 0 /\ out.getD a 0 < 11)
theorem apM {pb : Nat} {ov : aEm} {room : Int} {ns out : List Nat} {w : aEl} (hs : Sl w ov (Tq ns)) (hn : ∀ n ∈ ns, n <= 4294967295) (hl : ns.length <= 256) (h : PZ ns out) (ob : lN w pb (oc out)) {kn : aEm -> aEm -> aEm -> aEm -> aEl -> Prop}
 (hK : ∀ at' w', agN ns out ns.length at' -> jN w w' mC -> kn ov (.slice (some ⟨pb, 0, none⟩) ns.length ns.length) (.int .i64 room) (.int .i64 at') w') :
 xB kn ov (.slice (some ⟨pb, 0, none⟩) ns.length ns.length) (.int .i64 room) (.int .i64 (-1)) w := by
 unfold xB Dx
 obtain ⟨a, c, hv, hc⟩ := hs.len
 rw [aB6] at hv
 subst hv
 have hlen := h.len
 simp (disch := omega) only [gI, fK, dJ]
 unfold CW Dj
 refine kP.rule (fun m (t : aEm × aEm) w' => ∃ (i : Nat) (at' : Int), m = ns.length - i /\ t = (.int .i64 at', .int .i64 i) /\ i <= ns.length /\ agN ns out i at' /\ jN w w' mC) ns.length
  ⟨0, -1, rfl, rfl, by omega, .inl ⟨rfl, fun j h => by omega⟩, jN.refl _ _⟩ ?_
 rintro m t w1 ⟨i, at', rfl, rfl, hi, hp, x1⟩
 unfold wS Dg
 by_cases hlt : i < ns.length
 .have d1 : decide ((i : Int) < (ns.length : Int)) = true := by simp; omega
  have x1d : jN w (dr w1) mC := x1.seq (jN.dr _ _)
  obtain ⟨b1, off1, rfl, hcell1⟩ := slA (hs.ext x1 (kJ _)) (by omega)
  have g1 := hcell1 i hlt
  rw [Qx hlt] at g1
  have g1d : (dr w1).cell? ⟨b1, off1 + i, none⟩ = _ := g1
  have f1 := (ob.ext x1d (fun h => h)).cell (off := i)
  rw [NW (by omega)] at f1
  have keep : ¬ (0 < ns.getD i 0 /\ out.getD i 0 < 11) -> agN ns out (i + 1) at' := fun hb => by
   rcases hp with ⟨q1, q2⟩ | q
   .refine .inl ⟨q1, fun j hj => ?_⟩
    rcases aCk j i with h' | h'
    .exact q2 j h'
    .have : j = i := by omega
     subst this; exact hb
   .exact .inr q
  have keep2 : (0 : Int) <= at' -> agN ns out (i + 1) at' := fun hb => by
   rcases hp with ⟨q1, q2⟩ | q
   .omega
   .exact .inr q
  have new : 0 < ns.getD i 0 -> out.getD i 0 < 11 -> agN ns out (i + 1) (i : Int) := fun q1 q2 => .inr ⟨i, rfl, hlt, q1, q2⟩
  unfold wT
  by_cases h0 : 0 < ns.getD i 0
  .have d2 : decide ((0 : Int) < ((ns.getD i 0 : Nat) : Int)) = true := by simp only [decide_eq_true_eq]; omega
   by_cases h11 : out.getD i 0 < 11
   .have d3 : decide (((out.getD i 0 : Nat) : Int) < (11 : Int)) = true := by simp only [decide_eq_true_eq]; omega
    rcases hp with ⟨rfl, q2⟩ | ⟨a, rfl, ha, ha0, ha11⟩
    .have d4 : decide ((-1 : Int) < 0) = true := rfl
     simp (disch := omega) only [gI, gY, d1, fJ, aB0, hJ, gX, dJ, true_and, gA, g1, gD, hZ, d2, gV, gR, if_true, gO, fZ, aB4, gS, f1, d3, d4, gU, gB, gJ, Xb]
     exact ⟨ns.length - (i + 1), by omega, i + 1, _, rfl, rfl, by omega, new h0 h11, x1d⟩
    .have d4 : decide ((a : Int) < 0) = false := by simp
     have f2 := (ob.ext x1d (fun h => h)).cell (off := a)
     rw [NW (by omega)] at f2
     have g2 : (dr w1).cell? ⟨b1, off1 + a, none⟩ = _ := hcell1 a ha
     rw [Qx ha] at g2
     by_cases h5 : out.getD a 0 < out.getD i 0
     .have d5 : decide (((out.getD a 0 : Nat) : Int) < ((out.getD i 0 : Nat) : Int)) = true := by simp only [decide_eq_true_eq]; omega
      simp (disch := omega) only [gI, gY, d1, fJ, aB0, hJ, gX, dJ, true_and, gA, g1, gD, hZ, d2, gV, gR, if_true, gO, fZ, aB4, gS, f1, d3, d4, gT, aBZ, if_false, f2, d5, gU, gB, gJ, Xb]
      exact ⟨ns.length - (i + 1), by omega, i + 1, _, rfl, rfl, by omega, new h0 h11, x1d⟩
     .have d5 : decide (((out.getD a 0 : Nat) : Int) < ((out.getD i 0 : Nat) : Int)) = false := by simp only [decide_eq_false_iff_not]; omega
      by_cases h6 : out.getD i 0 = out.getD a 0
      .have d6 : (((out.getD i 0 : Nat) : Int) == ((out.getD a 0 : Nat) : Int)) = true := by rw [h6]; simp
       by_cases h7 : ns.getD i 0 < ns.getD a 0
       .have d7 : decide (((ns.getD i 0 : Nat) : Int) < ((ns.getD a 0 : Nat) : Int)) = true := by simp only [decide_eq_true_eq]; omega
        simp (maxSteps := 4000000) (disch := omega) only [gI, jD, dJ, stepR_skip, hJ, iC, iM, iP, iL, iN, jJ, iX, gM, iE, iG, iI, iH, gY, iO, hZ, iF, iV, iW, iJ, gR, iT, iQ, iD, jV, jW, kF, kD, kC, kG, kA, kB, kE, gD, Result.ok.injEq, Next.value.injEq, true_and, and_true, gX, iA, iU, iR, iS, jF, aB0, gV, gU, gW, gT, gO, gJ, gP, gN, gB, fV, if_true, if_false, aBZ, aB4, aB1, aB2, aB5, aB3, aBY, aBX, fQ, fT, fM, fR, gK, fL, bH, bR, gE, eH, eF, fK, fJ, gA, cU, dL, gC, fZ, gS, eI, eQ, dM, dK, Xb, d1, g1, g1d, d2, f1, d3, d4, f2, g2, d5, d6, d7]
        exact ⟨ns.length - (i + 1), by omega, i + 1, _, rfl, rfl, by omega, new h0 h11, x1d⟩
       .have d7 : decide (((ns.getD i 0 : Nat) : Int) < ((ns.getD a 0 : Nat) : Int)) = false := by simp only [decide_eq_false_iff_not]; omega
        simp (maxSteps := 4000000) (disch := omega) only [gI, jD, dJ, stepR_skip, hJ, iC, iM, iP, iL, iN, jJ, iX, gM, iE, iG, iI, iH, gY, iO, hZ, iF, iV, iW, iJ, gR, iT, iQ, iD, jV, jW, kF, kD, kC, kG, kA, kB, kE, gD, Result.ok.injEq, Next.value.injEq, true_and, and_true, gX, iA, iU, iR, iS, jF, aB0, gV, gU, gW, gT, gO, gJ, gP, gN, gB, fV, if_true, if_false, aBZ, aB4, aB1, aB2, aB5, aB3, aBY, aBX, fQ, fT, fM, fR, gK, fL, bH, bR, gE, eH, eF, fK, fJ, gA, cU, dL, gC, fZ, gS, eI, eQ, dM, dK, Xb, d1, g1, g1d, d2, f1, d3, d4, f2, g2, d5, d6, d7]
        exact ⟨ns.length - (i + 1), by omega, i + 1, _, rfl, rfl, by omega, .inr ⟨a, rfl, ha, ha0, ha11⟩, x1d⟩
      .have d6 : (((out.getD i 0 : Nat) : Int) == ((out.getD a 0 : Nat) : Int)) = false := beq_eq_false_iff_ne.2 (by omega)
       simp (maxSteps := 4000000) (disch := omega) only [gI, jD, dJ, stepR_skip, hJ, iC, iM, iP, iL, iN, jJ, iX, gM, iE, iG, iI, iH, gY, iO, hZ, iF, iV, iW, iJ, gR, iT, iQ, iD, jV, jW, kF, kD, kC, kG, kA, kB, kE, gD, Result.ok.injEq, Next.value.injEq, true_and, and_true, gX, iA, iU, iR, iS, jF, aB0, gV, gU, gW, gT, gO, gJ, gP, gN, gB, fV, if_true, if_false, aBZ, aB4, aB1, aB2, aB5, aB3, aBY, aBX, fQ, fT, fM, fR, gK, fL, bH, bR, gE, eH, eF, fK, fJ, gA, cU, dL, gC, fZ, gS, eI, eQ, dM, dK, Xb, d1, g1, g1d, d2, f1, d3, d4, f2, g2, d5, d6]
       exact ⟨ns.length - (i + 1), by omega, i + 1, _, rfl, rfl, by omega, .inr ⟨a, rfl, ha, ha0, ha11⟩, x1d⟩
   .have d3 : decide (((out.getD i 0 : Nat) : Int) < (11 : Int)) = false := by simp only [decide_eq_false_iff_not]; omega
    simp (disch := omega) only [gI, gY, d1, fJ, aB0, hJ, gX, dJ, true_and, gA, g1, gD, hZ, d2, gV, gR, if_true, gO, fZ, aB4, gS, f1, d3, gW, aBZ, if_false, fV, gJ, Xb, gB]
    exact ⟨ns.length - (i + 1), by omega, i + 1, _, rfl, rfl, by omega, keep (by omega), x1d⟩
  .have d2 : decide ((0 : Int) < ((ns.getD i 0 : Nat) : Int)) = false := by simp only [decide_eq_false_iff_not]; omega
   simp (disch := omega) only [gI, gY, d1, fJ, aB0, hJ, gX, dJ, true_and, gA, g1, gD, hZ, d2, gW, gR, aBZ, if_false, fV, gJ, Xb, gB]
   exact ⟨ns.length - (i + 1), by omega, i + 1, _, rfl, rfl, by omega, keep (by omega), x1d⟩
 .have d1 : decide ((i : Int) < (ns.length : Int)) = false := by simp; omega
  obtain rfl : i = ns.length := by omega
  simp (disch := omega) only [gI, gY, d1, true_and, dJ, fV]
  exact hK at' w1 hp x1
theorem aoH {pb : Nat} {ov : aEm} {ns out : List Nat} {w : aEl} (hs : Sl w ov (Tq ns)) (hn : ∀ n ∈ ns, n <= 4294967295) (hl : ns.length <= 256) (h : PZ ns out) (ob : lN w pb (oc out)) (hat : ¬ MO ov (fun y => y = pb)) {RR : aEm -> aEl -> Prop}
 (hK : ∀ out w', PZ ns out -> nL out <= 2048 -> lN w' pb (oc out) -> jN w w' (fun y => y = pb) -> tM RR ov (.slice (some ⟨pb, 0, none⟩) ns.length ns.length) (.int .i64 (2048 - (nL out : Nat))) w') :
 tO RR ov (.slice (some ⟨pb, 0, none⟩) ns.length ns.length) (.int .i64 (2048 - (nL out : Nat))) w := by
 unfold tO C0 CZ
 refine kP.rule (fun m (t : aEm) w' => ∃ out : List Nat, m = aiS out /\ t = .int .i64 (2048 - (nL out : Nat)) /\ PZ ns out /\ lN w' pb (oc out) /\ jN w w' (fun y => y = pb)) (aiS out) ⟨out, rfl, rfl, h, ob, jN.refl _ _⟩ ?_
 rintro m t w1 ⟨out, rfl, rfl, h1, ob1, x1⟩
 have hlen := h1.len
 have hkb : nL out <= 1024 * ns.length := by
  rw [<- hlen]
  have : ∀ l : List Nat, nL l <= 1024 * l.length := fun l => by
   induction l with
   | nil => simp [nL]
   | cons x l ih =>
     rw [uQ, aCl]
     have : vY x <= 1024 := by
      unfold vY
      split
      .omega
      .have : 2 ^ (11 - x) <= 2 ^ 10 := aCn (by omega) (by omega)
       omega
     omega
  exact this out
 unfold xK Dd
 by_cases hneg : 2048 < nL out
 .have d1 : decide ((2048 : Int) - ((nL out : Nat) : Int) < 0) = true := by simp only [decide_eq_true_eq]; omega
  simp (disch := omega) only [gI, gY, d1, dJ, gB]
  unfold C3 JI Dk Dy
  refine apM (room := 2048 - ((nL out : Nat) : Int)) (hs.ext x1 hat) hn hl h1 ob1 fun at' w2 hp x2 => ?_
  rcases hp with ⟨_, q⟩ | ⟨a, rfl, ha, ha0, ha11⟩
  .exfalso
   have := aiN h1 hl q
   omega
  have ob2 := ob1.ext x2 (fun h => h)
  have f1 := ob2.cell (off := a)
  rw [NW (by omega)] at f1
  have hon := h1.on a ha ha0
  have hks := TZ (l := out) (i := a) (out.getD a 0 + 1) (by omega)
  have hsl := Zt (fun o => 11 - o) (l := out) (i := a) (out.getD a 0 + 1) (by omega)
  have hset := h1.set (o := out.getD a 0 + 1) ha ha0 (by omega) (by omega)
  rw [<- qI (by omega)] at hks hsl
  have hk1 : vY (out.getD a 0) = 2 * 2 ^ (10 - out.getD a 0) := by
   unfold vY
   rw [if_neg (by omega), <- Nat.pow_succ', show (10 - out.getD a 0).succ = 11 - out.getD a 0 from by omega]
  have hk2 : vY (out.getD a 0 + 1) = 2 ^ (10 - out.getD a 0) := by
   unfold vY
   rw [if_neg (by omega)]
   congr 1; omega
  rw [hk1, hk2] at hks
  have hsl2 : aiS (out.set a (out.getD a 0 + 1)) + (11 - out.getD a 0) = aiS out + (11 - (out.getD a 0 + 1)) := hsl
  generalize hov : out.getD a 0 = o at *
  have e1 : (11 : Int) - (o : Int) = ((11 - o : Nat) : Int) := by omega
  have e2 : ((11 - o : Nat) : Int) - 1 = ((10 - o : Nat) : Int) := by omega
  have hsh := apE (n := 10 - o) (by omega)
  have hp10 : 2 ^ (10 - o) <= 2 ^ 10 := aCn (by omega) (by omega)
  have e3 : (2048 : Int) - ((nL out : Nat) : Int) + ((2 ^ (10 - o) : Nat) : Int) = 2048 - ((nL (out.set a (o + 1)) : Nat) : Int) := by omega
  have e4 : (o : Int) + 1 = ((o + 1 : Nat) : Int) := by omega
  unfold wV
  simp (disch := omega) only [gI, fZ, aB0, aB4, dJ, gS, f1, gD, iC, e1, gX, e2, iE, hsh, hJ, e3, e4]
  refine LC ob2 rfl (by rw [aB6]; omega) fun w3 ob3 x3 s3 => ?_
  rw [alS] at ob3
  exact ⟨aiS (out.set a (o + 1)), by omega, _, rfl, rfl, hset, ob3, (x1.seq (x2.mono fun _ _ h => h.elim)).trans x3 fun _ _ h => h⟩
 .have d1 : decide ((2048 : Int) - ((nL out : Nat) : Int) < 0) = false := by simp only [decide_eq_false_iff_not]; omega
  simp (disch := omega) only [gI, gY, d1, dJ, fV]
  exact hK out w1 h1 (by omega) ob1 x1
def ahS (r : Nat) (ns out : List Nat) (i : Nat) (at' : Int) : Prop := (at' = -1 /\ ∀ j, j < i -> ¬ (0 < ns.getD j 0 /\ 2 ^ (11 - out.getD j 0) <= r)) ∨ (∃ a : Nat, at' = a /\ a < ns.length /\ 0 < ns.getD a 0 /\ 2 ^ (11 - out.getD a 0) <= r)
theorem aoR {pb : Nat} {ov : aEm} {r : Nat} {ns out : List Nat} {w : aEl} (hs : Sl w ov (Tq ns)) (hn : ∀ n ∈ ns, n <= 4294967295) (hl : ns.length <= 256) (h : PZ ns out) (hr : r <= 2048) (ob : lN w pb (oc out)) {kn : aEm -> aEm -> aEm -> aEm -> aEl -> Prop}
 (hK : ∀ at' w', ahS r ns out ns.length at' -> jN w w' mC -> kn ov (.slice (some ⟨pb, 0, none⟩) ns.length ns.length) (.int .i64 r) (.int .i64 at') w') :
 zX kn ov (.slice (some ⟨pb, 0, none⟩) ns.length ns.length) (.int .i64 r) (.int .i64 (-1)) w := by
 unfold zX EN
 obtain ⟨a, c, hv, hc⟩ := hs.len
 rw [aB6] at hv
 subst hv
 have hlen := h.len
 simp (disch := omega) only [gI, fK, dJ]
 unfold EF EB
 refine kP.rule (fun m (t : aEm × aEm) w' => ∃ (i : Nat) (at' : Int), m = ns.length - i /\ t = (.int .i64 at', .int .i64 i) /\ i <= ns.length /\ ahS r ns out i at' /\ jN w w' mC) ns.length
  ⟨0, -1, rfl, rfl, by omega, .inl ⟨rfl, fun j h => by omega⟩, jN.refl _ _⟩ ?_
 rintro m t w1 ⟨i, at', rfl, rfl, hi, hp, x1⟩
 unfold Ay Ev
 by_cases hlt : i < ns.length
 .have d1 : decide ((i : Int) < (ns.length : Int)) = true := by simp; omega
  have x1d : jN w (dr w1) mC := x1.seq (jN.dr _ _)
  obtain ⟨b1, off1, rfl, hcell1⟩ := slA (hs.ext x1 (kJ _)) (by omega)
  have g1 := hcell1 i hlt
  rw [Qx hlt] at g1
  have g1d : (dr w1).cell? ⟨b1, off1 + i, none⟩ = _ := g1
  have f1 := (ob.ext x1d (fun h => h)).cell (off := i)
  rw [NW (by omega)] at f1
  have keep : ¬ (0 < ns.getD i 0 /\ 2 ^ (11 - out.getD i 0) <= r) -> ahS r ns out (i + 1) at' := fun hb => by
   rcases hp with ⟨q1, q2⟩ | q
   .refine .inl ⟨q1, fun j hj => ?_⟩
    rcases aCk j i with h' | h'
    .exact q2 j h'
    .have : j = i := by omega
     subst this; exact hb
   .exact .inr q
  have keep2 : (0 : Int) <= at' -> ahS r ns out (i + 1) at' := fun hb => by
   rcases hp with ⟨q1, q2⟩ | q
   .omega
   .exact .inr q
  have new : 0 < ns.getD i 0 -> 2 ^ (11 - out.getD i 0) <= r -> ahS r ns out (i + 1) (i : Int) := fun q1 q2 => .inr ⟨i, rfl, hlt, q1, q2⟩
  have hoi := h.le (i := i) (by omega)
  rw [<- qI (by omega)] at hoi
  have e8 : (11 : Int) - ((out.getD i 0 : Nat) : Int) = ((11 - out.getD i 0 : Nat) : Int) := by omega
  have hsh := apE (n := 11 - out.getD i 0) (by omega)
  unfold zD
  by_cases h0 : 0 < ns.getD i 0
  .have d2 : decide ((0 : Int) < ((ns.getD i 0 : Nat) : Int)) = true := by simp only [decide_eq_true_eq]; omega
   by_cases h11 : 2 ^ (11 - out.getD i 0) <= r
   .have d3 : decide (((2 ^ (11 - out.getD i 0) : Nat) : Int) <= (r : Int)) = true := by simp only [decide_eq_true_eq]; omega
    rcases hp with ⟨rfl, q2⟩ | ⟨a, rfl, ha, ha0, har⟩
    .have d4 : decide ((-1 : Int) < 0) = true := rfl
     simp (disch := omega) only [gI, gY, d1, fJ, aB0, hJ, gX, dJ, true_and, gA, g1, gD, hZ, d2, gV, gR, if_true, gO, fZ, aB4, gS, f1, iC, e8, iE, hsh, iO, d3, d4, gU, gB, gJ, Xb]
     exact ⟨ns.length - (i + 1), by omega, i + 1, _, rfl, rfl, by omega, new h0 h11, x1d⟩
    .have d4 : decide ((a : Int) < 0) = false := by simp
     have f2 := (ob.ext x1d (fun h => h)).cell (off := a)
     rw [NW (by omega)] at f2
     have g2 : (dr w1).cell? ⟨b1, off1 + a, none⟩ = _ := hcell1 a ha
     rw [Qx ha] at g2
     by_cases h5 : out.getD a 0 < out.getD i 0
     .have d5 : decide (((out.getD a 0 : Nat) : Int) < ((out.getD i 0 : Nat) : Int)) = true := by simp only [decide_eq_true_eq]; omega
      simp (maxSteps := 4000000) (disch := omega) only [gI, jD, dJ, stepR_skip, hJ, iC, iM, iP, iL, iN, jJ, iX, gM, iE, iG, iI, iH, gY, iO, hZ, iF, iV, iW, iJ, gR, iT, iQ, iD, jV, jW, kF, kD, kC, kG, kA, kB, kE, gD, Result.ok.injEq, Next.value.injEq, true_and, and_true, gX, iA, iU, iR, iS, jF, aB0, gV, gU, gW, gT, gO, gJ, gP, gN, gB, fV, if_true, if_false, aBZ, aB4, aB1, aB2, aB5, aB3, aBY, aBX, fQ, fT, fM, fR, gK, fL, bH, bR, gE, eH, eF, fK, fJ, gA, cU, dL, gC, fZ, gS, eI, eQ, dM, dK, Xb, d1, g1, g1d, d2, f1, e8, hsh, d3, d4, f2, g2, d5]
      exact ⟨ns.length - (i + 1), by omega, i + 1, _, rfl, rfl, by omega, new h0 h11, x1d⟩
     .have d5 : decide (((out.getD a 0 : Nat) : Int) < ((out.getD i 0 : Nat) : Int)) = false := by simp only [decide_eq_false_iff_not]; omega
      by_cases h6 : out.getD i 0 = out.getD a 0
      .have d6 : (((out.getD i 0 : Nat) : Int) == ((out.getD a 0 : Nat) : Int)) = true := by rw [h6]; simp
       by_cases h7 : ns.getD a 0 < ns.getD i 0
       .have d7 : decide (((ns.getD a 0 : Nat) : Int) < ((ns.getD i 0 : Nat) : Int)) = true := by simp only [decide_eq_true_eq]; omega
        simp (maxSteps := 4000000) (disch := omega) only [gI, jD, dJ, stepR_skip, hJ, iC, iM, iP, iL, iN, jJ, iX, gM, iE, iG, iI, iH, gY, iO, hZ, iF, iV, iW, iJ, gR, iT, iQ, iD, jV, jW, kF, kD, kC, kG, kA, kB, kE, gD, Result.ok.injEq, Next.value.injEq, true_and, and_true, gX, iA, iU, iR, iS, jF, aB0, gV, gU, gW, gT, gO, gJ, gP, gN, gB, fV, if_true, if_false, aBZ, aB4, aB1, aB2, aB5, aB3, aBY, aBX, fQ, fT, fM, fR, gK, fL, bH, bR, gE, eH, eF, fK, fJ, gA, cU, dL, gC, fZ, gS, eI, eQ, dM, dK, Xb, d1, g1, g1d, d2, f1, e8, hsh, d3, d4, f2, g2, d5, d6, d7]
        exact ⟨ns.length - (i + 1), by omega, i + 1, _, rfl, rfl, by omega, new h0 h11, x1d⟩
       .have d7 : decide (((ns.getD a 0 : Nat) : Int) < ((ns.getD i 0 : Nat) : Int)) = false := by simp only [decide_eq_false_iff_not]; omega
        simp (maxSteps := 4000000) (disch := omega) only [gI, jD, dJ, stepR_skip, hJ, iC, iM, iP, iL, iN, jJ, iX, gM, iE, iG, iI, iH, gY, iO, hZ, iF, iV, iW, iJ, gR, iT, iQ, iD, jV, jW, kF, kD, kC, kG, kA, kB, kE, gD, Result.ok.injEq, Next.value.injEq, true_and, and_true, gX, iA, iU, iR, iS, jF, aB0, gV, gU, gW, gT, gO, gJ, gP, gN, gB, fV, if_true, if_false, aBZ, aB4, aB1, aB2, aB5, aB3, aBY, aBX, fQ, fT, fM, fR, gK, fL, bH, bR, gE, eH, eF, fK, fJ, gA, cU, dL, gC, fZ, gS, eI, eQ, dM, dK, Xb, d1, g1, g1d, d2, f1, e8, hsh, d3, d4, f2, g2, d5, d6, d7]
        exact ⟨ns.length - (i + 1), by omega, i + 1, _, rfl, rfl, by omega, .inr ⟨a, rfl, ha, ha0, har⟩, x1d⟩
      .have d6 : (((out.getD i 0 : Nat) : Int) == ((out.getD a 0 : Nat) : Int)) = false := beq_eq_false_iff_ne.2 (by omega)
       simp (maxSteps := 4000000) (disch := omega) only [gI, jD, dJ, stepR_skip, hJ, iC, iM, iP, iL, iN, jJ, iX, gM, iE, iG, iI, iH, gY, iO, hZ, iF, iV, iW, iJ, gR, iT, iQ, iD, jV, jW, kF, kD, kC, kG, kA, kB, kE, gD, Result.ok.injEq, Next.value.injEq, true_and, and_true, gX, iA, iU, iR, iS, jF, aB0, gV, gU, gW, gT, gO, gJ, gP, gN, gB, fV, if_true, if_false, aBZ, aB4, aB1, aB2, aB5, aB3, aBY, aBX, fQ, fT, fM, fR, gK, fL, bH, bR, gE, eH, eF, fK, fJ, gA, cU, dL, gC, fZ, gS, eI, eQ, dM, dK, Xb, d1, g1, g1d, d2, f1, e8, hsh, d3, d4, f2, g2, d5, d6]
       exact ⟨ns.length - (i + 1), by omega, i + 1, _, rfl, rfl, by omega, .inr ⟨a, rfl, ha, ha0, har⟩, x1d⟩
   .have d3 : decide (((2 ^ (11 - out.getD i 0) : Nat) : Int) <= (r : Int)) = false := by simp only [decide_eq_false_iff_not]; omega
    simp (disch := omega) only [gI, gY, d1, fJ, aB0, hJ, gX, dJ, true_and, gA, g1, gD, hZ, d2, gV, gR, if_true, gO, fZ, aB4, gS, f1, iC, e8, iE, hsh, iO, d3, gW, aBZ, if_false, fV, gJ, Xb, gB]
    exact ⟨ns.length - (i + 1), by omega, i + 1, _, rfl, rfl, by omega, keep (by omega), x1d⟩
  .have d2 : decide ((0 : Int) < ((ns.getD i 0 : Nat) : Int)) = false := by simp only [decide_eq_false_iff_not]; omega
   simp (disch := omega) only [gI, gY, d1, fJ, aB0, hJ, gX, dJ, true_and, gA, g1, gD, hZ, d2, gW, gR, aBZ, if_false, fV, gJ, Xb, gB]
   exact ⟨ns.length - (i + 1), by omega, i + 1, _, rfl, rfl, by omega, keep (by omega), x1d⟩
 .have d1 : decide ((i : Int) < (ns.length : Int)) = false := by simp; omega
  obtain rfl : i = ns.length := by omega
  simp (disch := omega) only [gI, gY, d1, true_and, dJ, fV]
  exact hK at' w1 hp x1
theorem apH {pb : Nat} {ov : aEm} {ns out : List Nat} {w : aEl} (hs : Sl w ov (Tq ns)) (hn : ∀ n ∈ ns, n <= 4294967295) (hl : ns.length <= 256) (h2 : 2 <= ns.countP GY) (h : PZ ns out) (hk : nL out <= 2048) (ob : lN w pb (oc out)) (hat : ¬ MO ov (fun y => y = pb)) {RR : aEm -> aEl -> Prop}
 (hK : ∀ out w', PZ ns out -> nL out = 2048 -> lN w' pb (oc out) -> jN w w' (fun y => y = pb) -> RR (.slice (some ⟨pb, 0, none⟩) ns.length ns.length) w') :
 tM RR ov (.slice (some ⟨pb, 0, none⟩) ns.length ns.length) (.int .i64 (2048 - (nL out : Nat))) w := by
 unfold tM Dz C7
 refine kP.rule (fun m (t : aEm) w' => ∃ out : List Nat, m = 2048 - nL out /\ t = .int .i64 (2048 - (nL out : Nat)) /\ PZ ns out /\ nL out <= 2048 /\ lN w' pb (oc out) /\ jN w w' (fun y => y = pb)) (2048 - nL out) ⟨out, rfl, rfl, h, hk, ob, jN.refl _ _⟩ ?_
 rintro m t w1 ⟨out, rfl, rfl, h1, hk1, ob1, x1⟩
 have hlen := h1.len
 have e0 : (2048 : Int) - ((nL out : Nat) : Int) = ((2048 - nL out : Nat) : Int) := by omega
 rw [e0]
 unfold wZ CU
 by_cases hpos : nL out < 2048
 .have d1 : decide ((0 : Int) < ((2048 - nL out : Nat) : Int)) = true := by simp only [decide_eq_true_eq]; omega
  simp (disch := omega) only [gI, hZ, d1, dJ, gB]
  unfold Dr Jy C2 Dl
  refine aoR (r := 2048 - nL out) (hs.ext x1 hat) hn hl h1 (by omega) ob1 fun at' w2 hp x2 => ?_
  obtain ⟨t0, ht0, ht1, _⟩ := arB (c := ns.length) h2
  rcases hp with ⟨_, q⟩ | ⟨a, rfl, ha, ha0, har⟩
  .exfalso
   obtain ⟨j, j1, j2, j3⟩ := afC h1 ht0 ht1 hpos
   exact q j j1 ⟨j2, j3⟩
  obtain ⟨b, hb, hb0, hba⟩ := arB (c := a) h2
  have hge2 := aqA h1 ha hb (fun e => hba e.symm) ha0 hb0 har hk1
  have ob2 := ob1.ext x2 (fun h => h)
  have f1 := ob2.cell (off := a)
  rw [NW (by omega)] at f1
  have hon := h1.on a ha ha0
  have hks := TZ (l := out) (i := a) (out.getD a 0 - 1) (by omega)
  have hset := h1.set (o := out.getD a 0 - 1) ha ha0 (by omega) (by omega)
  rw [<- qI (by omega)] at hks
  have hk3 : vY (out.getD a 0) = 2 ^ (11 - out.getD a 0) := by unfold vY; rw [if_neg (by omega)]
  have hk2 : vY (out.getD a 0 - 1) = 2 * 2 ^ (11 - out.getD a 0) := by
   unfold vY
   rw [if_neg (by omega), <- Nat.pow_succ']
   congr 1; omega
  rw [hk3, hk2] at hks
  generalize hov : out.getD a 0 = o at *
  have e1 : (11 : Int) - (o : Int) = ((11 - o : Nat) : Int) := by omega
  have hsh := apE (n := 11 - o) (by omega)
  have hp10 := aCH (11 - o)
  have e3 : ((2048 - nL out : Nat) : Int) - ((2 ^ (11 - o) : Nat) : Int) = 2048 - ((nL (out.set a (o - 1)) : Nat) : Int) := by omega
  have e4 : (o : Int) - 1 = ((o - 1 : Nat) : Int) := by omega
  unfold zJ
  simp (disch := omega) only [gI, fZ, aB0, aB4, dJ, gS, f1, gD, iC, e1, gX, iE, hsh, e3, e4]
  refine LC ob2 rfl (by rw [aB6]; omega) fun w3 ob3 x3 s3 => ?_
  rw [alS] at ob3
  exact ⟨2048 - nL (out.set a (o - 1)), by omega, _, rfl, rfl, hset, by omega, ob3, (x1.seq (x2.mono fun _ _ h => h.elim)).trans x3 fun _ _ h => h⟩
 .have d1 : decide ((0 : Int) < ((2048 - nL out : Nat) : Int)) = false := by simp only [decide_eq_false_iff_not]; omega
  unfold zL
  simp (disch := omega) only [gI, hZ, d1, dJ, fV]
  exact hK out w1 h1 (by omega) ob1 x1
theorem aoS {ov : aEm} {S : Nat} {ns : List Nat} {w : aEl} (hs : Sl w ov (Tq ns)) (hn : ∀ n ∈ ns, n <= 4294967295) (hl : ns.length <= 256) (h2 : 2 <= ns.countP GY) (hS0 : 0 < S) (hS : S <= 2147483647) :
 jE pg Bu #[ov, .int .u64 S] w (fun r w' => ∃ pb out, r = .slice (some ⟨pb, 0, none⟩) ns.length ns.length /\ w.heap.size <= pb /\ lN w' pb (oc out) /\ PZ ns out /\ nL out = 2048 /\ jN w w' mC) := by
 refine S8 ?_
 obtain ⟨a, c, hv, hc⟩ := hs.len
 rw [aB6] at hv hc
 subst hv
 unfold Q7 Dq C4
 simp (disch := omega) only [gI, fK, dJ]
 refine Yr (by omega) (by omega) fun w1 o1 x1 s1 => ?_
 rw [aB0] at o1 ⊢
 have ho1 : lN w1 w.heap.size (oc (List.replicate ns.length 0)) := by
  unfold oc; rw [aDx]; exact o1
 have hat : ¬ MO (.slice a ns.length c) (fun y => y = w.heap.size) := fun h => hs.old (DC h fun b hb => by omega)
 have hs1 := hs.ext x1 (kJ _)
 refine apC hs1 hn hl hS0 hS ho1 hat fun out w2 h2' ob2 x2 => ?_
 refine aoH (hs1.ext x2 hat) hn hl h2' ob2 hat fun out w3 h3 hk3 ob3 x3 => ?_
 refine apH ((hs1.ext x2 hat).ext x3 hat) hn hl h2 h3 hk3 ob3 hat fun out w4 h4 hk4 ob4 x4 => ?_
 exact ⟨_, out, rfl, aCb _, ob4, h4, hk4, ((x1.trans x2 fun b hb h => by omega).trans x3 fun b hb h => by omega).trans x4 fun b hb h => by omega⟩
theorem aAb {pb : Nat} {out : List Nat} {w : aEl} (ob : lN w pb (oc out)) (h0 : 0 < out.length) (hl : out.length <= 100000) (hb : ∀ o ∈ out, o <= 1000000) :
 jE pg BG #[.slice (some ⟨pb, 0, none⟩) out.length out.length] w (fun r w' => (∃ m : Nat, r = .int .i64 m /\ (∀ x ∈ out, x <= m) /\ m ∈ out) /\ w' = w) := by
 refine TM ?_
 unfold Rf DA C6
 have d0 : decide ((out.length : Int) < 1) = false := by simp; omega
 have g0 := ob.cell (off := 0)
 rw [NW h0] at g0
 have t0 : (0 : Int).toNat = 0 := rfl
 simp (disch := omega) only [gI, gC, dJ, gY, d0, fV]
 unfold Ei EL
 simp (disch := omega) only [gI, fZ, t0, aB4, dJ, gS, g0, gD]
 unfold Er Ep Ek Fa Eo
 refine kP.rule (fun m (t : aEm × aEm) w' => ∃ i q : Nat, m = out.length - i /\ t = (.int .i64 q, .int .i64 i) /\ 1 <= i /\ i <= out.length /\ (∀ x ∈ out.take i, x <= q) /\ q ∈ out.take i /\ w' = w) (out.length - 1)
  ⟨1, out.getD 0 0, by omega, rfl, by omega, by omega, ?_, ?_, rfl⟩ ?_
 .intro x hx
  rw [Eh (i := 0) h0] at hx
  simp at hx; simp; omega
 .rw [Eh (i := 0) h0]; simp
 rintro m t w1 ⟨i, q, rfl, rfl, hi1, hi, hle, hmem, rfl⟩
 unfold zM
 by_cases hlt : i < out.length
 .have d1 : decide ((i : Int) < (out.length : Int)) = true := by simp; omega
  have g1 := ob.cell (off := i)
  rw [NW hlt] at g1
  have ht := Eh hlt
  have hxb : out.getD i 0 <= 1000000 := by rw [qI hlt]; exact hb _ (aCW hlt)
  have hqb : q <= 1000000 := hb q (aC5 hmem)
  generalize out.getD i 0 = x at *
  have hmx : (if (q : Int) < (x : Int) then (x : Int) else (q : Int)) = ((max q x : Nat) : Int) := by split <;> omega
  have hmx2 : (if (x : Int) > (q : Int) then (x : Int) else (q : Int)) = ((max q x : Nat) : Int) := by split <;> omega
  simp (disch := omega) only [gI, gC, fZ, aB0, aB4, hJ, gX, dJ, gS, gY, d1, g1, gD, iQ, hmx, and_true, gB]
  refine ⟨out.length - (i + 1), by omega, i + 1, max q x, rfl, rfl, by omega, by omega, ?_, ?_⟩
  .intro y hy
   rw [ht] at hy
   rcases aC3.1 hy with hy | hy
   .have := hle y hy; omega
   .rw [aD4.1 hy]; omega
  .rw [ht, aC3]
   rcases aEh q x with h | h
   .rw [Nat.max_eq_right h]; exact .inr (aD4.2 rfl)
   .rw [Nat.max_eq_left h]; exact .inl hmem
 .have d1 : decide ((i : Int) < (out.length : Int)) = false := by simp; omega
  obtain rfl : i = out.length := by omega
  rw [aDD] at *
  unfold Af
  simp (disch := omega) only [gI, gC, hJ, gX, dJ, gY, d1, and_true, fV]
  exact ⟨q, rfl, hle, hmem⟩
def adJ (ns : List Nat) : Bool := decide (ns.length <= 256 /\ 2 <= ns.countP GY /\ ns.sum <= 2147483647)
theorem aqC {ov : aEm} {ns : List Nat} {w : aEl} (hs : Sl w ov (Tq ns)) (hn : ∀ n ∈ ns, n <= 4294967295) (hl : ns.length <= 300) {RR : aEm -> aEl -> Prop}
 (hK : ∀ last, XI ns ns.length last -> FK RR ov (.int .u64 ns.sum) (.int .i64 (ns.countP GY : Nat)) (.int .i64 last) w) :
 GB RR ov (.int .u64 0) (.int .i64 0) (.int .i64 0) w := by
 unfold GB Kt LP
 obtain ⟨a, c, hv, hc⟩ := hs.len
 rw [aB6] at hv
 subst hv
 simp (disch := omega) only [gI, fK, dJ]
 unfold KZ Lc
 refine kP.rule (fun m (t : aEm × aEm × aEm × aEm) w' => ∃ i last : Nat, m = ns.length - i /\ t = (.int .u64 (ns.take i).sum, .int .i64 ((ns.take i).countP GY : Nat), .int .i64 last, .int .i64 i) /\ i <= ns.length /\ XI ns i last /\ last <= i /\ w' = w) ns.length
  ⟨0, 0, rfl, by simp, by omega, .inl ⟨rfl, fun j h => by omega⟩, by omega, rfl⟩ ?_
 rintro m t w1 ⟨i, last, rfl, rfl, hi, hla, hli, rfl⟩
 unfold Gv KI
 by_cases hlt : i < ns.length
 .have d1 : decide ((i : Int) < (ns.length : Int)) = true := by simp; omega
  obtain ⟨b, off, rfl, hcell⟩ := slA hs (by omega)
  have g1 := hcell i hlt
  rw [Qx hlt] at g1
  have hni : ns.getD i 0 <= 4294967295 := by rw [qI hlt]; exact hn _ (aCW hlt)
  have hsl := ajP (B := 4294967295) (l := ns.take i) fun n hn' => hn n (aC5 hn')
  rw [aCf, aCL (by omega)] at hsl
  have hsl2 : i * 4294967295 <= 300 * 4294967295 := aCv _ (by omega)
  have hct : (ns.take i).countP GY <= i := by
   have := aEg (l := ns.take i) (p := GY)
   rw [aCf] at this; omega
  have hsum : (ns.take (i + 1)).sum = (ns.take i).sum + ns.getD i 0 := by rw [Eh hlt, List.sum_append]; simp
  have hcnt : (ns.take (i + 1)).countP GY = (ns.take i).countP GY + (if 0 < ns.getD i 0 then 1 else 0) := by
   rw [Eh hlt, List.countP_append, List.countP_singleton]
   unfold GY; simp only [decide_eq_true_eq]
  have hstep := hla.step
  generalize ns.getD i 0 = n at *
  have e1 : (((ns.take i).sum : Nat) : Int) + (n : Int) = (((ns.take i).sum + n : Nat) : Int) := by omega
  by_cases h0 : 0 < n
  .have d2 : decide ((0 : Int) < (n : Int)) = true := by simp; omega
   rw [if_pos h0] at hcnt hstep
   unfold Ci
   simp (disch := omega) only [gI, gY, d1, fJ, aB0, hJ, gX, dJ, gA, g1, gD, cU, iA, hZ, d2, gB, e1, and_true]
   exact ⟨ns.length - (i + 1), by omega, i + 1, i, rfl, by rw [hsum, hcnt] <;> rfl, by omega, hstep, by omega⟩
  .have d2 : decide ((0 : Int) < (n : Int)) = false := by simp; omega
   rw [if_neg h0] at hcnt hstep
   unfold Ci
   simp (disch := omega) only [gI, gY, d1, fJ, aB0, hJ, gX, dJ, gA, g1, gD, cU, iA, hZ, d2, fV, e1, and_true, gB]
   exact ⟨ns.length - (i + 1), by omega, i + 1, last, rfl, by rw [hsum, hcnt] <;> rfl, by omega, hstep, by omega⟩
 .have d1 : decide ((i : Int) < (ns.length : Int)) = false := by simp; omega
  obtain rfl : i = ns.length := by omega
  rw [aCg (aCb _)]
  simp (disch := omega) only [gI, gY, d1, hJ, dJ, fV]
  exact hK last hla
def azD (w : aEl) (base : Nat) (ns : List Nat) (r : aEm) : Prop :=
 (adJ ns = false /\ r = .tuple #[.slice none 0 0, .int .i64 1]) ∨
 (adJ ns = true /\ ∃ (last : Nat) (v : aEm) (wl : List Nat), XI ns ns.length last /\ last < ns.length /\ wl.length = last + 1 /\ pI wl ≠ 0 /\ (∀ x ∈ wl, x <= 11) /\ (∀ i, i < last + 1 -> (0 < wl.getD i 0 ↔ 0 < ns.getD i 0)) /\
  r = .tuple #[v, .int .i64 0] /\ yW w base 1 v (last + 1) ((SH wl).map nT))
theorem akN {ns out : List Nat} {d last : Nat} (h : PZ (ns.take (last + 1)) out) (hk : nL out = 2048) (hd : ∀ o ∈ out, o <= d) (hdm : d ∈ out) (hl : last < ns.length) (hl2 : ns.length <= 256) (hlast : 0 < ns.getD last 0) (h2 : 2 <= (ns.take (last + 1)).countP GY) :
 pI (out.map (wOf d)) = d /\ d ≠ 0 /\ d <= 11 /\ ∀ i, i < last + 1 -> (0 < (out.map (wOf d)).getD i 0 ↔ 0 < ns.getD i 0) := by
 have hlen := h.len
 have htl : (ns.take (last + 1)).length = last + 1 := by rw [aCf]; omega
 have htd : ∀ i, i < last + 1 -> (ns.take (last + 1)).getD i 0 = ns.getD i 0 := fun i hi => by
  rw [aB9, aB9, aCN hi]
 have hd11 : d <= 11 := by
  obtain ⟨i, hi, rfl⟩ := aCX hdm
  exact h.le hi
 have hon := h.on last (by omega) (by rw [htd last (by omega)]; exact hlast)
 have hd0 : 1 <= d := by
  have := hd (out.getD last 0) (by rw [qI (by omega)]; exact aCW _)
  omega
 have hW := atH hd11 hd hk
 have hget : ∀ i, i < last + 1 -> (out.map (wOf d)).getD i 0 = wOf d (out.getD i 0) := fun i hi => by
  rw [qI (by rw [aB6]; omega), aEe, qI (by omega)]
 have hiff : ∀ i, i < last + 1 -> (0 < (out.map (wOf d)).getD i 0 ↔ 0 < ns.getD i 0) := fun i hi => by
  rw [hget i hi, <- htd i hi]
  have hdi := hd (out.getD i 0) (by rw [qI (by omega)]; exact aCW _)
  constructor
  .intro h0
   rcases aDc ((ns.take (last + 1)).getD i 0) with h' | h'
   .rw [h.off i (by omega) h'] at h0
    simp [wOf] at h0
   .exact h'
  .intro h0
   have := h.on i (by omega) h0
   unfold wOf
   rw [if_neg (by omega)]; omega
 have hlast2 : 2 <= last + 1 := by
  have := aEg (l := ns.take (last + 1)) (p := GY)
  omega
 refine ⟨aoM ?_ hd11 (by rw [aB6]; omega) (by rw [aB6]; omega) ?_ hW, by omega, hd11, hiff⟩
 .intro w hw
  obtain ⟨o, ho, rfl⟩ := aCU.1 hw
  have := hd o ho
  unfold wOf
  split <;> omega
 .intro hq
  rw [aD0, aB6, hlen, htl, aDJ] at hq
  have := (hiff last (by omega)).2 hlast
  rw [aB9, hq] at this
  simp at this
theorem amO {base i x : Nat} {d10 v' t51 t52 t53 : aEm} {cells : List aEm} {w : aEl} (o : yW w base 1 v' i cells) (hb : base <= w.heap.size) (hi : i <= 100000) (hx : x < 256) {kn : aEm -> aEm -> aEm -> aEm -> aEm -> aEl -> Prop}
 (hK : ∀ v2 w2, yW w2 base 1 v2 (i + 1) (cells ++ [.int .u8 x]) -> jN w w2 (fun y => base <= y) -> kn d10 v2 t51 t52 t53 w2) : DR kn d10 v' (.int .i64 x) t51 t52 t53 w := by
 unfold DR
 obtain ⟨av, cv, rfl⟩ := o.len
 have e8 : IntKind.u8.wrap (x : Int) = (x : Int) := jF (by omega) (by omega)
 simp (disch := omega) only [gI, fM, e8, dJ]
 refine uD (cells := #[.int .u8 x]) (by decide) (by decide) (by kernel_rfl) fun w5 o5 x5 s5 => ?_
 have z5 := x5.size
 refine mU (m := 1) (news := [.int .u8 x]) (o.ext x5 (fun _ _ h => h)) (o5.cl (off := 0) (l := [.int .u8 x]) (n := 1) rfl (fun i hi => by rw [aB4])) (by simp [one]) (by omega) (by omega) fun v6 w6 o6 x6 => ?_
 exact hK v6 w6 o6 ((x5.mono fun _ _ h => h.elim).seq x6)
theorem aA6 {ov : aEm} {ns : List Nat} {w : aEl} (hs : Sl w ov (Tq ns)) (hn : ∀ n ∈ ns, n <= 4294967295) (hl : ns.length <= 300) :
 jE pg JQ #[ov] w (fun r w' => azD w' w.heap.size ns r /\ jN w w' mC) := by
 refine Z1 ?_
 unfold abR Ky KD
 refine aqC hs hn hl fun last hlast => ?_
 unfold FK J3
 obtain ⟨a, c, hv, hc⟩ := hs.len
 rw [aB6] at hv hc
 subst hv
 have no : ¬ (ns.length <= 256 /\ 2 <= ns.countP GY /\ ns.sum <= 2147483647) -> adJ ns = false := fun h => by unfold adJ; exact decide_eq_false h
 have hcl : ns.countP GY <= ns.length := aEg
 have hsl := ajP (B := 4294967295) hn
 have hsl2 : ns.length * 4294967295 <= 300 * 4294967295 := aCv _ (by omega)
 by_cases h4 : 256 < ns.length
 .have d4 : decide ((256 : Int) < (ns.length : Int)) = true := by simp; omega
  simp (disch := omega) only [gI, fK, hJ, dJ, hZ, d4, gU, gR, if_true, gB, gJ]
  exact ⟨.inl ⟨no (by omega), rfl⟩, jN.refl _ _⟩
 have d4 : decide ((256 : Int) < (ns.length : Int)) = false := by simp; omega
 by_cases h5 : ns.countP GY < 2
 .have d5 : decide (((ns.countP GY : Nat) : Int) < 2) = true := by simp only [decide_eq_true_eq]; omega
  simp (disch := omega) only [gI, fK, hJ, dJ, hZ, d4, gT, gR, aBZ, if_false, gO, gY, d5, gU, if_true, gB, gJ]
  exact ⟨.inl ⟨no (by omega), rfl⟩, jN.refl _ _⟩
 have d5 : decide (((ns.countP GY : Nat) : Int) < 2) = false := by simp only [decide_eq_false_iff_not]; omega
 by_cases h7 : 2147483647 < ns.sum
 .have d7 : decide ((2147483647 : Int) < ((ns.sum : Nat) : Int)) = true := by simp only [decide_eq_true_eq]; omega
  simp (disch := omega) only [gI, fK, hJ, dJ, hZ, d4, gT, gR, aBZ, if_false, gO, gY, d5, d7, gB]
  exact ⟨.inl ⟨no (by omega), rfl⟩, jN.refl _ _⟩
 have d7 : decide ((2147483647 : Int) < ((ns.sum : Nat) : Int)) = false := by simp only [decide_eq_false_iff_not]; omega
 have hok : adJ ns = true := by unfold adJ; exact decide_eq_true (by omega)
 have hl2 : last < ns.length /\ 0 < ns.getD last 0 /\ ∀ j, last < j -> j < ns.length -> ns.getD j 0 = 0 := by
  rcases hlast with ⟨rfl, h⟩ | h
  .exfalso
   have : ns.countP GY = 0 := YR fun n hn => by
    obtain ⟨i, hi, rfl⟩ := aCX hn
    rw [<- qI hi]; exact h i hi
   omega
  .exact h
 obtain ⟨l1, l2, l3⟩ := hl2
 have hS0 : 0 < ns.sum := by
  have := asH (l := ns) (n := ns.getD last 0) (by rw [qI l1]; exact aCW _)
  omega
 have hz : ∀ n ∈ ns.drop (last + 1), n = 0 := fun n hn => by
  obtain ⟨i, hi, rfl⟩ := aCX hn
  rw [aCi] at hi
  rw [List.getElem_drop, <- qI (by omega)]
  exact l3 _ (by omega) (by omega)
 have hcnt : 2 <= (ns.take (last + 1)).countP GY := by
  have : ns.countP GY = (ns.take (last + 1) ++ ns.drop (last + 1)).countP GY := by rw [aDy]
  rw [List.countP_append, YR hz] at this
  omega
 have htl : (ns.take (last + 1)).length = last + 1 := by rw [aCf]; omega
 have e1 : (last : Int) + 1 = ((last + 1 : Nat) : Int) := by omega
 obtain ⟨b0, off0, rfl, _⟩ := slA hs (by omega)
 have e2 : mY (some ⟨b0, off0, none⟩) c 0 1 = some ⟨b0, off0, none⟩ := by have := QH (b := b0) (o := off0) (m := c) (l := 0) (by omega); simpa using this
 have hsub : Sl w (.slice (some ⟨b0, off0, none⟩) (last + 1) c) (Tq (ns.take (last + 1))) := by
  have := aAj hs (k := last + 1) (by omega)
  rw [<- aDF] at this
  exact this
 simp (disch := omega) only [gI, fK, hJ, e1, gX, dJ, dL, e2, aB0, aDE, hZ, d4, gT, gR, aBZ, if_false, gO, gY, d5, d7, fV]
 refine (aoS hsub (fun n h => hn n (aC5 h)) (by omega) hcnt hS0 (by omega)).mono ?_
 rintro r w1 ⟨pb, out, rfl, hpb, ob, hLen, hkr, x1⟩
 rw [htl]
 have hol : out.length = last + 1 := by rw [hLen.len, htl]
 have hm := aAb (w := w1) (pb := pb) (out := out) ob (by omega) (by omega) (fun o ho => by
  obtain ⟨i, hi, rfl⟩ := aCX ho
  have := hLen.le hi; omega)
 rw [hol] at hm
 refine hm.mono ?_
 rintro r w2 ⟨⟨d, rfl, hd1, hd2⟩, rfl⟩
 obtain ⟨hdep, hd0, hd11, hiff⟩ := akN hLen hkr hd1 hd2 l1 (by omega) l2 hcnt
 obtain ⟨wl, hwl⟩ : ∃ wl, out.map (wOf d) = wl := ⟨_, rfl⟩
 have hwll : wl.length = last + 1 := by rw [<- hwl, aB6, hol]
 have hwget : ∀ i, i < last + 1 -> wl.getD i 0 = wOf d (out.getD i 0) := fun i hi => by
  rw [<- hwl, qI (by rw [aB6]; omega), aEe, qI (by omega)]
 rw [hwl] at hdep hiff
 have hw11 := (OO hdep hd0).1
 unfold Ll LH Lr
 simp (disch := omega) only [gI, gC, dJ]
 unfold Kc KS
 refine kP.rule (fun m (t : aEm × aEm) w' => ∃ (i : Nat) (v' : aEm), m = last + 1 - i /\ t = (v', .int .i64 i) /\ i <= last + 1 /\ yW w' w2.heap.size 1 v' i ((SH (wl.take i)).map nT) /\ jN w2 w' mC) (last + 1)
  ⟨0, _, rfl, rfl, by omega, yW.nil _ _ _, jN.refl _ _⟩ ?_
 rintro m t w3 ⟨i, v', rfl, rfl, hi, o3, x3⟩
 have z3 := x3.size
 have z1 := x1.size
 unfold IB Ot
 by_cases hlt : i < last + 1
 .have d1 : decide ((i : Int) < ((last + 1 : Nat) : Int)) = true := by simp only [decide_eq_true_eq]; omega
  have f1 := (ob.ext x3 (fun h => h)).cell (off := i)
  rw [NW (by omega)] at f1
  have hs1 := Eh (ns := wl) (i := i) (by omega)
  rw [hwget i hlt] at hs1
  have hod := hd1 (out.getD i 0) (by rw [qI (by omega)]; exact aCW _)
  have hwo : wOf d (out.getD i 0) = if out.getD i 0 = 0 then 0 else d + 1 - out.getD i 0 := rfl
  generalize out.getD i 0 = o at *
  have hcells : ∀ x : Nat, wOf d o = x -> x < 256 -> ((SH (wl.take i)).map nT ++ [.int .u8 x]) = (SH (wl.take (i + 1))).map nT := fun x hx hx2 => by
   rw [hs1, hx]
   simp only [SH, aCC, aCz, aEj, ajZ hx2]
  unfold NN Oc Vb Nh
  by_cases h0 : 0 < o
  .have d2 : decide ((0 : Int) < (o : Int)) = true := by simp; omega
   have e3 : (d : Int) + 1 - (o : Int) = ((d + 1 - o : Nat) : Int) := by omega
   rw [if_neg (by omega)] at hwo
   simp (disch := omega) only [gI, gY, d1, fZ, aB0, aB4, hJ, gX, dJ, gS, f1, gD, hZ, d2, iC, e3, gB]
   refine amO o3 z3 (by omega) (by omega) fun v4 w4 o4 x4 => ?_
   rw [hcells _ hwo (by omega)] at o4
   unfold DP
   simp (disch := omega) only [gI, hJ, gX, dJ]
   exact ⟨last + 1 - (i + 1), by omega, i + 1, _, rfl, rfl, by omega, o4, x3.trans x4 fun b hb h => by omega⟩
  .have d2 : decide ((0 : Int) < (o : Int)) = false := by simp; omega
   rw [if_pos (by omega)] at hwo
   simp (disch := omega) only [gI, gY, d1, fZ, aB0, aB4, hJ, gX, dJ, gS, f1, gD, hZ, d2, iC, fV, gB]
   refine amO (x := 0) o3 z3 (by omega) (by omega) fun v4 w4 o4 x4 => ?_
   rw [hcells _ hwo (by omega)] at o4
   unfold DP
   simp (disch := omega) only [gI, hJ, gX, dJ]
   exact ⟨last + 1 - (i + 1), by omega, i + 1, _, rfl, rfl, by omega, o4, x3.trans x4 fun b hb h => by omega⟩
 .have d1 : decide ((i : Int) < ((last + 1 : Nat) : Int)) = false := by simp only [decide_eq_false_iff_not]; omega
  obtain rfl : i = last + 1 := by omega
  rw [aCg (by omega)] at o3
  unfold IK
  simp (disch := omega) only [gI, gY, d1, dJ, fV]
  refine ⟨.inr ⟨hok, last, v', wl, hlast, l1, hwll, by omega, fun x hx => by have := hw11 x hx; omega, hiff, rfl, o3.1, ?_⟩, x1.seq x3⟩
  rcases o3.2 with h | ⟨b, c, rest', q1, q2, q3⟩
  .exact .inl h
  .exact .inr ⟨b, c, rest', q1, by omega, q3⟩
def wrB (l : List Nat) : List Nat := (126 + l.length) :: Q3 (l.take (l.length - 1))
theorem alT (l : List Nat) : (wrB l).length = 1 + (l.length - 1 + 1) / 2 := by
 unfold wrB
 rw [aCl, Wz, aCf, aCL (by omega)]; omega
theorem aaL {base i x : Nat} {l0 n4 v' i6 : aEm} {cells : List aEm} {w : aEl} (o : yW w base 1 v' i cells) (hb : base <= w.heap.size) (hi : i <= 100000) (hx : x < 256) {kn : aEm -> aEm -> aEm -> aEm -> aEl -> Prop}
 (hK : ∀ v2 w2, yW w2 base 1 v2 (i + 1) (cells ++ [.int .u8 x]) -> jN w w2 (fun y => base <= y) -> kn l0 n4 v2 i6 w2) : yJ kn l0 n4 v' i6 (.int .u8 x) w := by
 unfold yJ
 obtain ⟨av, cv, rfl⟩ := o.len
 refine uD (cells := #[.int .u8 x]) (by decide) (by decide) (by kernel_rfl) fun w5 o5 x5 s5 => ?_
 have z5 := x5.size
 refine mU (m := 1) (news := [.int .u8 x]) (o.ext x5 (fun _ _ h => h)) (o5.cl (off := 0) (l := [.int .u8 x]) (n := 1) rfl (fun i hi => by rw [aB4])) (by simp [one]) (by omega) (by omega) fun v6 w6 o6 x6 => ?_
 exact hK v6 w6 o6 ((x5.mono fun _ _ h => h.elim).seq x6)
theorem ajQ {v : aEm} {l : List UInt8} {w : aEl} (h : Bs w v l) (hl : l.length <= 100000) (hd : pI (kR l) = 0 ∨ 129 < l.length) :
 jE pg AK #[v] w (fun r w' => r = .tuple #[.slice none 0 0, .int .i64 (if pI (kR l) = 0 then 1 else 12)] /\ w' = w) := by
 refine Kd ?_
 obtain ⟨a, n, c, rfl, hn, hc, hh⟩ := id h
 rw [aB6] at hn
 subst hn
 unfold NM BI BO
 refine (Z4 h hl).mono ?_
 rintro r w1 ⟨rfl, rfl⟩
 by_cases h0 : pI (kR l) = 0
 .have n1 : (((pI (kR l) : Nat) : Int) == 0) = true := by rw [h0] <;> rfl
  simp (disch := omega) only [gI, iI, n1, fQ, dJ, iC, gX, hJ, fM, hZ, and_true, gB]
  rw [if_pos h0]
 .have n1 : (((pI (kR l) : Nat) : Int) == 0) = false := beq_eq_false_iff_ne.2 (by omega)
  have d1 : decide ((129 : Int) < (l.length : Int)) = true := by simp; omega
  simp (disch := omega) only [gI, iI, n1, fQ, dJ, iC, gX, hJ, fM, hZ, d1, gB, and_true, fV]
  rw [if_neg h0]
theorem avG {v : aEm} {l : List UInt8} {d : Nat} {w : aEl} (h : Bs w v l) (hd : pI (kR l) = d) (hd0 : d ≠ 0) (hl : l.length <= 129) :
 jE pg AK #[v] w (fun r w' => ∃ v', r = .tuple #[v', .int .i64 0] /\ yW w' w.heap.size 1 v' (wrB (kR l)).length ((SH (wrB (kR l))).map nT) /\ jN w w' mC) := by
 refine Kd ?_
 obtain ⟨hall, hd11, hl2, hl256, hlast, hsum⟩ := OO hd hd0
 have hnl := nV l
 obtain ⟨b, off, c, rfl, hc, hcell⟩ := Yc h (by omega)
 unfold NM BI BO
 refine (Z4 h (by omega)).mono ?_
 rintro r w1 ⟨rfl, rfl⟩
 rw [hd]
 have n1 : ((d : Int) == 0) = false := beq_eq_false_iff_ne.2 (by omega)
 have d1 : decide ((129 : Int) < (l.length : Int)) = false := by simp; omega
 have e1 : (l.length : Int) - 1 = ((l.length - 1 : Nat) : Int) := by omega
 have e2 : (127 : Int) + ((l.length - 1 : Nat) : Int) = ((126 + l.length : Nat) : Int) := by omega
 have e8 : IntKind.u8.wrap ((126 + l.length : Nat) : Int) = ((126 + l.length : Nat) : Int) := jF (by omega) (by omega)
 simp (disch := omega) only [gI, iI, n1, fQ, dJ, iC, e1, gX, hJ, e2, fM, e8, hZ, d1, fV]
 refine uD (cells := #[.int .u8 (126 + l.length : Nat)]) (by decide) (by decide) (by kernel_rfl) fun w2 o2 x2 s2 => ?_
 obtain ⟨m, hm⟩ : ∃ m, m = (kR l).take (l.length - 1) := ⟨_, rfl⟩
 have hml : m.length = l.length - 1 := by rw [hm, aCf, hnl]; omega
 have hmg : ∀ i, i < l.length - 1 -> m.getD i 0 = (kR l).getD i 0 := fun i hi => by
  rw [hm, aB9, aB9, aCN hi]
 have hm11 : ∀ x ∈ m, x <= 11 := fun x hx => by rw [hm] at hx; have := hall x (aC5 hx); omega
 have hm16 : ∀ x ∈ m, x < 16 := fun x hx => by have := hm11 x hx; omega
 have hwr : wrB (kR l) = (126 + l.length) :: Q3 m := by unfold wrB; rw [hnl, hm]
 have hpl := Wz m
 have ho2 : yW w2 w1.heap.size 1 (.slice (some ⟨w1.heap.size, 0, none⟩) 1 1) (0 + 1) ((SH ((126 + l.length) :: (Q3 m).take 0)).map nT) := by
  refine ⟨by simp, .inr ⟨_, 1, [], rfl, aCb _, ?_, rfl, aCb _⟩⟩
  simp only [SH, aCw, aCz, aEj, ajZ (show 126 + l.length < 256 by omega), aCM]
  exact o2
 unfold Gq Gl FJ FD GG
 refine kP.rule (fun q (t : aEm × aEm) w' => ∃ (j : Nat) (v' : aEm), q = l.length - 1 + 1 - j /\ t = (v', .int .i64 (2 * j : Nat)) /\ j <= (m.length + 1) / 2 /\ yW w' w1.heap.size 1 v' (j + 1) ((SH ((126 + l.length) :: (Q3 m).take j)).map nT) /\ jN w1 w' mC) (l.length - 1 + 1)
  ⟨0, _, rfl, rfl, by omega, ho2, x2⟩ ?_
 rintro q t w3 ⟨j, v', rfl, rfl, hj, o3, x3⟩
 have z3 := x3.size
 unfold Co Hv
 by_cases hlt : 2 * j < l.length - 1
 .have d2 : decide (((2 * j : Nat) : Int) < ((l.length - 1 : Nat) : Int)) = true := by simp only [decide_eq_true_eq]; omega
  obtain ⟨_, _, _, he, _, hcell3⟩ := Yc (h.ext x3 (kJ _)) (by omega)
  cases he
  have g1 := hcell3 (2 * j) (by omega)
  have hg1 := avC (l := l) (i := 2 * j) (by omega)
  rw [<- hg1, <- hmg (2 * j) hlt] at g1
  have hs1 := Eh (ns := Q3 m) (i := j) (by omega)
  rw [aqF (by omega)] at hs1
  have hx11 : m.getD (2 * j) 0 <= 11 := hm11 _ (Gk (by omega))
  have hy11 := axG hm16 (2 * j + 1)
  have e3 : ((2 * j : Nat) : Int) + 1 = ((2 * j + 1 : Nat) : Int) := by omega
  have hcells : ∀ z : Nat, z = m.getD (2 * j) 0 * 16 + m.getD (2 * j + 1) 0 -> z < 256 -> ((SH ((126 + l.length) :: (Q3 m).take j)).map nT ++ [.int .u8 z]) = (SH ((126 + l.length) :: (Q3 m).take (j + 1))).map nT := fun z hz hz2 => by
   rw [hs1, <- hz]
   simp only [SH, aCC, aCz, aEj, ajZ hz2, aDd]
  have hodd : ¬ 2 * j + 1 < l.length - 1 -> m.getD (2 * j + 1) 0 = 0 := fun h => by
   rw [aB9, aCj (by omega)] <;> rfl
  have g2 : 2 * j + 1 < l.length - 1 -> w3.cell? ⟨b, off + (2 * j + 1), none⟩ = some (.int .u8 (m.getD (2 * j + 1) 0 : Nat)) := fun h => by
   have := hcell3 (2 * j + 1) (by omega)
   rw [<- avC (l := l) (i := 2 * j + 1) (by omega), <- hmg (2 * j + 1) h] at this
   exact this
  generalize m.getD (2 * j) 0 = x at *
  generalize m.getD (2 * j + 1) 0 = y at *
  have t4 : (4 : Int).toNat = 4 := rfl
  have e4 : IntKind.u8.wrap ((x : Int) * 2 ^ (min 4 IntKind.u8.bits)) = ((x * 16 : Nat) : Int) := by
   rw [show min 4 IntKind.u8.bits = 4 from rfl]
   have : (x : Int) * 2 ^ 4 = ((x * 16 : Nat) : Int) := by omega
   rw [this]
   exact jF (by omega) (by omega)
  unfold H9 H4 PC HH
  by_cases h2 : 2 * j + 1 < l.length - 1
  .have d3 : decide (((2 * j + 1 : Nat) : Int) < ((l.length - 1 : Nat) : Int)) = true := by simp only [decide_eq_true_eq]; omega
   have g2 := g2 h2
   have e5 := aaY (a := x * 16) (b := y) (by omega) (by omega)
   have e6 : x * 16 ||| y = x * 16 + y := by
    rw [Nat.or_comm]
    have := ajT (x := y) (i := 4) (by omega) x
    rw [show x * 2 ^ 4 = x * 16 from rfl] at this
    rw [this]; omega
   rw [e6] at e5
   simp (disch := omega) only [gI, gY, d2, fR, aB0, hJ, e3, gX, dJ, gK, d3, gB, g1, gD, iE, t4, e4, g2, jJ, e5]
   refine aaL (x := x * 16 + y) o3 (by omega) (by omega) (by omega) fun v4 w4 o4 x4 => ?_
   rw [hcells _ rfl (by omega)] at o4
   unfold xU
   have e7 : ((2 * j : Nat) : Int) + 2 = ((2 * (j + 1) : Nat) : Int) := by omega
   simp (disch := omega) only [gI, hJ, e7, gX, dJ]
   exact ⟨l.length - 1 + 1 - (j + 1), by omega, j + 1, _, rfl, rfl, by omega, o4, x3.trans x4 fun b hb h => by omega⟩
  .have d3 : decide (((2 * j + 1 : Nat) : Int) < ((l.length - 1 : Nat) : Int)) = false := by simp only [decide_eq_false_iff_not]; omega
   have hy0 := hodd h2
   simp (disch := omega) only [gI, gY, d2, fR, aB0, hJ, e3, gX, dJ, gK, d3, fV, g1, gD, iE, t4, e4, gB]
   refine aaL (x := x * 16) o3 (by omega) (by omega) (by omega) fun v4 w4 o4 x4 => ?_
   rw [hcells _ (by omega) (by omega)] at o4
   unfold xU
   have e7 : ((2 * j : Nat) : Int) + 2 = ((2 * (j + 1) : Nat) : Int) := by omega
   simp (disch := omega) only [gI, hJ, e7, gX, dJ]
   exact ⟨l.length - 1 + 1 - (j + 1), by omega, j + 1, _, rfl, rfl, by omega, o4, x3.trans x4 fun b hb h => by omega⟩
 .have d2 : decide (((2 * j : Nat) : Int) < ((l.length - 1 : Nat) : Int)) = false := by simp only [decide_eq_false_iff_not]; omega
  have hjE : j = (Q3 m).length := by omega
  rw [aCg (by omega), <- hwr] at o3
  have hwl : (wrB (kR l)).length = j + 1 := by rw [hwr, aCl]; omega
  unfold CE
  simp (disch := omega) only [gI, gY, d2, dJ, fV]
  exact ⟨v', rfl, by rw [hwl]; exact o3, x3⟩
def ayN (w : aEl) (base n : Nat) (r : aEm) : Prop :=
 (∃ e : Int, e ≠ 0 /\ r = .tuple #[.slice none 0 0, .int .i64 e]) ∨
 (∃ (v : aEm) (bytes : List UInt8), r = .tuple #[v, .int .i64 0] /\ yW w base 1 v bytes.length (bytes.map nT) /\ 1 <= bytes.length /\ bytes.length <= 11 * n / 8 + 100)
def Qb (kind form n m bits : Nat) : Nat := kind + form * 4 + n * 2 ^ 4 + m * 2 ^ (4 + bits)
theorem asR {a b : Nat} (ha : a < 2 ^ 64) (hb : b < 2 ^ 64) : Z6 .u64 (a : Int) (b : Int) = ((a ||| b : Nat) : Int) := amJ ha hb
theorem aiP {RR : aEm -> aEl -> Prop} {sv bv : aEm} {l B : List UInt8} {kind form bits size : Nat} {w : aEl} (h : Bs w sv l) (hb : Bs w bv B) (hl : l.length <= 131072) (hk : kind < 4) (hf : form < 4) (hbits : bits <= 18) (hsz : 1 <= size /\ size <= 8) (hB : B.length < 2 ^ 18) (hn : l.length < 2 ^ bits)
 (hk' : ∀ r w', yW w' w.heap.size 1 r (nM (Qb kind form l.length B.length bits) size ++ B).length ((nM (Qb kind form l.length B.length bits) size ++ B).map nT) -> jN w w' mC -> RR (.tuple #[r, .int .i64 0]) w') :
 sE RR sv (.int .i64 (kind : Nat)) bv (.int .i64 (form : Nat)) (.int .i64 (bits : Nat)) (.int .i64 (size : Nat)) w := by
 unfold sE
 refine (HK w).mono ?_
 rintro r w1 ⟨rfl, hlt1, hw1, x1⟩
 have z1 := x1.size
 have h1 := h.ext x1 (kJ _)
 have hb1 := hb.ext x1 (kJ _)
 have hbv := hb1
 obtain ⟨a, c, rfl, hc⟩ := h1.len
 obtain ⟨a2, c2, rfl, hc2⟩ := hb1.len
 rw [aB6] at hbv
 have t2 : (2 : Int).toNat = 2 := rfl
 have t4 : (4 : Int).toNat = 4 := rfl
 have e1 := aeL (a := form) (n := 2) (by omega) (by omega)
 have e2 := aeL (a := l.length) (n := 4) (by omega) (by omega)
 have e3 : Z6 .i64 (kind : Int) ((form * 2 ^ 2 : Nat) : Int) = ((kind + form * 4 : Nat) : Int) := by
  rw [XP (by omega) (by omega), Nat.or_comm, QC 2 (by omega)]; congr 1; omega
 have e4 : Z6 .i64 ((kind + form * 4 : Nat) : Int) ((l.length * 2 ^ 4 : Nat) : Int) = ((kind + form * 4 + l.length * 2 ^ 4 : Nat) : Int) := by
  rw [XP (by omega) (by omega), Nat.or_comm, QC 4 (by omega)]; congr 1; omega
 have e5 : IntKind.u64.wrap ((kind + form * 4 + l.length * 2 ^ 4 : Nat) : Int) = ((kind + form * 4 + l.length * 2 ^ 4 : Nat) : Int) := iA (by omega) (by omega)
 have e6 : IntKind.u64.wrap (B.length : Int) = (B.length : Int) := iA (by omega) (by omega)
 have e7 : (4 : Int) + (bits : Int) = ((4 + bits : Nat) : Int) := by omega
 have hp22 : 2 ^ (4 + bits) <= 2 ^ 22 := aCn (by omega) (by omega)
 have hm40 : B.length * 2 ^ (4 + bits) < 2 ^ 40 := by
  have h1 : B.length * 2 ^ (4 + bits) <= (2 ^ 18 - 1) * 2 ^ 22 := Nat.mul_le_mul (by omega) hp22
  have : (2 ^ 18 - 1) * 2 ^ 22 < 2 ^ 40 := by decide
  omega
 have e8 : IntKind.u64.wrap ((B.length : Int) * 2 ^ (min (4 + bits) IntKind.u64.bits)) = ((B.length * 2 ^ (4 + bits) : Nat) : Int) := by
  have hmin : min (4 + bits) IntKind.u64.bits = 4 + bits := by
   have : IntKind.u64.bits = 64 := rfl
   omega
  rw [hmin]
  have : (B.length : Int) * 2 ^ (4 + bits) = ((B.length * 2 ^ (4 + bits) : Nat) : Int) := by push_cast; rfl
  rw [this]
  exact iA (by omega) (by omega)
 have hlow : kind + form * 4 + l.length * 2 ^ 4 < 2 ^ (4 + bits) := by
  rw [aC6]
  generalize 2 ^ bits = Y at *
  omega
 have e9 : Z6 .u64 ((kind + form * 4 + l.length * 2 ^ 4 : Nat) : Int) ((B.length * 2 ^ (4 + bits) : Nat) : Int) = ((Qb kind form l.length B.length bits : Nat) : Int) := by
  rw [asR (by omega) (by omega), ajT hlow, Qb, aCO (2 ^ (4 + bits))]
 have hX : Qb kind form l.length B.length bits < 2 ^ 64 := by unfold Qb; omega
 have t8 : ((4 + bits : Nat) : Int).toNat = 4 + bits := aB0 _
 simp (disch := omega) only [gI, jD, dJ, stepR_skip, hJ, iC, iM, iP, iL, iN, jJ, iX, gM, iE, iG, iI, iH, gY, iO, hZ, iF, iV, iW, iJ, gR, iT, iQ, iD, jV, jW, kF, kD, kC, kG, kA, kB, kE, gD, Result.ok.injEq, Next.value.injEq, true_and, and_true, gX, iA, iU, iR, iS, jF, aB0, gV, gU, gW, gT, gO, gJ, gP, gN, gB, fV, if_true, if_false, aBZ, aB4, aB1, aB2, aB5, aB3, aBY, aBX, fQ, fL, fE, fR, cU, eS, eF, dK, bP, fS, eY, aP, dB, aX, bQ, bM, aO, cO, cJ, eQ, aE, gS, aJ, cK, aT, bU, fT, cI, cF, aD, gA, fD, aN, aF, bO, gQ, aI, eX, dT, dV, gF, dE, fB, cZ, eH, fF, fC, cG, dG, gK, dN, bZ, aS, bV, bT, fN, aG, aH, aQ, bA, bE, cP, bK, aA, fA, aR, cL, fJ, eU, gG, bJ, eL, eN, bY, fW, eZ, eJ, dH, cQ, dD, aY, bD, aL, fZ, aM, dA, eE, bB, cC, fK, dL, gC, fM, fG, fI, dS, aK, cH, cY, fY, fX, fH, dC, aV, dX, fU, cS, eT, fO, cD, bL, dR, aZ, dW, dQ, cM, eM, eK, bF, dF, bG, eD, dU, dZ, bN, cR, cN, dO, bS, cW, cV, fP, cB, eI, eP, gE, dY, dP, dM, dI, bH, bR, bW, bX, aU, cX, aW, t2, t4, e1, e2, e3, e4, e5, e6, e7, e8, e9, t8, aB6]
 refine (B2 (x := Qb kind form l.length B.length bits) (n := size) hw1 (fun y hy => by omega) hX hsz (aDX _)).mono ?_
 rintro r w2 ⟨rfl, hw2, x2⟩
 have z2 := x2.size
 rw [aCT] at hw2
 have x02 : jN w w2 mC := x1.trans x2 fun y hy h => by omega
 have hb2 := hb.ext x02 (kJ _)
 rw [aB6] at hb2
 have hp5 : (nM (Qb kind form l.length B.length bits) size).length <= 8 := by rw [lA]; exact hsz.2
 refine (abC hw2 (fun y hy => by omega) hb2 (by omega)).mono ?_
 rintro r w3 ⟨rfl, hw3, x3⟩
 have z3 := x3.size
 refine (Tf hw3 (by rw [aB7]; omega)).mono ?_
 rintro r w4 ⟨o4, x4⟩
 refine hk' r w4 (Pt o4 (by omega)) ((x02.trans x3 fun y hy h => by omega).seq x4)
def aBs (w : aEl) (base lim : Nat) (r : aEm) : Prop :=
 r = .tuple #[.slice none 0 0, .int .i64 1] ∨ ∃ (v : aEm) (bytes : List UInt8), r = .tuple #[v, .int .i64 0] /\ Bs w v bytes /\ AtI v base w.heap.size /\ bytes.length <= lim
theorem ahE {lv sv : aEm} {wl l : List UInt8} {w : aEl} (hw : Bs w lv wl) (hwl : wl.length <= 100000) (h : Bs w sv l) (hl : l.length <= 131072) :
 jE pg wU #[lv, sv] w (fun r w' => aBs w' w.heap.size (11 * l.length / 8 + 12) r /\ jN w w' mC) := by
 refine QL ?_
 unfold Mx BT
 have hv := h
 obtain ⟨a, c, rfl, hc⟩ := h.len
 rw [aB6] at hv ⊢
 by_cases hlt : l.length < 256
 .have d1 : decide ((l.length : Int) < 256) = true := decide_eq_true (by omega)
  simp (disch := omega) only [gI, jD, dJ, stepR_skip, hJ, iC, iM, iP, iL, iN, jJ, iX, gM, iE, iG, iI, iH, gY, iO, hZ, iF, iV, iW, iJ, gR, iT, iQ, iD, jV, jW, kF, kD, kC, kG, kA, kB, kE, gD, Result.ok.injEq, Next.value.injEq, true_and, and_true, gX, iA, iU, iR, iS, jF, aB0, gV, gU, gW, gT, gO, gJ, gP, gN, gB, fV, if_true, if_false, aBZ, aB4, aB1, aB2, aB5, aB3, aBY, aBX, fQ, fL, fE, fR, cU, eS, eF, dK, bP, fS, eY, aP, dB, aX, bQ, bM, aO, cO, cJ, eQ, aE, gS, aJ, cK, aT, bU, fT, cI, cF, aD, gA, fD, aN, aF, bO, gQ, aI, eX, dT, dV, gF, dE, fB, cZ, eH, fF, fC, cG, dG, gK, dN, bZ, aS, bV, bT, fN, aG, aH, aQ, bA, bE, cP, bK, aA, fA, aR, cL, fJ, eU, gG, bJ, eL, eN, bY, fW, eZ, eJ, dH, cQ, dD, aY, bD, aL, fZ, aM, dA, eE, bB, cC, fK, dL, gC, fM, fG, fI, dS, aK, cH, cY, fY, fX, fH, dC, aV, dX, fU, cS, eT, fO, cD, bL, dR, aZ, dW, dQ, cM, eM, eK, bF, dF, bG, eD, dU, dZ, bN, cR, cN, dO, bS, cW, cV, fP, cB, eI, eP, gE, dY, dP, dM, dI, bH, bR, bW, bX, aU, cX, aW, d1]
  refine (agZ hw hwl hv hl).mono ?_
  rintro r w1 ⟨ho, x1⟩
  rcases ho with ⟨hb, rfl⟩ | ⟨hd, hall, v, bytes, rfl, hbs, hat, hlen, hback⟩
  .simp (disch := omega) only [gI, jD, dJ, stepR_skip, hJ, iC, iM, iP, iL, iN, jJ, iX, gM, iE, iG, iI, iH, gY, iO, hZ, iF, iV, iW, iJ, gR, iT, iQ, iD, jV, jW, kF, kD, kC, kG, kA, kB, kE, gD, Result.ok.injEq, Next.value.injEq, true_and, and_true, gX, iA, iU, iR, iS, jF, aB0, gV, gU, gW, gT, gO, gJ, gP, gN, gB, fV, if_true, if_false, aBZ, aB4, aB1, aB2, aB5, aB3, aBY, aBX, fQ, fL, fE, fR, cU, eS, eF, dK, bP, fS, eY, aP, dB, aX, bQ, bM, aO, cO, cJ, eQ, aE, gS, aJ, cK, aT, bU, fT, cI, cF, aD, gA, fD, aN, aF, bO, gQ, aI, eX, dT, dV, gF, dE, fB, cZ, eH, fF, fC, cG, dG, gK, dN, bZ, aS, bV, bT, fN, aG, aH, aQ, bA, bE, cP, bK, aA, fA, aR, cL, fJ, eU, gG, bJ, eL, eN, bY, fW, eZ, eJ, dH, cQ, dD, aY, bD, aL, fZ, aM, dA, eE, bB, cC, fK, dL, gC, fM, fG, fI, dS, aK, cH, cY, fY, fX, fH, dC, aV, dX, fU, cS, eT, fO, cD, bL, dR, aZ, dW, dQ, cM, eM, eK, bF, dF, bG, eD, dU, dZ, bN, cR, cN, dO, bS, cW, cV, fP, cB, eI, eP, gE, dY, dP, dM, dI, bH, bR, bW, bX, aU, cX, aW]
   exact ⟨.inl rfl, x1⟩
  .simp (disch := omega) only [gI, jD, dJ, stepR_skip, hJ, iC, iM, iP, iL, iN, jJ, iX, gM, iE, iG, iI, iH, gY, iO, hZ, iF, iV, iW, iJ, gR, iT, iQ, iD, jV, jW, kF, kD, kC, kG, kA, kB, kE, gD, Result.ok.injEq, Next.value.injEq, true_and, and_true, gX, iA, iU, iR, iS, jF, aB0, gV, gU, gW, gT, gO, gJ, gP, gN, gB, fV, if_true, if_false, aBZ, aB4, aB1, aB2, aB5, aB3, aBY, aBX, fQ, fL, fE, fR, cU, eS, eF, dK, bP, fS, eY, aP, dB, aX, bQ, bM, aO, cO, cJ, eQ, aE, gS, aJ, cK, aT, bU, fT, cI, cF, aD, gA, fD, aN, aF, bO, gQ, aI, eX, dT, dV, gF, dE, fB, cZ, eH, fF, fC, cG, dG, gK, dN, bZ, aS, bV, bT, fN, aG, aH, aQ, bA, bE, cP, bK, aA, fA, aR, cL, fJ, eU, gG, bJ, eL, eN, bY, fW, eZ, eJ, dH, cQ, dD, aY, bD, aL, fZ, aM, dA, eE, bB, cC, fK, dL, gC, fM, fG, fI, dS, aK, cH, cY, fY, fX, fH, dC, aV, dX, fU, cS, eT, fO, cD, bL, dR, aZ, dW, dQ, cM, eM, eK, bF, dF, bG, eD, dU, dZ, bN, cR, cN, dO, bS, cW, cV, fP, cB, eI, eP, gE, dY, dP, dM, dI, bH, bR, bW, bX, aU, cX, aW]
   exact ⟨.inr ⟨v, bytes, rfl, hbs, hat, by omega⟩, x1⟩
 .have d1 : decide ((l.length : Int) < 256) = false := decide_eq_false (by omega)
  simp (disch := omega) only [gI, jD, dJ, stepR_skip, hJ, iC, iM, iP, iL, iN, jJ, iX, gM, iE, iG, iI, iH, gY, iO, hZ, iF, iV, iW, iJ, gR, iT, iQ, iD, jV, jW, kF, kD, kC, kG, kA, kB, kE, gD, Result.ok.injEq, Next.value.injEq, true_and, and_true, gX, iA, iU, iR, iS, jF, aB0, gV, gU, gW, gT, gO, gJ, gP, gN, gB, fV, if_true, if_false, aBZ, aB4, aB1, aB2, aB5, aB3, aBY, aBX, fQ, fL, fE, fR, cU, eS, eF, dK, bP, fS, eY, aP, dB, aX, bQ, bM, aO, cO, cJ, eQ, aE, gS, aJ, cK, aT, bU, fT, cI, cF, aD, gA, fD, aN, aF, bO, gQ, aI, eX, dT, dV, gF, dE, fB, cZ, eH, fF, fC, cG, dG, gK, dN, bZ, aS, bV, bT, fN, aG, aH, aQ, bA, bE, cP, bK, aA, fA, aR, cL, fJ, eU, gG, bJ, eL, eN, bY, fW, eZ, eJ, dH, cQ, dD, aY, bD, aL, fZ, aM, dA, eE, bB, cC, fK, dL, gC, fM, fG, fI, dS, aK, cH, cY, fY, fX, fH, dC, aV, dX, fU, cS, eT, fO, cD, bL, dR, aZ, dW, dQ, cM, eM, eK, bF, dF, bG, eD, dU, dZ, bN, cR, cN, dO, bS, cW, cV, fP, cB, eI, eP, gE, dY, dP, dM, dI, bH, bR, bW, bX, aU, cX, aW, d1]
  refine (aeQ hw hwl hv hl).mono ?_
  rintro r w1 ⟨ho, x1⟩
  rcases ho with ⟨hb, rfl⟩ | ⟨hd, hall, v, bytes, rfl, hbs, hat, hlen, hback⟩
  .simp (disch := omega) only [gI, jD, dJ, stepR_skip, hJ, iC, iM, iP, iL, iN, jJ, iX, gM, iE, iG, iI, iH, gY, iO, hZ, iF, iV, iW, iJ, gR, iT, iQ, iD, jV, jW, kF, kD, kC, kG, kA, kB, kE, gD, Result.ok.injEq, Next.value.injEq, true_and, and_true, gX, iA, iU, iR, iS, jF, aB0, gV, gU, gW, gT, gO, gJ, gP, gN, gB, fV, if_true, if_false, aBZ, aB4, aB1, aB2, aB5, aB3, aBY, aBX, fQ, fL, fE, fR, cU, eS, eF, dK, bP, fS, eY, aP, dB, aX, bQ, bM, aO, cO, cJ, eQ, aE, gS, aJ, cK, aT, bU, fT, cI, cF, aD, gA, fD, aN, aF, bO, gQ, aI, eX, dT, dV, gF, dE, fB, cZ, eH, fF, fC, cG, dG, gK, dN, bZ, aS, bV, bT, fN, aG, aH, aQ, bA, bE, cP, bK, aA, fA, aR, cL, fJ, eU, gG, bJ, eL, eN, bY, fW, eZ, eJ, dH, cQ, dD, aY, bD, aL, fZ, aM, dA, eE, bB, cC, fK, dL, gC, fM, fG, fI, dS, aK, cH, cY, fY, fX, fH, dC, aV, dX, fU, cS, eT, fO, cD, bL, dR, aZ, dW, dQ, cM, eM, eK, bF, dF, bG, eD, dU, dZ, bN, cR, cN, dO, bS, cW, cV, fP, cB, eI, eP, gE, dY, dP, dM, dI, bH, bR, bW, bX, aU, cX, aW]
   exact ⟨.inl rfl, x1⟩
  .simp (disch := omega) only [gI, jD, dJ, stepR_skip, hJ, iC, iM, iP, iL, iN, jJ, iX, gM, iE, iG, iI, iH, gY, iO, hZ, iF, iV, iW, iJ, gR, iT, iQ, iD, jV, jW, kF, kD, kC, kG, kA, kB, kE, gD, Result.ok.injEq, Next.value.injEq, true_and, and_true, gX, iA, iU, iR, iS, jF, aB0, gV, gU, gW, gT, gO, gJ, gP, gN, gB, fV, if_true, if_false, aBZ, aB4, aB1, aB2, aB5, aB3, aBY, aBX, fQ, fL, fE, fR, cU, eS, eF, dK, bP, fS, eY, aP, dB, aX, bQ, bM, aO, cO, cJ, eQ, aE, gS, aJ, cK, aT, bU, fT, cI, cF, aD, gA, fD, aN, aF, bO, gQ, aI, eX, dT, dV, gF, dE, fB, cZ, eH, fF, fC, cG, dG, gK, dN, bZ, aS, bV, bT, fN, aG, aH, aQ, bA, bE, cP, bK, aA, fA, aR, cL, fJ, eU, gG, bJ, eL, eN, bY, fW, eZ, eJ, dH, cQ, dD, aY, bD, aL, fZ, aM, dA, eE, bB, cC, fK, dL, gC, fM, fG, fI, dS, aK, cH, cY, fY, fX, fH, dC, aV, dX, fU, cS, eT, fO, cD, bL, dR, aZ, dW, dQ, cM, eM, eK, bF, dF, bG, eD, dU, dZ, bN, cR, cN, dO, bS, cW, cV, fP, cB, eI, eP, gE, dY, dP, dM, dI, bH, bR, bW, bX, aU, cX, aW]
   exact ⟨.inr ⟨v, bytes, rfl, hbs, hat, hlen⟩, x1⟩
theorem aoV {sv lv : aEm} {l wl : List UInt8} {w : aEl} (h : Bs w sv l) (hl : l.length <= 131072) (hw : Bs w lv wl) (hwl : wl.length <= 100000) :
 jE pg Bz #[sv, lv, .bool true] w (fun r w' => ayN w' w.heap.size l.length r /\ jN w w' mC) := by
 refine Tv ?_
 obtain ⟨RR, hRR⟩ : ∃ RR : aEm -> aEl -> Prop, RR = fun r w' => ayN w' w.heap.size l.length r /\ jN w w' mC := ⟨_, rfl⟩
 rw [<- hRR]
 unfold Rd EW Fb
 have hv := h
 obtain ⟨a, c, rfl, hc⟩ := h.len
 rw [aB6] at hv ⊢
 by_cases h0 : l.length = 0
 .have n0 : ((l.length : Int) == 0) = true := by rw [h0] <;> rfl
  simp (disch := omega) only [gI, jD, dJ, stepR_skip, hJ, iC, iM, iP, iL, iN, jJ, iX, gM, iE, iG, iI, iH, gY, iO, hZ, iF, iV, iW, iJ, gR, iT, iQ, iD, jV, jW, kF, kD, kC, kG, kA, kB, kE, gD, Result.ok.injEq, Next.value.injEq, true_and, and_true, gX, iA, iU, iR, iS, jF, aB0, gV, gU, gW, gT, gO, gJ, gP, gN, gB, fV, if_true, if_false, aBZ, aB4, aB1, aB2, aB5, aB3, aBY, aBX, fQ, fL, fE, fR, cU, eS, eF, dK, bP, fS, eY, aP, dB, aX, bQ, bM, aO, cO, cJ, eQ, aE, gS, aJ, cK, aT, bU, fT, cI, cF, aD, gA, fD, aN, aF, bO, gQ, aI, eX, dT, dV, gF, dE, fB, cZ, eH, fF, fC, cG, dG, gK, dN, bZ, aS, bV, bT, fN, aG, aH, aQ, bA, bE, cP, bK, aA, fA, aR, cL, fJ, eU, gG, bJ, eL, eN, bY, fW, eZ, eJ, dH, cQ, dD, aY, bD, aL, fZ, aM, dA, eE, bB, cC, fK, dL, gC, fM, fG, fI, dS, aK, cH, cY, fY, fX, fH, dC, aV, dX, fU, cS, eT, fO, cD, bL, dR, aZ, dW, dQ, cM, eM, eK, bF, dF, bG, eD, dU, dZ, bN, cR, cN, dO, bS, cW, cV, fP, cB, eI, eP, gE, dY, dP, dM, dI, bH, bR, bW, bX, aU, cX, aW, n0]
  rw [hRR]
  exact ⟨.inl ⟨1, by decide, rfl⟩, jN.refl _ _⟩
 have hne : l ≠ [] := fun e => h0 (by rw [e] <;> rfl)
 have n0 : ((l.length : Int) == 0) = false := beq_eq_false_iff_ne.2 (by omega)
 have d1 : decide ((l.length : Int) > 131072) = false := decide_eq_false (by omega)
 have d2 : decide ((131072 : Int) < (l.length : Int)) = false := decide_eq_false (by omega)
 have tail : ∀ (kind : Nat) (d : List UInt8) (dv : aEm) (w1 : aEl), kind < 4 -> jN w w1 mC -> yW w1 w.heap.size 1 dv d.length (d.map nT) -> d.length <= 66 →
     Ak RR (.slice a l.length c) lv (.int .i64 (kind : Nat)) dv w1 := by
  intro kind d dv w1 hk4 x1 od hdl
  have z1 := x1.size
  unfold Ak EE
  have hv1 := hv.ext x1 (kJ _)
  have hw1 := hw.ext x1 (kJ _)
  refine (ahE hw1 hwl hv1 hl).mono ?_
  rintro r w2 ⟨ho, x2⟩
  have z2 := x2.size
  rcases ho with rfl | ⟨v, bytes, rfl, hbs, hat, hlen⟩
  .have n1 : ((1 : Int) != 0) = true := rfl
   simp (disch := omega) only [gI, jD, dJ, stepR_skip, hJ, iC, iM, iP, iL, iN, jJ, iX, gM, iE, iG, iI, iH, gY, iO, hZ, iF, iV, iW, iJ, gR, iT, iQ, iD, jV, jW, kF, kD, kC, kG, kA, kB, kE, gD, Result.ok.injEq, Next.value.injEq, true_and, and_true, gX, iA, iU, iR, iS, jF, aB0, gV, gU, gW, gT, gO, gJ, gP, gN, gB, fV, if_true, if_false, aBZ, aB4, aB1, aB2, aB5, aB3, aBY, aBX, fQ, fL, fE, fR, cU, eS, eF, dK, bP, fS, eY, aP, dB, aX, bQ, bM, aO, cO, cJ, eQ, aE, gS, aJ, cK, aT, bU, fT, cI, cF, aD, gA, fD, aN, aF, bO, gQ, aI, eX, dT, dV, gF, dE, fB, cZ, eH, fF, fC, cG, dG, gK, dN, bZ, aS, bV, bT, fN, aG, aH, aQ, bA, bE, cP, bK, aA, fA, aR, cL, fJ, eU, gG, bJ, eL, eN, bY, fW, eZ, eJ, dH, cQ, dD, aY, bD, aL, fZ, aM, dA, eE, bB, cC, fK, dL, gC, fM, fG, fI, dS, aK, cH, cY, fY, fX, fH, dC, aV, dX, fU, cS, eT, fO, cD, bL, dR, aZ, dW, dQ, cM, eM, eK, bF, dF, bG, eD, dU, dZ, bN, cR, cN, dO, bS, cW, cV, fP, cB, eI, eP, gE, dY, dP, dM, dI, bH, bR, bW, bX, aU, cX, aW, n1]
   rw [hRR]
   exact ⟨.inl ⟨1, by decide, rfl⟩, x1.seq x2⟩
  .have n1 : ((0 : Int) != 0) = false := rfl
   have od2 := od.ext x2 (fun _ _ h => h)
   have hbv := hbs
   obtain ⟨a2, c2, rfl, hc2⟩ := hbs.len
   rw [aB6] at hbv
   have hcl := hbv.cl
   rw [aB6] at hcl
   simp (disch := omega) only [gI, jD, dJ, stepR_skip, hJ, iC, iM, iP, iL, iN, jJ, iX, gM, iE, iG, iI, iH, gY, iO, hZ, iF, iV, iW, iJ, gR, iT, iQ, iD, jV, jW, kF, kD, kC, kG, kA, kB, kE, gD, Result.ok.injEq, Next.value.injEq, true_and, and_true, gX, iA, iU, iR, iS, jF, aB0, gV, gU, gW, gT, gO, gJ, gP, gN, gB, fV, if_true, if_false, aBZ, aB4, aB1, aB2, aB5, aB3, aBY, aBX, fQ, fL, fE, fR, cU, eS, eF, dK, bP, fS, eY, aP, dB, aX, bQ, bM, aO, cO, cJ, eQ, aE, gS, aJ, cK, aT, bU, fT, cI, cF, aD, gA, fD, aN, aF, bO, gQ, aI, eX, dT, dV, gF, dE, fB, cZ, eH, fF, fC, cG, dG, gK, dN, bZ, aS, bV, bT, fN, aG, aH, aQ, bA, bE, cP, bK, aA, fA, aR, cL, fJ, eU, gG, bJ, eL, eN, bY, fW, eZ, eJ, dH, cQ, dD, aY, bD, aL, fZ, aM, dA, eE, bB, cC, fK, dL, gC, fM, fG, fI, dS, aK, cH, cY, fY, fX, fH, dC, aV, dX, fU, cS, eT, fO, cD, bL, dR, aZ, dW, dQ, cM, eM, eK, bF, dF, bG, eD, dU, dZ, bN, cR, cN, dO, bS, cW, cV, fP, cB, eI, eP, gE, dY, dP, dM, dI, bH, bR, bW, bX, aU, cX, aW, n1, aB6]
   refine mU od2 hcl (FT _) (by omega) (by omega) fun v3 w3 o3 x3 => ?_
   have z3 := x3.size
   have hs3 : Bs w3 v3 (d ++ bytes) := by
    have := o3.sl
    rw [<- aCC] at this
    exact this
   obtain ⟨a3, c3, rfl⟩ := o3.len
   have hml : (d ++ bytes).length = d.length + bytes.length := aB7
   rw [<- hml]
   have x03 : jN w w3 mC := (x1.seq x2).trans x3 fun y hy h => by omega
   have hv3 := hv.ext x03 (kJ _)
   have d3 : decide ((262144 : Int) <= ((d ++ bytes).length : Int)) = false := decide_eq_false (by omega)
   have d4 : decide (((d ++ bytes).length : Int) ≥ 262144) = false := decide_eq_false (by omega)
   have fin : ∀ (form bits size : Nat), form < 4 -> bits <= 18 -> 1 <= size /\ size <= 8 -> l.length < 2 ^ bits →
       sE RR (.slice a l.length c) (.int .i64 (kind : Nat)) (.slice a3 (d ++ bytes).length c3) (.int .i64 (form : Nat)) (.int .i64 (bits : Nat)) (.int .i64 (size : Nat)) w3 := by
    intro form bits size hf hb hsz hn
    have hs3' := hs3
    rw [<- hml] at hs3'
    refine aiP (l := l) (B := d ++ bytes) hv3 hs3' hl hk4 hf hb hsz (by omega) hn fun r w4 o4 x4 => ?_
    rw [hRR]
    have hpl : (nM (Qb kind form l.length (d ++ bytes).length bits) size ++ (d ++ bytes)).length = size + (d ++ bytes).length := by rw [aB7, lA]
    exact ⟨.inr ⟨r, _, rfl, Pt o4 (by omega), by rw [hpl]; omega, by rw [hpl]; omega⟩, x03.seq x4⟩
   have hmx : (if (((d ++ bytes).length : Nat) : Int) > ((l.length : Nat) : Int) then (((d ++ bytes).length : Nat) : Int) else ((l.length : Nat) : Int)) = ((max l.length (d ++ bytes).length : Nat) : Int) := by split <;> omega
   obtain ⟨M, hM⟩ : ∃ M, M = max l.length (d ++ bytes).length := ⟨_, rfl⟩
   rw [<- hM] at hmx
   by_cases hlt : l.length < 256
   .have d5 : decide ((l.length : Int) < 256) = true := decide_eq_true (by omega)
    have d6 : decide ((M : Int) < 1024) = true := decide_eq_true (by omega)
    simp (disch := omega) only [gI, jD, dJ, stepR_skip, hJ, iC, iM, iP, iL, iN, jJ, iX, gM, iE, iG, iI, iH, gY, iO, hZ, iF, iV, iW, iJ, gR, iT, iQ, iD, jV, jW, kF, kD, kC, kG, kA, kB, kE, gD, Result.ok.injEq, Next.value.injEq, true_and, and_true, gX, iA, iU, iR, iS, jF, aB0, gV, gU, gW, gT, gO, gJ, gP, gN, gB, fV, if_true, if_false, aBZ, aB4, aB1, aB2, aB5, aB3, aBY, aBX, fQ, fL, fE, fR, cU, eS, eF, dK, bP, fS, eY, aP, dB, aX, bQ, bM, aO, cO, cJ, eQ, aE, gS, aJ, cK, aT, bU, fT, cI, cF, aD, gA, fD, aN, aF, bO, gQ, aI, eX, dT, dV, gF, dE, fB, cZ, eH, fF, fC, cG, dG, gK, dN, bZ, aS, bV, bT, fN, aG, aH, aQ, bA, bE, cP, bK, aA, fA, aR, cL, fJ, eU, gG, bJ, eL, eN, bY, fW, eZ, eJ, dH, cQ, dD, aY, bD, aL, fZ, aM, dA, eE, bB, cC, fK, dL, gC, fM, fG, fI, dS, aK, cH, cY, fY, fX, fH, dC, aV, dX, fU, cS, eT, fO, cD, bL, dR, aZ, dW, dQ, cM, eM, eK, bF, dF, bG, eD, dU, dZ, bN, cR, cN, dO, bS, cW, cV, fP, cB, eI, eP, gE, dY, dP, dM, dI, bH, bR, bW, bX, aU, cX, aW, d3, d4, d5, hmx, d6]
    exact fin 0 10 3 (by omega) (by omega) (by omega) (by omega)
   have d5 : decide ((l.length : Int) < 256) = false := decide_eq_false (by omega)
   by_cases h1 : M < 1024
   .have d6 : decide ((M : Int) < 1024) = true := decide_eq_true (by omega)
    simp (disch := omega) only [gI, jD, dJ, stepR_skip, hJ, iC, iM, iP, iL, iN, jJ, iX, gM, iE, iG, iI, iH, gY, iO, hZ, iF, iV, iW, iJ, gR, iT, iQ, iD, jV, jW, kF, kD, kC, kG, kA, kB, kE, gD, Result.ok.injEq, Next.value.injEq, true_and, and_true, gX, iA, iU, iR, iS, jF, aB0, gV, gU, gW, gT, gO, gJ, gP, gN, gB, fV, if_true, if_false, aBZ, aB4, aB1, aB2, aB5, aB3, aBY, aBX, fQ, fL, fE, fR, cU, eS, eF, dK, bP, fS, eY, aP, dB, aX, bQ, bM, aO, cO, cJ, eQ, aE, gS, aJ, cK, aT, bU, fT, cI, cF, aD, gA, fD, aN, aF, bO, gQ, aI, eX, dT, dV, gF, dE, fB, cZ, eH, fF, fC, cG, dG, gK, dN, bZ, aS, bV, bT, fN, aG, aH, aQ, bA, bE, cP, bK, aA, fA, aR, cL, fJ, eU, gG, bJ, eL, eN, bY, fW, eZ, eJ, dH, cQ, dD, aY, bD, aL, fZ, aM, dA, eE, bB, cC, fK, dL, gC, fM, fG, fI, dS, aK, cH, cY, fY, fX, fH, dC, aV, dX, fU, cS, eT, fO, cD, bL, dR, aZ, dW, dQ, cM, eM, eK, bF, dF, bG, eD, dU, dZ, bN, cR, cN, dO, bS, cW, cV, fP, cB, eI, eP, gE, dY, dP, dM, dI, bH, bR, bW, bX, aU, cX, aW, d3, d4, d5, hmx, d6]
    exact fin 1 10 3 (by omega) (by omega) (by omega) (by omega)
   have d6 : decide ((M : Int) < 1024) = false := decide_eq_false (by omega)
   by_cases h2 : M < 16384
   .have d7 : decide ((M : Int) < 16384) = true := decide_eq_true (by omega)
    simp (disch := omega) only [gI, jD, dJ, stepR_skip, hJ, iC, iM, iP, iL, iN, jJ, iX, gM, iE, iG, iI, iH, gY, iO, hZ, iF, iV, iW, iJ, gR, iT, iQ, iD, jV, jW, kF, kD, kC, kG, kA, kB, kE, gD, Result.ok.injEq, Next.value.injEq, true_and, and_true, gX, iA, iU, iR, iS, jF, aB0, gV, gU, gW, gT, gO, gJ, gP, gN, gB, fV, if_true, if_false, aBZ, aB4, aB1, aB2, aB5, aB3, aBY, aBX, fQ, fL, fE, fR, cU, eS, eF, dK, bP, fS, eY, aP, dB, aX, bQ, bM, aO, cO, cJ, eQ, aE, gS, aJ, cK, aT, bU, fT, cI, cF, aD, gA, fD, aN, aF, bO, gQ, aI, eX, dT, dV, gF, dE, fB, cZ, eH, fF, fC, cG, dG, gK, dN, bZ, aS, bV, bT, fN, aG, aH, aQ, bA, bE, cP, bK, aA, fA, aR, cL, fJ, eU, gG, bJ, eL, eN, bY, fW, eZ, eJ, dH, cQ, dD, aY, bD, aL, fZ, aM, dA, eE, bB, cC, fK, dL, gC, fM, fG, fI, dS, aK, cH, cY, fY, fX, fH, dC, aV, dX, fU, cS, eT, fO, cD, bL, dR, aZ, dW, dQ, cM, eM, eK, bF, dF, bG, eD, dU, dZ, bN, cR, cN, dO, bS, cW, cV, fP, cB, eI, eP, gE, dY, dP, dM, dI, bH, bR, bW, bX, aU, cX, aW, d3, d4, d5, hmx, d6, d7]
    exact fin 2 14 4 (by omega) (by omega) (by omega) (by omega)
   .have d7 : decide ((M : Int) < 16384) = false := decide_eq_false (by omega)
    simp (disch := omega) only [gI, jD, dJ, stepR_skip, hJ, iC, iM, iP, iL, iN, jJ, iX, gM, iE, iG, iI, iH, gY, iO, hZ, iF, iV, iW, iJ, gR, iT, iQ, iD, jV, jW, kF, kD, kC, kG, kA, kB, kE, gD, Result.ok.injEq, Next.value.injEq, true_and, and_true, gX, iA, iU, iR, iS, jF, aB0, gV, gU, gW, gT, gO, gJ, gP, gN, gB, fV, if_true, if_false, aBZ, aB4, aB1, aB2, aB5, aB3, aBY, aBX, fQ, fL, fE, fR, cU, eS, eF, dK, bP, fS, eY, aP, dB, aX, bQ, bM, aO, cO, cJ, eQ, aE, gS, aJ, cK, aT, bU, fT, cI, cF, aD, gA, fD, aN, aF, bO, gQ, aI, eX, dT, dV, gF, dE, fB, cZ, eH, fF, fC, cG, dG, gK, dN, bZ, aS, bV, bT, fN, aG, aH, aQ, bA, bE, cP, bK, aA, fA, aR, cL, fJ, eU, gG, bJ, eL, eN, bY, fW, eZ, eJ, dH, cQ, dD, aY, bD, aL, fZ, aM, dA, eE, bB, cC, fK, dL, gC, fM, fG, fI, dS, aK, cH, cY, fY, fX, fH, dC, aV, dX, fU, cS, eT, fO, cD, bL, dR, aZ, dW, dQ, cM, eM, eK, bF, dF, bG, eD, dU, dZ, bN, cR, cN, dO, bS, cW, cV, fP, cB, eI, eP, gE, dY, dP, dM, dI, bH, bR, bW, bX, aU, cX, aW, d3, d4, d5, hmx, d6, d7]
    exact fin 3 18 5 (by omega) (by omega) (by omega) (by omega)
 simp (disch := omega) only [gI, jD, dJ, stepR_skip, hJ, iC, iM, iP, iL, iN, jJ, iX, gM, iE, iG, iI, iH, gY, iO, hZ, iF, iV, iW, iJ, gR, iT, iQ, iD, jV, jW, kF, kD, kC, kG, kA, kB, kE, gD, Result.ok.injEq, Next.value.injEq, true_and, and_true, gX, iA, iU, iR, iS, jF, aB0, gV, gU, gW, gT, gO, gJ, gP, gN, gB, fV, if_true, if_false, aBZ, aB4, aB1, aB2, aB5, aB3, aBY, aBX, fQ, fL, fE, fR, cU, eS, eF, dK, bP, fS, eY, aP, dB, aX, bQ, bM, aO, cO, cJ, eQ, aE, gS, aJ, cK, aT, bU, fT, cI, cF, aD, gA, fD, aN, aF, bO, gQ, aI, eX, dT, dV, gF, dE, fB, cZ, eH, fF, fC, cG, dG, gK, dN, bZ, aS, bV, bT, fN, aG, aH, aQ, bA, bE, cP, bK, aA, fA, aR, cL, fJ, eU, gG, bJ, eL, eN, bY, fW, eZ, eJ, dH, cQ, dD, aY, bD, aL, fZ, aM, dA, eE, bB, cC, fK, dL, gC, fM, fG, fI, dS, aK, cH, cY, fY, fX, fH, dC, aV, dX, fU, cS, eT, fO, cD, bL, dR, aZ, dW, dQ, cM, eM, eK, bF, dF, bG, eD, dU, dZ, bN, cR, cN, dO, bS, cW, cV, fP, cB, eI, eP, gE, dY, dP, dM, dI, bH, bR, bW, bX, aU, cX, aW, n0, d1, d2]
 by_cases hbad : pI (kR wl) = 0 ∨ 129 < wl.length
 .refine (ajQ hw hwl hbad).mono ?_
  rintro r w1 ⟨rfl, rfl⟩
  by_cases hd : pI (kR wl) = 0
  .rw [if_pos hd]
   have n1 : ((1 : Int) != 0) = true := rfl
   simp (disch := omega) only [gI, jD, dJ, stepR_skip, hJ, iC, iM, iP, iL, iN, jJ, iX, gM, iE, iG, iI, iH, gY, iO, hZ, iF, iV, iW, iJ, gR, iT, iQ, iD, jV, jW, kF, kD, kC, kG, kA, kB, kE, gD, Result.ok.injEq, Next.value.injEq, true_and, and_true, gX, iA, iU, iR, iS, jF, aB0, gV, gU, gW, gT, gO, gJ, gP, gN, gB, fV, if_true, if_false, aBZ, aB4, aB1, aB2, aB5, aB3, aBY, aBX, fQ, fL, fE, fR, cU, eS, eF, dK, bP, fS, eY, aP, dB, aX, bQ, bM, aO, cO, cJ, eQ, aE, gS, aJ, cK, aT, bU, fT, cI, cF, aD, gA, fD, aN, aF, bO, gQ, aI, eX, dT, dV, gF, dE, fB, cZ, eH, fF, fC, cG, dG, gK, dN, bZ, aS, bV, bT, fN, aG, aH, aQ, bA, bE, cP, bK, aA, fA, aR, cL, fJ, eU, gG, bJ, eL, eN, bY, fW, eZ, eJ, dH, cQ, dD, aY, bD, aL, fZ, aM, dA, eE, bB, cC, fK, dL, gC, fM, fG, fI, dS, aK, cH, cY, fY, fX, fH, dC, aV, dX, fU, cS, eT, fO, cD, bL, dR, aZ, dW, dQ, cM, eM, eK, bF, dF, bG, eD, dU, dZ, bN, cR, cN, dO, bS, cW, cV, fP, cB, eI, eP, gE, dY, dP, dM, dI, bH, bR, bW, bX, aU, cX, aW, n1]
   rw [hRR]
   exact ⟨.inl ⟨1, by decide, rfl⟩, jN.refl _ _⟩
  .rw [if_neg hd]
   have n1 : ((12 : Int) != 0) = true := rfl
   simp (disch := omega) only [gI, jD, dJ, stepR_skip, hJ, iC, iM, iP, iL, iN, jJ, iX, gM, iE, iG, iI, iH, gY, iO, hZ, iF, iV, iW, iJ, gR, iT, iQ, iD, jV, jW, kF, kD, kC, kG, kA, kB, kE, gD, Result.ok.injEq, Next.value.injEq, true_and, and_true, gX, iA, iU, iR, iS, jF, aB0, gV, gU, gW, gT, gO, gJ, gP, gN, gB, fV, if_true, if_false, aBZ, aB4, aB1, aB2, aB5, aB3, aBY, aBX, fQ, fL, fE, fR, cU, eS, eF, dK, bP, fS, eY, aP, dB, aX, bQ, bM, aO, cO, cJ, eQ, aE, gS, aJ, cK, aT, bU, fT, cI, cF, aD, gA, fD, aN, aF, bO, gQ, aI, eX, dT, dV, gF, dE, fB, cZ, eH, fF, fC, cG, dG, gK, dN, bZ, aS, bV, bT, fN, aG, aH, aQ, bA, bE, cP, bK, aA, fA, aR, cL, fJ, eU, gG, bJ, eL, eN, bY, fW, eZ, eJ, dH, cQ, dD, aY, bD, aL, fZ, aM, dA, eE, bB, cC, fK, dL, gC, fM, fG, fI, dS, aK, cH, cY, fY, fX, fH, dC, aV, dX, fU, cS, eT, fO, cD, bL, dR, aZ, dW, dQ, cM, eM, eK, bF, dF, bG, eD, dU, dZ, bN, cR, cN, dO, bS, cW, cV, fP, cB, eI, eP, gE, dY, dP, dM, dI, bH, bR, bW, bX, aU, cX, aW, n1]
   rw [hRR]
   exact ⟨.inl ⟨12, by decide, rfl⟩, jN.refl _ _⟩
 .have hd : pI (kR wl) ≠ 0 := fun h => hbad (.inl h)
  refine (avG hw rfl hd (by omega)).mono ?_
  rintro r w1 ⟨v', rfl, o1, x1⟩
  have n1 : ((0 : Int) != 0) = false := rfl
  have hbl : (SH (wrB (kR wl))).length = (wrB (kR wl)).length := by simp [SH]
  have hwl2 := alT (kR wl)
  rw [nV] at hwl2
  obtain ⟨a1, c1, rfl⟩ := o1.len
  simp (disch := omega) only [gI, jD, dJ, stepR_skip, hJ, iC, iM, iP, iL, iN, jJ, iX, gM, iE, iG, iI, iH, gY, iO, hZ, iF, iV, iW, iJ, gR, iT, iQ, iD, jV, jW, kF, kD, kC, kG, kA, kB, kE, gD, Result.ok.injEq, Next.value.injEq, true_and, and_true, gX, iA, iU, iR, iS, jF, aB0, gV, gU, gW, gT, gO, gJ, gP, gN, gB, fV, if_true, if_false, aBZ, aB4, aB1, aB2, aB5, aB3, aBY, aBX, fQ, fL, fE, fR, cU, eS, eF, dK, bP, fS, eY, aP, dB, aX, bQ, bM, aO, cO, cJ, eQ, aE, gS, aJ, cK, aT, bU, fT, cI, cF, aD, gA, fD, aN, aF, bO, gQ, aI, eX, dT, dV, gF, dE, fB, cZ, eH, fF, fC, cG, dG, gK, dN, bZ, aS, bV, bT, fN, aG, aH, aQ, bA, bE, cP, bK, aA, fA, aR, cL, fJ, eU, gG, bJ, eL, eN, bY, fW, eZ, eJ, dH, cQ, dD, aY, bD, aL, fZ, aM, dA, eE, bB, cC, fK, dL, gC, fM, fG, fI, dS, aK, cH, cY, fY, fX, fH, dC, aV, dX, fU, cS, eT, fO, cD, bL, dR, aZ, dW, dQ, cM, eM, eK, bF, dF, bG, eD, dU, dZ, bN, cR, cN, dO, bS, cW, cV, fP, cB, eI, eP, gE, dY, dP, dM, dI, bH, bR, bW, bX, aU, cX, aW, n1]
  exact tail 2 (SH (wrB (kR wl))) _ w1 (by omega) x1 (by rw [hbl]; exact o1) (by omega)
def shV (a : Option Addr) (n c : Nat) (a' : Option Addr) (n' c' : Nat) : aEm := if n' < n then .slice a' n' c' else .slice a n c
theorem aAx {a a' : Option Addr} {n c n' c' : Nat} {w : aEl} {K : aEm -> aEl -> Prop} (hn : n <= 1000000000) (hn' : n' <= 1000000000) (hK : K (.int .i64 ((n : Int) - (n' : Int))) w) :
 jE pg wY #[.slice a n c, .slice a' n' c'] w K := by
 refine QE ?_
 unfold MN BZ
 simp (disch := omega) only [gI, jD, dJ, stepR_skip, hJ, iC, iM, iP, iL, iN, jJ, iX, gM, iE, iG, iI, iH, gY, iO, hZ, iF, iV, iW, iJ, gR, iT, iQ, iD, jV, jW, kF, kD, kC, kG, kA, kB, kE, gD, Result.ok.injEq, Next.value.injEq, true_and, and_true, gX, iA, iU, iR, iS, jF, aB0, gV, gU, gW, gT, gO, gJ, gP, gN, gB, fV, if_true, if_false, aBZ, aB4, aB1, aB2, aB5, aB3, aBY, aBX, fQ, fL, fE, fR, cU, eS, eF, dK, bP, fS, eY, aP, dB, aX, bQ, bM, aO, cO, cJ, eQ, aE, gS, aJ, cK, aT, bU, fT, cI, cF, aD, gA, fD, aN, aF, bO, gQ, aI, eX, dT, dV, gF, dE, fB, cZ, eH, fF, fC, cG, dG, gK, dN, bZ, aS, bV, bT, fN, aG, aH, aQ, bA, bE, cP, bK, aA, fA, aR, cL, fJ, eU, gG, bJ, eL, eN, bY, fW, eZ, eJ, dH, cQ, dD, aY, bD, aL, fZ, aM, dA, eE, bB, cC, fK, dL, gC, fM, fG, fI, dS, aK, cH, cY, fY, fX, fH, dC, aV, dX, fU, cS, eT, fO, cD, bL, dR, aZ, dW, dQ, cM, eM, eK, bF, dF, bG, eD, dU, dZ, bN, cR, cN, dO, bS, cW, cV, fP, cB, eI, eP, gE, dY, dP, dM, dI, bH, bR, bW, bX, aU, cX, aW]
 exact hK
theorem alH {a a' : Option Addr} {n c n' c' b : Nat} {w : aEl} (ho : lN w b [.slice a n c, .slice a' n' c']) (hn : n <= 1000000000) (hn' : n' <= 1000000000) :
 jE pg BN #[.slice (some ⟨b, 0, none⟩) 2 2] w (fun r w' => r = shV a n c a' n' c' /\ w' = w) := by
 refine TI ?_
 unfold Rh EH
 refine NJ ?_
 obtain ⟨RR, hRR⟩ : ∃ RR : aEm -> aEl -> Prop, RR = fun r w' => r = shV a n c a' n' c' /\ w' = w := ⟨_, rfl⟩
 unfold JD xM yM
 have d1 : decide ((2 : Int) < 1) = false := rfl
 have c0 : w.cell? ⟨b, 0, none⟩ = some (.slice a n c) := ho.cell (off := 0)
 have c1 : w.cell? ⟨b, 1, none⟩ = some (.slice a' n' c') := ho.cell (off := 1)
 have z0 : (0 : Int).toNat = 0 := rfl
 have z1 : (1 : Int).toNat = 1 := rfl
 have n2 : ((2 : Nat) : Int) = 2 := rfl
 unfold xX yT
 simp (disch := omega) only [gI, jD, dJ, stepR_skip, hJ, iC, iM, iP, iL, iN, jJ, iX, gM, iE, iG, iI, iH, gY, iO, hZ, iF, iV, iW, iJ, gR, iT, iQ, iD, jV, jW, kF, kD, kC, kG, kA, kB, kE, gD, Result.ok.injEq, Next.value.injEq, true_and, and_true, gX, iA, iU, iR, iS, jF, aB0, gV, gU, gW, gT, gO, gJ, gP, gN, gB, fV, if_true, if_false, aBZ, aB4, aB1, aB2, aB5, aB3, aBY, aBX, fQ, fL, fE, fR, cU, eS, eF, dK, bP, fS, eY, aP, dB, aX, bQ, bM, aO, cO, cJ, eQ, aE, gS, aJ, cK, aT, bU, fT, cI, cF, aD, gA, fD, aN, aF, bO, gQ, aI, eX, dT, dV, gF, dE, fB, cZ, eH, fF, fC, cG, dG, gK, dN, bZ, aS, bV, bT, fN, aG, aH, aQ, bA, bE, cP, bK, aA, fA, aR, cL, fJ, eU, gG, bJ, eL, eN, bY, fW, eZ, eJ, dH, cQ, dD, aY, bD, aL, fZ, aM, dA, eE, bB, cC, fK, dL, gC, fM, fG, fI, dS, aK, cH, cY, fY, fX, fH, dC, aV, dX, fU, cS, eT, fO, cD, bL, dR, aZ, dW, dQ, cM, eM, eK, bF, dF, bG, eD, dU, dZ, bN, cR, cN, dO, bS, cW, cV, fP, cB, eI, eP, gE, dY, dP, dM, dI, bH, bR, bW, bX, aU, cX, aW, d1, z0, z1, n2, c0, aDQ, aCR]
 unfold Ab Aa An zZ Ad
 refine kP.rule (fun m (t : aEm × aEm) w' => (m = 1 /\ t = (.slice a n c, .int .i64 1) /\ w' = w) ∨ (m = 0 /\ t = (shV a n c a' n' c', .int .i64 2) /\ w' = w)) 1 (.inl ⟨rfl, rfl, rfl⟩) ?_
 rintro m t w' (⟨rfl, rfl, rfl⟩ | ⟨rfl, rfl, rfl⟩)
 .unfold rL tT tX
  have d2 : decide ((1 : Int) < 2) = true := rfl
  have q2 := Z7 (P := pg) (f := wY) Tryz.func83 (by kernel_rfl) (by kernel_rfl) #[] [.slice a' n' c', .slice a n c] w'
  have q3 : (List.toArray [Value.slice a' n' c', .slice a n c] ++ #[]) = #[.slice a' n' c', .slice a n c] := rfl
  rw [q3] at q2
  have e1 : (1 : Int) + 1 = 2 := rfl
  simp (disch := omega) only [gI, jD, dJ, stepR_skip, hJ, iC, iM, iP, iL, iN, jJ, iX, gM, iE, iG, iI, iH, gY, iO, hZ, iF, iV, iW, iJ, gR, iT, iQ, iD, jV, jW, kF, kD, kC, kG, kA, kB, kE, gD, Result.ok.injEq, Next.value.injEq, true_and, and_true, gX, iA, iU, iR, iS, jF, aB0, gV, gU, gW, gT, gO, gJ, gP, gN, gB, fV, if_true, if_false, aBZ, aB4, aB1, aB2, aB5, aB3, aBY, aBX, fQ, fL, fE, fR, cU, eS, eF, dK, bP, fS, eY, aP, dB, aX, bQ, bM, aO, cO, cJ, eQ, aE, gS, aJ, cK, aT, bU, fT, cI, cF, aD, gA, fD, aN, aF, bO, gQ, aI, eX, dT, dV, gF, dE, fB, cZ, eH, fF, fC, cG, dG, gK, dN, bZ, aS, bV, bT, fN, aG, aH, aQ, bA, bE, cP, bK, aA, fA, aR, cL, fJ, eU, gG, bJ, eL, eN, bY, fW, eZ, eJ, dH, cQ, dD, aY, bD, aL, fZ, aM, dA, eE, bB, cC, fK, dL, gC, fM, fG, fI, dS, aK, cH, cY, fY, fX, fH, dC, aV, dX, fU, cS, eT, fO, cD, bL, dR, aZ, dW, dQ, cM, eM, eK, bF, dF, bG, eD, dU, dZ, bN, cR, cN, dO, bS, cW, cV, fP, cB, eI, eP, gE, dY, dP, dM, dI, bH, bR, bW, bX, aU, cX, aW, d2, z1, n2, c1, q2, IP, Nat.one_mul, aC0, aB4]
  refine aAx hn' hn ?_
  by_cases h : n' < n
  .have d3 : decide ((n' : Int) - (n : Int) < 0) = true := decide_eq_true (by omega)
   have : shV a n c a' n' c' = .slice a' n' c' := by unfold shV; rw [if_pos h]
   rw [this]
   simp (disch := omega) only [gI, jD, dJ, stepR_skip, hJ, iC, iM, iP, iL, iN, jJ, iX, gM, iE, iG, iI, iH, gY, iO, hZ, iF, iV, iW, iJ, gR, iT, iQ, iD, jV, jW, kF, kD, kC, kG, kA, kB, kE, gD, Result.ok.injEq, Next.value.injEq, true_and, and_true, gX, iA, iU, iR, iS, jF, aB0, gV, gU, gW, gT, gO, gJ, gP, gN, gB, fV, if_true, if_false, aBZ, aB4, aB1, aB2, aB5, aB3, aBY, aBX, fQ, fL, fE, fR, cU, eS, eF, dK, bP, fS, eY, aP, dB, aX, bQ, bM, aO, cO, cJ, eQ, aE, gS, aJ, cK, aT, bU, fT, cI, cF, aD, gA, fD, aN, aF, bO, gQ, aI, eX, dT, dV, gF, dE, fB, cZ, eH, fF, fC, cG, dG, gK, dN, bZ, aS, bV, bT, fN, aG, aH, aQ, bA, bE, cP, bK, aA, fA, aR, cL, fJ, eU, gG, bJ, eL, eN, bY, fW, eZ, eJ, dH, cQ, dD, aY, bD, aL, fZ, aM, dA, eE, bB, cC, fK, dL, gC, fM, fG, fI, dS, aK, cH, cY, fY, fX, fH, dC, aV, dX, fU, cS, eT, fO, cD, bL, dR, aZ, dW, dQ, cM, eM, eK, bF, dF, bG, eD, dU, dZ, bN, cR, cN, dO, bS, cW, cV, fP, cB, eI, eP, gE, dY, dP, dM, dI, bH, bR, bW, bX, aU, cX, aW, d3, z1, n2, c1, e1, Nat.one_mul, aC0, aB4]
   first
    | exact ⟨0, by omega, .inr ⟨rfl, rfl, rfl⟩⟩
    | exact ⟨0, by omega, .inr ⟨rfl, rfl⟩⟩
    | exact ⟨0, by omega, .inr rfl⟩
  .have d3 : decide ((n' : Int) - (n : Int) < 0) = false := decide_eq_false (by omega)
   have : shV a n c a' n' c' = .slice a n c := by unfold shV; rw [if_neg h]
   rw [this]
   simp (disch := omega) only [gI, jD, dJ, stepR_skip, hJ, iC, iM, iP, iL, iN, jJ, iX, gM, iE, iG, iI, iH, gY, iO, hZ, iF, iV, iW, iJ, gR, iT, iQ, iD, jV, jW, kF, kD, kC, kG, kA, kB, kE, gD, Result.ok.injEq, Next.value.injEq, true_and, and_true, gX, iA, iU, iR, iS, jF, aB0, gV, gU, gW, gT, gO, gJ, gP, gN, gB, fV, if_true, if_false, aBZ, aB4, aB1, aB2, aB5, aB3, aBY, aBX, fQ, fL, fE, fR, cU, eS, eF, dK, bP, fS, eY, aP, dB, aX, bQ, bM, aO, cO, cJ, eQ, aE, gS, aJ, cK, aT, bU, fT, cI, cF, aD, gA, fD, aN, aF, bO, gQ, aI, eX, dT, dV, gF, dE, fB, cZ, eH, fF, fC, cG, dG, gK, dN, bZ, aS, bV, bT, fN, aG, aH, aQ, bA, bE, cP, bK, aA, fA, aR, cL, fJ, eU, gG, bJ, eL, eN, bY, fW, eZ, eJ, dH, cQ, dD, aY, bD, aL, fZ, aM, dA, eE, bB, cC, fK, dL, gC, fM, fG, fI, dS, aK, cH, cY, fY, fX, fH, dC, aV, dX, fU, cS, eT, fO, cD, bL, dR, aZ, dW, dQ, cM, eM, eK, bF, dF, bG, eD, dU, dZ, bN, cR, cN, dO, bS, cW, cV, fP, cB, eI, eP, gE, dY, dP, dM, dI, bH, bR, bW, bX, aU, cX, aW, d3, e1]
   first
    | exact ⟨0, by omega, .inr ⟨rfl, rfl, rfl⟩⟩
    | exact ⟨0, by omega, .inr ⟨rfl, rfl⟩⟩
    | exact ⟨0, by omega, .inr rfl⟩
 .unfold rL tT tU
  have d2 : decide ((2 : Int) < 2) = false := rfl
  simp (disch := omega) only [gI, jD, dJ, stepR_skip, hJ, iC, iM, iP, iL, iN, jJ, iX, gM, iE, iG, iI, iH, gY, iO, hZ, iF, iV, iW, iJ, gR, iT, iQ, iD, jV, jW, kF, kD, kC, kG, kA, kB, kE, gD, Result.ok.injEq, Next.value.injEq, true_and, and_true, gX, iA, iU, iR, iS, jF, aB0, gV, gU, gW, gT, gO, gJ, gP, gN, gB, fV, if_true, if_false, aBZ, aB4, aB1, aB2, aB5, aB3, aBY, aBX, fQ, fL, fE, fR, cU, eS, eF, dK, bP, fS, eY, aP, dB, aX, bQ, bM, aO, cO, cJ, eQ, aE, gS, aJ, cK, aT, bU, fT, cI, cF, aD, gA, fD, aN, aF, bO, gQ, aI, eX, dT, dV, gF, dE, fB, cZ, eH, fF, fC, cG, dG, gK, dN, bZ, aS, bV, bT, fN, aG, aH, aQ, bA, bE, cP, bK, aA, fA, aR, cL, fJ, eU, gG, bJ, eL, eN, bY, fW, eZ, eJ, dH, cQ, dD, aY, bD, aL, fZ, aM, dA, eE, bB, cC, fK, dL, gC, fM, fG, fI, dS, aK, cH, cY, fY, fX, fH, dC, aV, dX, fU, cS, eT, fO, cD, bL, dR, aZ, dW, dQ, cM, eM, eK, bF, dF, bG, eD, dU, dZ, bN, cR, cN, dO, bS, cW, cV, fP, cB, eI, eP, gE, dY, dP, dM, dI, bH, bR, bW, bX, aU, cX, aW, d2, n2]
theorem arA {p : Nat} {a a' : Option Addr} {n c n' c' : Nat} {w : aEl} (o : lN w p [.slice a n c]) (hn : n <= 1000000000) (hn' : n' <= 1000000000) :
 jE pg qS #[.slice a' n' c', .int .i64 0, .pointer (some ⟨p, 0, none⟩)] w (fun r w' => r = .tuple #[] /\ lN w' p [shV a n c a' n' c'] /\ jN w w' (fun y => y = p)) := by
 refine Hk ?_
 unfold H2 xI
 have c0 : w.cell? ⟨p, 0, none⟩ = some (.slice a n c) := o.cell (off := 0)
 have n1 : ((0 : Int) == 0) = true := rfl
 simp (disch := omega) only [gI, jD, dJ, stepR_skip, hJ, iC, iM, iP, iL, iN, jJ, iX, gM, iE, iG, iI, iH, gY, iO, hZ, iF, iV, iW, iJ, gR, iT, iQ, iD, jV, jW, kF, kD, kC, kG, kA, kB, kE, gD, Result.ok.injEq, Next.value.injEq, true_and, and_true, gX, iA, iU, iR, iS, jF, aB0, gV, gU, gW, gT, gO, gJ, gP, gN, gB, fV, if_true, if_false, aBZ, aB4, aB1, aB2, aB5, aB3, aBY, aBX, fQ, fL, fE, fR, cU, eS, eF, dK, bP, fS, eY, aP, dB, aX, bQ, bM, aO, cO, cJ, eQ, aE, gS, aJ, cK, aT, bU, fT, cI, cF, aD, gA, fD, aN, aF, bO, gQ, aI, eX, dT, dV, gF, dE, fB, cZ, eH, fF, fC, cG, dG, gK, dN, bZ, aS, bV, bT, fN, aG, aH, aQ, bA, bE, cP, bK, aA, fA, aR, cL, fJ, eU, gG, bJ, eL, eN, bY, fW, eZ, eJ, dH, cQ, dD, aY, bD, aL, fZ, aM, dA, eE, bB, cC, fK, dL, gC, fM, fG, fI, dS, aK, cH, cY, fY, fX, fH, dC, aV, dX, fU, cS, eT, fO, cD, bL, dR, aZ, dW, dQ, cM, eM, eK, bF, dF, bG, eD, dU, dZ, bN, cR, cN, dO, bS, cW, cV, fP, cB, eI, eP, gE, dY, dP, dM, dI, bH, bR, bW, bX, aU, cX, aW, c0, n1]
 refine Tr (cells := #[.slice a n c, .slice a' n' c']) (by decide) (by decide) (by kernel_rfl) fun w1 o1 x1 s1 => ?_
 refine (alH o1 hn hn').mono ?_
 rintro r w2 ⟨rfl, hw⟩
 rw [hw]; clear hw w2
 refine sL (o.ext x1 (fun h => h)) (by unfold shV; split <;> rfl) (by simp) fun w3 o3 x3 s3 => ?_
 simp only [aCa] at o3
 have x13 : jN w w3 (fun y => y = p) := (x1.mono fun _ _ h => h.elim).seq x3
 try simp (disch := omega) only [gI, jD, dJ, stepR_skip, hJ, iC, iM, iP, iL, iN, jJ, iX, gM, iE, iG, iI, iH, gY, iO, hZ, iF, iV, iW, iJ, gR, iT, iQ, iD, jV, jW, kF, kD, kC, kG, kA, kB, kE, gD, Result.ok.injEq, Next.value.injEq, true_and, and_true, gX, iA, iU, iR, iS, jF, aB0, gV, gU, gW, gT, gO, gJ, gP, gN, gB, fV, if_true, if_false, aBZ, aB4, aB1, aB2, aB5, aB3, aBY, aBX, fQ, fL, fE, fR, cU, eS, eF, dK, bP, fS, eY, aP, dB, aX, bQ, bM, aO, cO, cJ, eQ, aE, gS, aJ, cK, aT, bU, fT, cI, cF, aD, gA, fD, aN, aF, bO, gQ, aI, eX, dT, dV, gF, dE, fB, cZ, eH, fF, fC, cG, dG, gK, dN, bZ, aS, bV, bT, fN, aG, aH, aQ, bA, bE, cP, bK, aA, fA, aR, cL, fJ, eU, gG, bJ, eL, eN, bY, fW, eZ, eJ, dH, cQ, dD, aY, bD, aL, fZ, aM, dA, eE, bB, cC, fK, dL, gC, fM, fG, fI, dS, aK, cH, cY, fY, fX, fH, dC, aV, dX, fU, cS, eT, fO, cD, bL, dR, aZ, dW, dQ, cM, eM, eK, bF, dF, bG, eD, dU, dZ, bN, cR, cN, dO, bS, cW, cV, fP, cB, eI, eP, gE, dY, dP, dM, dI, bH, bR, bW, bX, aU, cX, aW]
 first
  | exact ⟨rfl, o3, x13⟩
  | exact ⟨o3, x13⟩
theorem aoA {p : Nat} {bv : aEm} {e : Int} {w : aEl} (he : e ≠ 0) : jE pg qS #[bv, .int .i64 e, .pointer (some ⟨p, 0, none⟩)] w (fun r w' => r = .tuple #[] /\ w' = w) := by
 refine Hk ?_
 unfold H2 xI
 have n1 : (e == 0) = false := beq_eq_false_iff_ne.2 he
 simp (disch := omega) only [gI, jD, dJ, stepR_skip, hJ, iC, iM, iP, iL, iN, jJ, iX, gM, iE, iG, iI, iH, gY, iO, hZ, iF, iV, iW, iJ, gR, iT, iQ, iD, jV, jW, kF, kD, kC, kG, kA, kB, kE, gD, Result.ok.injEq, Next.value.injEq, true_and, and_true, gX, iA, iU, iR, iS, jF, aB0, gV, gU, gW, gT, gO, gJ, gP, gN, gB, fV, if_true, if_false, aBZ, aB4, aB1, aB2, aB5, aB3, aBY, aBX, fQ, fL, fE, fR, cU, eS, eF, dK, bP, fS, eY, aP, dB, aX, bQ, bM, aO, cO, cJ, eQ, aE, gS, aJ, cK, aT, bU, fT, cI, cF, aD, gA, fD, aN, aF, bO, gQ, aI, eX, dT, dV, gF, dE, fB, cZ, eH, fF, fC, cG, dG, gK, dN, bZ, aS, bV, bT, fN, aG, aH, aQ, bA, bE, cP, bK, aA, fA, aR, cL, fJ, eU, gG, bJ, eL, eN, bY, fW, eZ, eJ, dH, cQ, dD, aY, bD, aL, fZ, aM, dA, eE, bB, cC, fK, dL, gC, fM, fG, fI, dS, aK, cH, cY, fY, fX, fH, dC, aV, dX, fU, cS, eT, fO, cD, bL, dR, aZ, dW, dQ, cM, eM, eK, bF, dF, bG, eD, dU, dZ, bN, cR, cN, dO, bS, cW, cV, fP, cB, eI, eP, gE, dY, dP, dM, dI, bH, bR, bW, bX, aU, cX, aW, n1]
theorem alV (k n : Nat) : 1 <= (wP k n).length := by
 unfold wP; split
 .simp [lA]
 .split <;> simp [lA]
def aAR (w : aEl) (base n : Nat) (r : aEm) : Prop := ∃ (x : aEm) (bytes : List UInt8), r = .tuple #[x, .int .i64 0] /\ yW w base 1 x bytes.length (bytes.map nT) /\ 1 <= bytes.length /\ bytes.length <= n + 3
theorem aqD {v : aEm} {l : List UInt8} {w : aEl} (h : Bs w v l) (hl : l.length <= 131072) :
 jE pg CA #[v] w (fun r w' => aAR w' w.heap.size l.length r /\ jN w w' mC) := by
 refine UR ?_
 obtain ⟨RR, hRR⟩ : ∃ RR : aEm -> aEl -> Prop, RR = fun r w' => aAR w' w.heap.size l.length r /\ jN w w' mC := ⟨_, rfl⟩
 rw [<- hRR]
 unfold S9 EI ET
 refine (atG h hl).mono ?_
 rintro r w1 ⟨x, rfl, o1, x1⟩
 have z1 := x1.size
 have hp := Qw 0 l.length
 have hp1 := alV 0 l.length
 obtain ⟨rw_, hrw⟩ : ∃ rw_, rw_ = wP 0 l.length ++ l := ⟨_, rfl⟩
 have hrl : rw_.length <= l.length + 3 := by rw [hrw, aB7]; omega
 have hr1 : 1 <= rw_.length := by rw [hrw, aB7]; omega
 rw [<- hrw] at o1
 clear hp hp1 hrw
 obtain ⟨ra, rc, rfl⟩ := o1.len
 obtain ⟨p, hpp⟩ : ∃ p, p = w1.heap.size := ⟨_, rfl⟩
 have os1 := yW.ne (p := p) o1 (by omega)
 have n0 : ((0 : Int) != 0) = false := rfl
 have q1 := fun w => akM (P := pg) (f := qS) [] [.pointer (some ⟨p, 0, none⟩)] w
 have q2 := fun (x y : aEm) w => Z7 (P := pg) (f := qS) Tryz.func64 (by kernel_rfl) (by kernel_rfl) #[.pointer (some ⟨p, 0, none⟩)] [x, y] w
 have q3 : ∀ x y : aEm, (List.toArray [x, y] ++ #[.pointer (some ⟨p, 0, none⟩)]) = #[x, y, .pointer (some ⟨p, 0, none⟩)] := fun _ _ => rfl
 simp only [q3] at q2
 let S : Nat -> Prop := fun b => w.heap.size <= b /\ b ≠ p
 let St : aEl -> Prop := fun W => ∃ (a : Option Addr) (c : Nat) (bs : List UInt8), lN W p [.slice a bs.length c] /\ GX W S 1 (.slice a bs.length c) bs.length (bs.map nT) /\ 1 <= bs.length /\ bs.length <= l.length + 3 /\ jN w W mC
 have fin : ∀ W, St W -> tB RR (.pointer (some ⟨p, 0, none⟩)) W := by
  rintro W ⟨a, c, bs, o, os, hb1, hb2, x⟩
  unfold tB
  have c0 : W.cell? ⟨p, 0, none⟩ = some (.slice a bs.length c) := o.cell (off := 0)
  simp (disch := omega) only [gI, jD, dJ, stepR_skip, hJ, iC, iM, iP, iL, iN, jJ, iX, gM, iE, iG, iI, iH, gY, iO, hZ, iF, iV, iW, iJ, gR, iT, iQ, iD, jV, jW, kF, kD, kC, kG, kA, kB, kE, gD, Result.ok.injEq, Next.value.injEq, true_and, and_true, gX, iA, iU, iR, iS, jF, aB0, gV, gU, gW, gT, gO, gJ, gP, gN, gB, fV, if_true, if_false, aBZ, aB4, aB1, aB2, aB5, aB3, aBY, aBX, fQ, fL, fE, fR, cU, eS, eF, dK, bP, fS, eY, aP, dB, aX, bQ, bM, aO, cO, cJ, eQ, aE, gS, aJ, cK, aT, bU, fT, cI, cF, aD, gA, fD, aN, aF, bO, gQ, aI, eX, dT, dV, gF, dE, fB, cZ, eH, fF, fC, cG, dG, gK, dN, bZ, aS, bV, bT, fN, aG, aH, aQ, bA, bE, cP, bK, aA, fA, aR, cL, fJ, eU, gG, bJ, eL, eN, bY, fW, eZ, eJ, dH, cQ, dD, aY, bD, aL, fZ, aM, dA, eE, bB, cC, fK, dL, gC, fM, fG, fI, dS, aK, cH, cY, fY, fX, fH, dC, aV, dX, fU, cS, eT, fO, cD, bL, dR, aZ, dW, dQ, cM, eM, eK, bF, dF, bG, eD, dU, dZ, bN, cR, cN, dO, bS, cW, cV, fP, cB, eI, eP, gE, dY, dP, dM, dI, bH, bR, bW, bX, aU, cX, aW, c0]
  rw [hRR]
  refine ⟨⟨_, bs, rfl, ⟨os.1, ?_⟩, hb1, hb2⟩, x⟩
  rcases os.2 with h | ⟨b, c', rest, h1, h2, h3⟩
  .exact .inl h
  .exact .inr ⟨b, c', rest, h1, h2.1, h3⟩
 have bet : ∀ (W : aEl) (a' : Option Addr) (c' : Nat) (bs' : List UInt8) (K : aEm -> aEl -> Prop), St W -> GX W S 1 (.slice a' bs'.length c') bs'.length (bs'.map nT) -> 1 <= bs'.length -> bs'.length <= 1000000 -> (∀ r W', St W' -> K r W') →
     jE pg qS #[.slice a' bs'.length c', .int .i64 0, .pointer (some ⟨p, 0, none⟩)] W K := by
  rintro W a' c' bs' K ⟨a, c, bs, o, os, hb1, hb2, x⟩ os' hb1' hb2' hK
  refine (arA o (by omega) (by omega)).mono ?_
  rintro r W' ⟨rfl, o2, x2⟩
  refine hK _ _ ?_
  have xx : jN w W' mC := x.trans x2 fun y hy hh => by omega
  unfold shV at o2
  split at o2
  .exact ⟨a', c', bs', o2, os'.ext x2 (fun b hb hh => hb.2 hh), hb1', by omega, xx⟩
  .exact ⟨a, c, bs, o2, os.ext x2 (fun b hb hh => hb.2 hh), hb1, hb2, xx⟩
 have hv := h
 obtain ⟨va, vc, rfl, hvc⟩ := h.len
 rw [aB6] at hv hvc ⊢
 simp (disch := omega) only [gI, jD, dJ, stepR_skip, hJ, iC, iM, iP, iL, iN, jJ, iX, gM, iE, iG, iI, iH, gY, iO, hZ, iF, iV, iW, iJ, gR, iT, iQ, iD, jV, jW, kF, kD, kC, kG, kA, kB, kE, gD, Result.ok.injEq, Next.value.injEq, true_and, and_true, gX, iA, iU, iR, iS, jF, aB0, gV, gU, gW, gT, gO, gJ, gP, gN, gB, fV, if_true, if_false, aBZ, aB4, aB1, aB2, aB5, aB3, aBY, aBX, fQ, fL, fE, fR, cU, eS, eF, dK, bP, fS, eY, aP, dB, aX, bQ, bM, aO, cO, cJ, eQ, aE, gS, aJ, cK, aT, bU, fT, cI, cF, aD, gA, fD, aN, aF, bO, gQ, aI, eX, dT, dV, gF, dE, fB, cZ, eH, fF, fC, cG, dG, gK, dN, bZ, aS, bV, bT, fN, aG, aH, aQ, bA, bE, cP, bK, aA, fA, aR, cL, fJ, eU, gG, bJ, eL, eN, bY, fW, eZ, eJ, dH, cQ, dD, aY, bD, aL, fZ, aM, dA, eE, bB, cC, fK, dL, gC, fM, fG, fI, dS, aK, cH, cY, fY, fX, fH, dC, aV, dX, fU, cS, eT, fO, cD, bL, dR, aZ, dW, dQ, cM, eM, eK, bF, dF, bG, eD, dU, dZ, bN, cR, cN, dO, bS, cW, cV, fP, cB, eI, eP, gE, dY, dP, dM, dI, bH, bR, bW, bX, aU, cX, aW, n0]
 refine Zq fun w2 o2 x2 s2 => ?_
 rw [<- hpp] at o2 ⊢
 refine sL o2 rfl (by simp) fun w3 o3 x3 s3 => ?_
 simp only [aCa] at o3
 have x13 : jN w1 w3 mC := x2.trans x3 fun y hy h => by omega
 have x03 := x1.seq x13
 have h3 := hv.ext x03 (kJ _)
 have z3 := x03.size
 have os3 : GX w3 S 1 (.slice ra rw_.length rc) rw_.length (rw_.map nT) := (os1.ext x2 (fun _ _ h => h)).ext x3 (fun b hb hh => hb.2 hh)
 have st3 : St w3 := ⟨ra, rc, rw_, o3, os3, hr1, hrl, x03⟩
 have lt3 : p < w3.heap.size := o3.lt
 simp (disch := omega) only [gI, jD, dJ, stepR_skip, hJ, iC, iM, iP, iL, iN, jJ, iX, gM, iE, iG, iI, iH, gY, iO, hZ, iF, iV, iW, iJ, gR, iT, iQ, iD, jV, jW, kF, kD, kC, kG, kA, kB, kE, gD, Result.ok.injEq, Next.value.injEq, true_and, and_true, gX, iA, iU, iR, iS, jF, aB0, gV, gU, gW, gT, gO, gJ, gP, gN, gB, fV, if_true, if_false, aBZ, aB4, aB1, aB2, aB5, aB3, aBY, aBX, fQ, fL, fE, fR, cU, eS, eF, dK, bP, fS, eY, aP, dB, aX, bQ, bM, aO, cO, cJ, eQ, aE, gS, aJ, cK, aT, bU, fT, cI, cF, aD, gA, fD, aN, aF, bO, gQ, aI, eX, dT, dV, gF, dE, fB, cZ, eH, fF, fC, cG, dG, gK, dN, bZ, aS, bV, bT, fN, aG, aH, aQ, bA, bE, cP, bK, aA, fA, aR, cL, fJ, eU, gG, bJ, eL, eN, bY, fW, eZ, eJ, dH, cQ, dD, aY, bD, aL, fZ, aM, dA, eE, bB, cC, fK, dL, gC, fM, fG, fI, dS, aK, cH, cY, fY, fX, fH, dC, aV, dX, fU, cS, eT, fO, cD, bL, dR, aZ, dW, dQ, cM, eM, eK, bF, dF, bG, eD, dU, dZ, bN, cR, cN, dO, bS, cW, cV, fP, cB, eI, eP, gE, dY, dP, dM, dI, bH, bR, bW, bX, aU, cX, aW, n0, q1]
 refine (amF h3 (by omega)).mono ?_
 rintro r w4 ⟨rfl, x4⟩
 have x04 := x03.seq x4
 have st4 : ∀ {W}, jN w3 W mC -> St W := fun {W} x => ⟨ra, rc, rw_, o3.ext x (fun h => h), os3.ext x (fun _ _ h => h), hr1, hrl, x03.seq x⟩
 have h4 := hv.ext x04 (kJ _)
 have z4 := x4.size
 have hosl : ∀ {W W' : aEl} {x : aEm} {bs : List UInt8}, jN w W mC -> p < W.heap.size -> yW W' W.heap.size 1 x bs.length (bs.map nT) -> GX W' S 1 x bs.length (bs.map nT) := fun {W W' x bs} xx hlt ho => by
  refine ⟨ho.1, ?_⟩
  rcases ho.2 with h | ⟨b, c', rest, h1, h2, h3⟩
  .exact .inl h
  .exact .inr ⟨b, c', rest, h1, ⟨by have := xx.size; omega, by omega⟩, h3⟩
 cases hal : Dn l with
 | true =>
   have h0 : 0 < l.length := by
    cases l with
    | nil => cases hal
    | cons c r => simp
   obtain ⟨kb, koff, hka, hcell⟩ : ∃ kb koff, va = some ⟨kb, koff, none⟩ /\ w4.cell? ⟨kb, koff, none⟩ = some (nT l[0]) := by
    obtain ⟨a', n', c', he, hn', hc', hh⟩ := h4
    simp only [Value.slice.injEq] at he
    obtain ⟨rfl, rfl, rfl⟩ := he
    obtain ⟨kb, koff, rfl, h2⟩ := hh (by omega)
    refine ⟨kb, koff, rfl, ?_⟩
    have := h2 0 (by omega)
    rw [aCR] at this
    rw [this, aCp, aB8 h0]
    rfl
   subst hka
   have z0 : (0 : Int).toNat = 0 := rfl
   simp (disch := omega) only [gI, jD, dJ, stepR_skip, hJ, iC, iM, iP, iL, iN, jJ, iX, gM, iE, iG, iI, iH, gY, iO, hZ, iF, iV, iW, iJ, gR, iT, iQ, iD, jV, jW, kF, kD, kC, kG, kA, kB, kE, gD, Result.ok.injEq, Next.value.injEq, true_and, and_true, gX, iA, iU, iR, iS, jF, aB0, gV, gU, gW, gT, gO, gJ, gP, gN, gB, fV, if_true, if_false, aBZ, aB4, aB1, aB2, aB5, aB3, aBY, aBX, fQ, fL, fE, fR, cU, eS, eF, dK, bP, fS, eY, aP, dB, aX, bQ, bM, aO, cO, cJ, eQ, aE, gS, aJ, cK, aT, bU, fT, cI, cF, aD, gA, fD, aN, aF, bO, gQ, aI, eX, dT, dV, gF, dE, fB, cZ, eH, fF, fC, cG, dG, gK, dN, bZ, aS, bV, bT, fN, aG, aH, aQ, bA, bE, cP, bK, aA, fA, aR, cL, fJ, eU, gG, bJ, eL, eN, bY, fW, eZ, eJ, dH, cQ, dD, aY, bD, aL, fZ, aM, dA, eE, bB, cC, fK, dL, gC, fM, fG, fI, dS, aK, cH, cY, fY, fX, fH, dC, aV, dX, fU, cS, eT, fO, cD, bL, dR, aZ, dW, dQ, cM, eM, eK, bF, dF, bG, eD, dU, dZ, bN, cR, cN, dO, bS, cW, cV, fP, cB, eI, eP, gE, dY, dP, dM, dI, bH, bR, bW, bX, aU, cX, aW, hcell, z0, aCR]
   refine (aqE (n := l.length) hl).mono ?_
   rintro r w5 ⟨x, rfl, o5, x5⟩
   have hp2 := Qw 1 l.length
   have os5 := hosl x04 (by omega) o5
   obtain ⟨a5, c5, rfl⟩ := o5.len
   simp (disch := omega) only [gI, jD, dJ, stepR_skip, hJ, iC, iM, iP, iL, iN, jJ, iX, gM, iE, iG, iI, iH, gY, iO, hZ, iF, iV, iW, iJ, gR, iT, iQ, iD, jV, jW, kF, kD, kC, kG, kA, kB, kE, gD, Result.ok.injEq, Next.value.injEq, true_and, and_true, gX, iA, iU, iR, iS, jF, aB0, gV, gU, gW, gT, gO, gJ, gP, gN, gB, fV, if_true, if_false, aBZ, aB4, aB1, aB2, aB5, aB3, aBY, aBX, fQ, fL, fE, fR, cU, eS, eF, dK, bP, fS, eY, aP, dB, aX, bQ, bM, aO, cO, cJ, eQ, aE, gS, aJ, cK, aT, bU, fT, cI, cF, aD, gA, fD, aN, aF, bO, gQ, aI, eX, dT, dV, gF, dE, fB, cZ, eH, fF, fC, cG, dG, gK, dN, bZ, aS, bV, bT, fN, aG, aH, aQ, bA, bE, cP, bK, aA, fA, aR, cL, fJ, eU, gG, bJ, eL, eN, bY, fW, eZ, eJ, dH, cQ, dD, aY, bD, aL, fZ, aM, dA, eE, bB, cC, fK, dL, gC, fM, fG, fI, dS, aK, cH, cY, fY, fX, fH, dC, aV, dX, fU, cS, eT, fO, cD, bL, dR, aZ, dW, dQ, cM, eM, eK, bF, dF, bG, eD, dU, dZ, bN, cR, cN, dO, bS, cW, cV, fP, cB, eI, eP, gE, dY, dP, dM, dI, bH, bR, bW, bX, aU, cX, aW, q2, IP]
   refine bet w5 a5 c5 _ _ (st4 (x4.seq x5)) os5 (by rw [aB7]; simp) (by rw [aB7]; simp; omega) fun r W hW => ?_
   have hf := fin W hW
   obtain ⟨a, c, bs, o, -⟩ := hW
   have c0 : W.cell? ⟨p, 0, none⟩ = some (.slice a bs.length c) := o.cell (off := 0)
   have hf : gI pg (jG 22 (.pointer (some ⟨p, 0, none⟩))) W fun t w => RR (.tuple #[t, .int .i64 0]) w := by
    unfold tB at hf
    first | exact hf | skip
   simp only [gI, fS, c0, gD, dJ] at hf
   simp (disch := omega) only [gI, jD, dJ, stepR_skip, hJ, iC, iM, iP, iL, iN, jJ, iX, gM, iE, iG, iI, iH, gY, iO, hZ, iF, iV, iW, iJ, gR, iT, iQ, iD, jV, jW, kF, kD, kC, kG, kA, kB, kE, gD, Result.ok.injEq, Next.value.injEq, true_and, and_true, gX, iA, iU, iR, iS, jF, aB0, gV, gU, gW, gT, gO, gJ, gP, gN, gB, fV, if_true, if_false, aBZ, aB4, aB1, aB2, aB5, aB3, aBY, aBX, fQ, fL, fE, fR, cU, eS, eF, dK, bP, fS, eY, aP, dB, aX, bQ, bM, aO, cO, cJ, eQ, aE, gS, aJ, cK, aT, bU, fT, cI, cF, aD, gA, fD, aN, aF, bO, gQ, aI, eX, dT, dV, gF, dE, fB, cZ, eH, fF, fC, cG, dG, gK, dN, bZ, aS, bV, bT, fN, aG, aH, aQ, bA, bE, cP, bK, aA, fA, aR, cL, fJ, eU, gG, bJ, eL, eN, bY, fW, eZ, eJ, dH, cQ, dD, aY, bD, aL, fZ, aM, dA, eE, bB, cC, fK, dL, gC, fM, fG, fI, dS, aK, cH, cY, fY, fX, fH, dC, aV, dX, fU, cS, eT, fO, cD, bL, dR, aZ, dW, dQ, cM, eM, eK, bF, dF, bG, eD, dU, dZ, bN, cR, cN, dO, bS, cW, cV, fP, cB, eI, eP, gE, dY, dP, dM, dI, bH, bR, bW, bX, aU, cX, aW, c0]
   exact hf
 | false =>
   simp (disch := omega) only [gI, jD, dJ, stepR_skip, hJ, iC, iM, iP, iL, iN, jJ, iX, gM, iE, iG, iI, iH, gY, iO, hZ, iF, iV, iW, iJ, gR, iT, iQ, iD, jV, jW, kF, kD, kC, kG, kA, kB, kE, gD, Result.ok.injEq, Next.value.injEq, true_and, and_true, gX, iA, iU, iR, iS, jF, aB0, gV, gU, gW, gT, gO, gJ, gP, gN, gB, fV, if_true, if_false, aBZ, aB4, aB1, aB2, aB5, aB3, aBY, aBX, fQ, fL, fE, fR, cU, eS, eF, dK, bP, fS, eY, aP, dB, aX, bQ, bM, aO, cO, cJ, eQ, aE, gS, aJ, cK, aT, bU, fT, cI, cF, aD, gA, fD, aN, aF, bO, gQ, aI, eX, dT, dV, gF, dE, fB, cZ, eH, fF, fC, cG, dG, gK, dN, bZ, aS, bV, bT, fN, aG, aH, aQ, bA, bE, cP, bK, aA, fA, aR, cL, fJ, eU, gG, bJ, eL, eN, bY, fW, eZ, eJ, dH, cQ, dD, aY, bD, aL, fZ, aM, dA, eE, bB, cC, fK, dL, gC, fM, fG, fI, dS, aK, cH, cY, fY, fX, fH, dC, aV, dX, fU, cS, eT, fO, cD, bL, dR, aZ, dW, dQ, cM, eM, eK, bF, dF, bG, eD, dU, dZ, bN, cR, cN, dO, bS, cW, cV, fP, cB, eI, eP, gE, dY, dP, dM, dI, bH, bR, bW, bX, aU, cX, aW]
   refine afH (by omega) (by omega) fun w5 o5 x5 s5 => ?_
   obtain ⟨q, hq⟩ : ∃ q, q = w4.heap.size := ⟨_, rfl⟩
   have t256 : (256 : Int).toNat = 256 := rfl
   rw [<- hq, t256] at o5
   rw [<- hq, t256]
   unfold GD FE Fz GR F0
   simp (disch := omega) only [gI, jD, dJ, stepR_skip, hJ, iC, iM, iP, iL, iN, jJ, iX, gM, iE, iG, iI, iH, gY, iO, hZ, iF, iV, iW, iJ, gR, iT, iQ, iD, jV, jW, kF, kD, kC, kG, kA, kB, kE, gD, Result.ok.injEq, Next.value.injEq, true_and, and_true, gX, iA, iU, iR, iS, jF, aB0, gV, gU, gW, gT, gO, gJ, gP, gN, gB, fV, if_true, if_false, aBZ, aB4, aB1, aB2, aB5, aB3, aBY, aBX, fQ, fL, fE, fR, cU, eS, eF, dK, bP, fS, eY, aP, dB, aX, bQ, bM, aO, cO, cJ, eQ, aE, gS, aJ, cK, aT, bU, fT, cI, cF, aD, gA, fD, aN, aF, bO, gQ, aI, eX, dT, dV, gF, dE, fB, cZ, eH, fF, fC, cG, dG, gK, dN, bZ, aS, bV, bT, fN, aG, aH, aQ, bA, bE, cP, bK, aA, fA, aR, cL, fJ, eU, gG, bJ, eL, eN, bY, fW, eZ, eJ, dH, cQ, dD, aY, bD, aL, fZ, aM, dA, eE, bB, cC, fK, dL, gC, fM, fG, fI, dS, aK, cH, cY, fY, fX, fH, dC, aV, dX, fU, cS, eT, fO, cD, bL, dR, aZ, dW, dQ, cM, eM, eK, bF, dF, bG, eD, dU, dZ, bN, cR, cN, dO, bS, cW, cV, fP, cB, eI, eP, gE, dY, dP, dM, dI, bH, bR, bW, bX, aU, cX, aW]
   have x45 := x4.seq x5
   have hqp : q ≠ p := by omega
   refine kP.rule (fun m (t : aEm) W => ∃ (i : Nat) (ns : List Nat), m = l.length - i /\ i <= l.length /\ t = .int .i64 (i : Nat) /\ lN W q (Tq ns) /\ ns.length = 256 /\ (∀ n ∈ ns, n <= i) /\ jN w5 W (fun y => y = q)) l.length
    ⟨0, List.replicate 256 0, rfl, by omega, rfl, by simpa using o5, by simp, fun n hn => by rw [aD5 hn]; omega, jN.refl _ _⟩ ?_
   rintro m t w6 ⟨i, ns, rfl, hi, rfl, o6, hnl, hns, x6⟩
   have x36 : jN w3 w6 mC := x45.trans x6 fun y hy h => by omega
   have x06 := x03.seq x36
   unfold BM
   by_cases hlt : i < l.length
   .have d1 : decide ((i : Int) < (l.length : Int)) = true := decide_eq_true (by omega)
    have hin : (i : Int).toNat = i := aB0 _
    have e1 : (i : Int) + 1 = ((i + 1 : Nat) : Int) := by omega
    obtain ⟨kb, koff, hka, hcell⟩ : ∃ kb koff, va = some ⟨kb, koff, none⟩ /\ w6.cell? ⟨kb, koff + i, none⟩ = some (.int .u8 (l[i].toNat : Nat)) := by
     obtain ⟨a', n', c', he, hn', hc', hh⟩ := hv.ext x06 (kJ _)
     simp only [Value.slice.injEq] at he
     obtain ⟨rfl, rfl, rfl⟩ := he
     obtain ⟨kb, koff, rfl, h2⟩ := hh (by omega)
     refine ⟨kb, koff, rfl, ?_⟩
     rw [h2 i (by omega), aCp, aB8 hlt]
     rfl
    subst hka
    have hc256 : l[i].toNat < 256 := aC7 _
    obtain ⟨cc_, hcc⟩ : ∃ c, c = l[i].toNat := ⟨_, rfl⟩
    rw [<- hcc] at hcell hc256
    have hcn : (cc_ : Int).toNat = cc_ := aB0 _
    have d2 : ((cc_ : Nat) : Int) < ((256 : Nat) : Int) := by omega
    have hng : (Tq ns)[cc_]? = some (.int .u32 (ns.getD cc_ 0 : Nat)) := Qx (by omega)
    have hc6 : w6.cell? ⟨q, 0 + cc_, none⟩ = some (.int .u32 (ns.getD cc_ 0 : Nat)) := by
     rw [aB4, o6.cell]; exact hng
    have hgd : ns.getD cc_ 0 <= i := by
     rw [aB9, aB8 (by omega)]
     exact hns _ (aCW _)
    rw [aB4] at hc6
    obtain ⟨G, hG⟩ : ∃ G, G = ns.getD cc_ 0 := ⟨_, rfl⟩
    rw [<- hG] at hc6 hgd
    have e2 : (G : Int) + 1 = ((G + 1 : Nat) : Int) := by omega
    simp (disch := omega) only [gI, jD, dJ, stepR_skip, hJ, iC, iM, iP, iL, iN, jJ, iX, gM, iE, iG, iI, iH, gY, iO, hZ, iF, iV, iW, iJ, gR, iT, iQ, iD, jV, jW, kF, kD, kC, kG, kA, kB, kE, gD, Result.ok.injEq, Next.value.injEq, true_and, and_true, gX, iA, iU, iR, iS, jF, aB0, gV, gU, gW, gT, gO, gJ, gP, gN, gB, fV, if_true, if_false, aBZ, aB4, aB1, aB2, aB5, aB3, aBY, aBX, fQ, fL, fE, fR, cU, eS, eF, dK, bP, fS, eY, aP, dB, aX, bQ, bM, aO, cO, cJ, eQ, aE, gS, aJ, cK, aT, bU, fT, cI, cF, aD, gA, fD, aN, aF, bO, gQ, aI, eX, dT, dV, gF, dE, fB, cZ, eH, fF, fC, cG, dG, gK, dN, bZ, aS, bV, bT, fN, aG, aH, aQ, bA, bE, cP, bK, aA, fA, aR, cL, fJ, eU, gG, bJ, eL, eN, bY, fW, eZ, eJ, dH, cQ, dD, aY, bD, aL, fZ, aM, dA, eE, bB, cC, fK, dL, gC, fM, fG, fI, dS, aK, cH, cY, fY, fX, fH, dC, aV, dX, fU, cS, eT, fO, cD, bL, dR, aZ, dW, dQ, cM, eM, eK, bF, dF, bG, eD, dU, dZ, bN, cR, cN, dO, bS, cW, cV, fP, cB, eI, eP, gE, dY, dP, dM, dI, bH, bR, bW, bX, aU, cX, aW, d1, hin, hcell, hcn, hc6, e2, aB4]
    refine aqP o6 rfl (by simp [hnl]; omega) fun w7 o7 x7 s7 => ?_
    simp (disch := omega) only [gI, jD, dJ, stepR_skip, hJ, iC, iM, iP, iL, iN, jJ, iX, gM, iE, iG, iI, iH, gY, iO, hZ, iF, iV, iW, iJ, gR, iT, iQ, iD, jV, jW, kF, kD, kC, kG, kA, kB, kE, gD, Result.ok.injEq, Next.value.injEq, true_and, and_true, gX, iA, iU, iR, iS, jF, aB0, gV, gU, gW, gT, gO, gJ, gP, gN, gB, fV, if_true, if_false, aBZ, aB4, aB1, aB2, aB5, aB3, aBY, aBX, fQ, fL, fE, fR, cU, eS, eF, dK, bP, fS, eY, aP, dB, aX, bQ, bM, aO, cO, cJ, eQ, aE, gS, aJ, cK, aT, bU, fT, cI, cF, aD, gA, fD, aN, aF, bO, gQ, aI, eX, dT, dV, gF, dE, fB, cZ, eH, fF, fC, cG, dG, gK, dN, bZ, aS, bV, bT, fN, aG, aH, aQ, bA, bE, cP, bK, aA, fA, aR, cL, fJ, eU, gG, bJ, eL, eN, bY, fW, eZ, eJ, dH, cQ, dD, aY, bD, aL, fZ, aM, dA, eE, bB, cC, fK, dL, gC, fM, fG, fI, dS, aK, cH, cY, fY, fX, fH, dC, aV, dX, fU, cS, eT, fO, cD, bL, dR, aZ, dW, dQ, cM, eM, eK, bF, dF, bG, eD, dU, dZ, bN, cR, cN, dO, bS, cW, cV, fP, cB, eI, eP, gE, dY, dP, dM, dI, bH, bR, bW, bX, aU, cX, aW, e1]
    have o7 : lN w7 q (Tq (ns.set cc_ (G + 1))) := by
     have e : Tq (ns.set cc_ (G + 1)) = (Tq ns).set cc_ (.int .u32 ((G + 1 : Nat) : Int)) := by
      unfold Tq
      rw [aDS]
     rw [e]; exact o7
    refine ⟨l.length - (i + 1), by omega, i + 1, _, rfl, by omega, rfl, o7, by simp [hnl], fun n hn => ?_, x6.seq x7⟩
    rcases List.mem_or_eq_of_mem_set hn with h | h
    .have := hns n h; omega
    .omega
   .have d1 : decide ((i : Int) < (l.length : Int)) = false := decide_eq_false (by omega)
    unfold FR Gi
    simp (disch := omega) only [gI, jD, dJ, stepR_skip, hJ, iC, iM, iP, iL, iN, jJ, iX, gM, iE, iG, iI, iH, gY, iO, hZ, iF, iV, iW, iJ, gR, iT, iQ, iD, jV, jW, kF, kD, kC, kG, kA, kB, kE, gD, Result.ok.injEq, Next.value.injEq, true_and, and_true, gX, iA, iU, iR, iS, jF, aB0, gV, gU, gW, gT, gO, gJ, gP, gN, gB, fV, if_true, if_false, aBZ, aB4, aB1, aB2, aB5, aB3, aBY, aBX, fQ, fL, fE, fR, cU, eS, eF, dK, bP, fS, eY, aP, dB, aX, bQ, bM, aO, cO, cJ, eQ, aE, gS, aJ, cK, aT, bU, fT, cI, cF, aD, gA, fD, aN, aF, bO, gQ, aI, eX, dT, dV, gF, dE, fB, cZ, eH, fF, fC, cG, dG, gK, dN, bZ, aS, bV, bT, fN, aG, aH, aQ, bA, bE, cP, bK, aA, fA, aR, cL, fJ, eU, gG, bJ, eL, eN, bY, fW, eZ, eJ, dH, cQ, dD, aY, bD, aL, fZ, aM, dA, eE, bB, cC, fK, dL, gC, fM, fG, fI, dS, aK, cH, cY, fY, fX, fH, dC, aV, dX, fU, cS, eT, fO, cD, bL, dR, aZ, dW, dQ, cM, eM, eK, bF, dF, bG, eD, dU, dZ, bN, cR, cN, dO, bS, cW, cV, fP, cB, eI, eP, gE, dY, dP, dM, dI, bH, bR, bW, bX, aU, cX, aW, d1]
    have hsl : Sl w6 (.slice (some ⟨q, 0, none⟩) 256 256) (Tq ns) := ⟨_, _, _, rfl, by simp [hnl], aCb _, fun _ => ⟨q, 0, rfl, fun j hj => by rw [aB4, o6.cell]⟩⟩
    refine (aA6 hsl (fun n hn => by have := hns n hn; omega) (by omega)).mono ?_
    rintro r w7 ⟨ho, x7⟩
    have st7 := st4 (x36.seq x7)
    have x07 := x06.seq x7
    have z7 := x7.size
    have z6 := x36.size
    rcases ho with ⟨-, rfl⟩ | ⟨-, last, wv, wl, -, hlast, hwl, -, -, -, rfl, ow⟩
    .have n1 : ((1 : Int) == 0) = false := rfl
     simp (disch := omega) only [gI, jD, dJ, stepR_skip, hJ, iC, iM, iP, iL, iN, jJ, iX, gM, iE, iG, iI, iH, gY, iO, hZ, iF, iV, iW, iJ, gR, iT, iQ, iD, jV, jW, kF, kD, kC, kG, kA, kB, kE, gD, Result.ok.injEq, Next.value.injEq, true_and, and_true, gX, iA, iU, iR, iS, jF, aB0, gV, gU, gW, gT, gO, gJ, gP, gN, gB, fV, if_true, if_false, aBZ, aB4, aB1, aB2, aB5, aB3, aBY, aBX, fQ, fL, fE, fR, cU, eS, eF, dK, bP, fS, eY, aP, dB, aX, bQ, bM, aO, cO, cJ, eQ, aE, gS, aJ, cK, aT, bU, fT, cI, cF, aD, gA, fD, aN, aF, bO, gQ, aI, eX, dT, dV, gF, dE, fB, cZ, eH, fF, fC, cG, dG, gK, dN, bZ, aS, bV, bT, fN, aG, aH, aQ, bA, bE, cP, bK, aA, fA, aR, cL, fJ, eU, gG, bJ, eL, eN, bY, fW, eZ, eJ, dH, cQ, dD, aY, bD, aL, fZ, aM, dA, eE, bB, cC, fK, dL, gC, fM, fG, fI, dS, aK, cH, cY, fY, fX, fH, dC, aV, dX, fU, cS, eT, fO, cD, bL, dR, aZ, dW, dQ, cM, eM, eK, bF, dF, bG, eD, dU, dZ, bN, cR, cN, dO, bS, cW, cV, fP, cB, eI, eP, gE, dY, dP, dM, dI, bH, bR, bW, bX, aU, cX, aW, n1]
     exact fin w7 st7
    .have n1 : ((0 : Int) == 0) = true := rfl
     have hbw : Bs w7 wv (SH wl) := ow.sl
     obtain ⟨wa, wc_, rfl⟩ := ow.len
     simp (disch := omega) only [gI, jD, dJ, stepR_skip, hJ, iC, iM, iP, iL, iN, jJ, iX, gM, iE, iG, iI, iH, gY, iO, hZ, iF, iV, iW, iJ, gR, iT, iQ, iD, jV, jW, kF, kD, kC, kG, kA, kB, kE, gD, Result.ok.injEq, Next.value.injEq, true_and, and_true, gX, iA, iU, iR, iS, jF, aB0, gV, gU, gW, gT, gO, gJ, gP, gN, gB, fV, if_true, if_false, aBZ, aB4, aB1, aB2, aB5, aB3, aBY, aBX, fQ, fL, fE, fR, cU, eS, eF, dK, bP, fS, eY, aP, dB, aX, bQ, bM, aO, cO, cJ, eQ, aE, gS, aJ, cK, aT, bU, fT, cI, cF, aD, gA, fD, aN, aF, bO, gQ, aI, eX, dT, dV, gF, dE, fB, cZ, eH, fF, fC, cG, dG, gK, dN, bZ, aS, bV, bT, fN, aG, aH, aQ, bA, bE, cP, bK, aA, fA, aR, cL, fJ, eU, gG, bJ, eL, eN, bY, fW, eZ, eJ, dH, cQ, dD, aY, bD, aL, fZ, aM, dA, eE, bB, cC, fK, dL, gC, fM, fG, fI, dS, aK, cH, cY, fY, fX, fH, dC, aV, dX, fU, cS, eT, fO, cD, bL, dR, aZ, dW, dQ, cM, eM, eK, bF, dF, bG, eD, dU, dZ, bN, cR, cN, dO, bS, cW, cV, fP, cB, eI, eP, gE, dY, dP, dM, dI, bH, bR, bW, bX, aU, cX, aW, n1]
     refine (aoV (hv.ext x07 (kJ _)) hl hbw (by simp [SH]; omega)).mono ?_
     rintro r w8 ⟨hps, x8⟩
     have st8 := st4 ((x36.seq x7).seq x8)
     rcases hps with ⟨e, he, rfl⟩ | ⟨pv, bytes, rfl, op, hb1, hb2⟩
     .simp (disch := omega) only [gI, jD, dJ, stepR_skip, hJ, iC, iM, iP, iL, iN, jJ, iX, gM, iE, iG, iI, iH, gY, iO, hZ, iF, iV, iW, iJ, gR, iT, iQ, iD, jV, jW, kF, kD, kC, kG, kA, kB, kE, gD, Result.ok.injEq, Next.value.injEq, true_and, and_true, gX, iA, iU, iR, iS, jF, aB0, gV, gU, gW, gT, gO, gJ, gP, gN, gB, fV, if_true, if_false, aBZ, aB4, aB1, aB2, aB5, aB3, aBY, aBX, fQ, fL, fE, fR, cU, eS, eF, dK, bP, fS, eY, aP, dB, aX, bQ, bM, aO, cO, cJ, eQ, aE, gS, aJ, cK, aT, bU, fT, cI, cF, aD, gA, fD, aN, aF, bO, gQ, aI, eX, dT, dV, gF, dE, fB, cZ, eH, fF, fC, cG, dG, gK, dN, bZ, aS, bV, bT, fN, aG, aH, aQ, bA, bE, cP, bK, aA, fA, aR, cL, fJ, eU, gG, bJ, eL, eN, bY, fW, eZ, eJ, dH, cQ, dD, aY, bD, aL, fZ, aM, dA, eE, bB, cC, fK, dL, gC, fM, fG, fI, dS, aK, cH, cY, fY, fX, fH, dC, aV, dX, fU, cS, eT, fO, cD, bL, dR, aZ, dW, dQ, cM, eM, eK, bF, dF, bG, eD, dU, dZ, bN, cR, cN, dO, bS, cW, cV, fP, cB, eI, eP, gE, dY, dP, dM, dI, bH, bR, bW, bX, aU, cX, aW, q2, IP]
      refine (aoA he).mono ?_
      rintro r w9 ⟨rfl, hw⟩
      rw [hw]; clear hw w9
      exact fin w8 st8
     .have os8 := hosl x07 (by omega) op
      obtain ⟨a8, c8, rfl⟩ := op.len
      simp (disch := omega) only [gI, jD, dJ, stepR_skip, hJ, iC, iM, iP, iL, iN, jJ, iX, gM, iE, iG, iI, iH, gY, iO, hZ, iF, iV, iW, iJ, gR, iT, iQ, iD, jV, jW, kF, kD, kC, kG, kA, kB, kE, gD, Result.ok.injEq, Next.value.injEq, true_and, and_true, gX, iA, iU, iR, iS, jF, aB0, gV, gU, gW, gT, gO, gJ, gP, gN, gB, fV, if_true, if_false, aBZ, aB4, aB1, aB2, aB5, aB3, aBY, aBX, fQ, fL, fE, fR, cU, eS, eF, dK, bP, fS, eY, aP, dB, aX, bQ, bM, aO, cO, cJ, eQ, aE, gS, aJ, cK, aT, bU, fT, cI, cF, aD, gA, fD, aN, aF, bO, gQ, aI, eX, dT, dV, gF, dE, fB, cZ, eH, fF, fC, cG, dG, gK, dN, bZ, aS, bV, bT, fN, aG, aH, aQ, bA, bE, cP, bK, aA, fA, aR, cL, fJ, eU, gG, bJ, eL, eN, bY, fW, eZ, eJ, dH, cQ, dD, aY, bD, aL, fZ, aM, dA, eE, bB, cC, fK, dL, gC, fM, fG, fI, dS, aK, cH, cY, fY, fX, fH, dC, aV, dX, fU, cS, eT, fO, cD, bL, dR, aZ, dW, dQ, cM, eM, eK, bF, dF, bG, eD, dU, dZ, bN, cR, cN, dO, bS, cW, cV, fP, cB, eI, eP, gE, dY, dP, dM, dI, bH, bR, bW, bX, aU, cX, aW, q2, IP]
      refine bet w8 a8 c8 bytes _ st8 os8 hb1 (by omega) fun r W hW => ?_
      exact fin W hW
end Go.Proofs.YtoecppploooloaaGreatDoor
namespace Go.Proofs.YtoecppploooloaaGreatDoor
open Go Go.En
set_option maxRecDepth 4000
structure Fnd (w : aEl) (p mb ab : Nat) (bv : aEm) (B : List UInt8) (to tries : Nat) (es : List (RW 4 × aEm)) (A : List Int) : Prop where
 own : lN w p [bv, .int .i64 to, .map (some mb), .slice (some ⟨ab, 0, none⟩) to to, .int .i64 tries]
 bs : Bs w bv B
 map : Mp w mb WN es
 ah : lN w ab (A.map (Value.int .i64))
 len : A.length = to
 le : to <= B.length
 big : B.length <= 1099511627776
theorem Fnd.ext {w w' : aEl} {p mb ab : Nat} {bv : aEm} {B : List UInt8} {to tries : Nat} {es : List (RW 4 × aEm)} {A : List Int} {M : Nat -> Prop} (h : Fnd w p mb ab bv B to tries es A) (hx : jN w w' M)
 (h1 : ¬ M p) (h2 : ¬ M mb) (h3 : ¬ M ab) (h4 : ¬ MO bv M) : Fnd w' p mb ab bv B to tries es A :=
 ⟨h.own.ext hx h1, h.bs.ext hx h4, h.map.ext hx h2, h.ah.ext hx h3, h.len, h.le, h.big⟩
theorem Fnd.same {w w' : aEl} {p mb ab : Nat} {bv : aEm} {B : List UInt8} {to tries : Nat} {es : List (RW 4 × aEm)} {A : List Int} (h : Fnd w p mb ab bv B to tries es A) (hx : jN w w' mC) : Fnd w' p mb ab bv B to tries es A :=
 h.ext hx (fun h => h) (fun h => h) (fun h => h) (kJ _)
theorem Fnd.dr {w : aEl} {p mb ab : Nat} {bv : aEm} {B : List UInt8} {to tries : Nat} {es : List (RW 4 × aEm)} {A : List Int} (h : Fnd w p mb ab bv B to tries es A) : Fnd (dr w) p mb ab bv B to tries es A :=
 h.same (jN.dr _ _)
structure Lng (B : List UInt8) (to old at_ n : Nat) : Prop where
 le : at_ + n <= to ∨ n = 0
 most : n <= 131074
 same : ∀ j, j < n -> B[old + j]? = B[at_ + j]?
 full : n = 131074 ∨ to <= at_ + n ∨ B[old + n]? ≠ B[at_ + n]?
theorem azP {w : aEl} {p mb ab : Nat} {bv : aEm} {B : List UInt8} {to tries : Nat} {es : List (RW 4 × aEm)} {A : List Int} (hf : Fnd w p mb ab bv B to tries es A) (old at_ : Nat) (ho : old < at_) (ha : at_ <= to + 1) :
 jE pg xJ #[.pointer (some ⟨p, 0, none⟩), .int .i64 old, .int .i64 at_] w (fun r w' => ∃ n : Nat, r = .int .i64 n /\ Lng B to old at_ n /\ jN w w' mC) := by
 have hle := hf.le
 have hbig := hf.big
 refine P1 ?_
 simp (disch := omega) only [vO, Cn, Ca, BV, Cj, Cb, Mt, gI, jD, dJ, stepR_skip, hJ, iC, iM, iP, iL, iN, jJ, iX, gM, iE, iG, iI, iH, gY, iO, hZ, iF, iV, iW, iJ, gR, iT, iQ, iD, jV, jW, kF, kD, kC, kG, kA, kB, kE, gD, Result.ok.injEq, Next.value.injEq, true_and, and_true, gX, iA, iU, iR, iS, jF, aB0, gV, gU, gW, gT, gO, gJ, gP, gN, gB, fV, if_true, if_false, aBZ, aB4, aB1, aB2, aB5, aB3, aBY, aBX, fQ, fL, fE, fR, cU, eS, eF, dK, bP, fS, eY, aP, dB, aX, bQ, bM, aO, cO, cJ, eQ, aE, gS, aJ, cK, aT, bU, fT, cI, cF, aD, gA, fD, aN, aF, bO, gQ, aI, eX, dT, dV, gF, dE, fB, cZ, eH, fF, fC, cG, dG, gK, dN, bZ, aS, bV, bT, fN, aG, aH, aQ, bA, bE, cP, bK, aA, fA, aR, cL, fJ, eU, gG, bJ, eL, eN, bY, fW, eZ, eJ, dH, cQ, dD, aY, bD, aL, fZ, aM, dA, eE, bB, cC, fK, dL, gC, fM, fG, fI, dS, aK, cH, cY, fY, fX, fH, dC, aV, dX, fU, cS, eT, fO, cD, bL, dR, aZ, dW, dQ, cM, eM, eK, bF, dF, bG, eD, dU, dZ, bN, cR, cN, dO, bS, cW, cV, fP, cB, eI, eP, gE, dY, dP, dM, dI, bH, bR, bW, bX, aU, cX, aW]
 refine kP.rule (fun m t w' => ∃ n : Nat, m = 131074 - n /\ t = .int .i64 n /\ (at_ + n <= to ∨ n = 0) /\ n <= 131074 /\ (∀ j, j < n -> B[old + j]? = B[at_ + j]?) /\ jN w w' mC) 131074 ⟨0, rfl, rfl, .inr rfl, by omega, fun j h => by omega, jN.refl _ _⟩ ?_
 rintro m t w1 ⟨n, rfl, rfl, h1, h2, h3, hx⟩
 have hf := (hf.same hx).dr
 have c1 := hf.own.cell (off := 1)
 have c0 := hf.own.cell (off := 0)
 simp only [aBX, aBY] at c0 c1
 by_cases hlt : at_ + n < to
 .have d1 : decide ((at_ : Int) + (n : Int) < (to : Int)) = true := by simp; omega
  by_cases hm : n < 131074
  .have d2 : decide ((n : Int) < 131074) = true := by simp; omega
   obtain ⟨b, off, c, rfl, hc, hb⟩ := hf.bs.open (by omega)
   have e1 : ((old : Int) + (n : Int)).toNat = old + n := by omega
   have e2 : ((at_ : Int) + (n : Int)).toNat = at_ + n := by omega
   have g1 := hb (old + n) (by omega)
   have g2 := hb (at_ + n) (by omega)
   by_cases hq : B[old + n]'(by omega) = B[at_ + n]'(by omega)
   .have d3 : ((((B[old + n]'(by omega)).toNat : Int)) == (((B[at_ + n]'(by omega)).toNat : Nat) : Int)) = true := by rw [hq]; simp
    simp (disch := omega) only [pT, gI, jD, dJ, stepR_skip, hJ, iC, iM, iP, iL, iN, jJ, iX, gM, iE, iG, iI, iH, gY, iO, hZ, iF, iV, iW, iJ, gR, iT, iQ, iD, jV, jW, kF, kD, kC, kG, kA, kB, kE, gD, Result.ok.injEq, Next.value.injEq, true_and, and_true, gX, iA, iU, iR, iS, jF, aB0, gV, gU, gW, gT, gO, gJ, gP, gN, gB, fV, if_true, if_false, aBZ, aB4, aB1, aB2, aB5, aB3, aBY, aBX, fQ, fL, fE, fR, cU, eS, eF, dK, bP, fS, eY, aP, dB, aX, bQ, bM, aO, cO, cJ, eQ, aE, gS, aJ, cK, aT, bU, fT, cI, cF, aD, gA, fD, aN, aF, bO, gQ, aI, eX, dT, dV, gF, dE, fB, cZ, eH, fF, fC, cG, dG, gK, dN, bZ, aS, bV, bT, fN, aG, aH, aQ, bA, bE, cP, bK, aA, fA, aR, cL, fJ, eU, gG, bJ, eL, eN, bY, fW, eZ, eJ, dH, cQ, dD, aY, bD, aL, fZ, aM, dA, eE, bB, cC, fK, dL, gC, fM, fG, fI, dS, aK, cH, cY, fY, fX, fH, dC, aV, dX, fU, cS, eT, fO, cD, bL, dR, aZ, dW, dQ, cM, eM, eK, bF, dF, bG, eD, dU, dZ, bN, cR, cN, dO, bS, cW, cV, fP, cB, eI, eP, gE, dY, dP, dM, dI, bH, bR, bW, bX, aU, cX, aW, d1, d2, c0, c1, e1, e2, g1, g2, nT, d3]
    refine ⟨131074 - (n + 1), by omega, n + 1, rfl, rfl, .inl (by omega), by omega, fun j hj => ?_, hx.seq (jN.dr _ _)⟩
    by_cases hjn : j = n
    .subst hjn
     rw [aB8 (by omega), aB8 (by omega), hq]
    .exact h3 j (by omega)
   .have d3 : ((((B[old + n]'(by omega)).toNat : Int)) == (((B[at_ + n]'(by omega)).toNat : Nat) : Int)) = false := by
     rw [anC]; simpa using hq
    simp (disch := omega) only [pT, gI, jD, dJ, stepR_skip, hJ, iC, iM, iP, iL, iN, jJ, iX, gM, iE, iG, iI, iH, gY, iO, hZ, iF, iV, iW, iJ, gR, iT, iQ, iD, jV, jW, kF, kD, kC, kG, kA, kB, kE, gD, Result.ok.injEq, Next.value.injEq, true_and, and_true, gX, iA, iU, iR, iS, jF, aB0, gV, gU, gW, gT, gO, gJ, gP, gN, gB, fV, if_true, if_false, aBZ, aB4, aB1, aB2, aB5, aB3, aBY, aBX, fQ, fL, fE, fR, cU, eS, eF, dK, bP, fS, eY, aP, dB, aX, bQ, bM, aO, cO, cJ, eQ, aE, gS, aJ, cK, aT, bU, fT, cI, cF, aD, gA, fD, aN, aF, bO, gQ, aI, eX, dT, dV, gF, dE, fB, cZ, eH, fF, fC, cG, dG, gK, dN, bZ, aS, bV, bT, fN, aG, aH, aQ, bA, bE, cP, bK, aA, fA, aR, cL, fJ, eU, gG, bJ, eL, eN, bY, fW, eZ, eJ, dH, cQ, dD, aY, bD, aL, fZ, aM, dA, eE, bB, cC, fK, dL, gC, fM, fG, fI, dS, aK, cH, cY, fY, fX, fH, dC, aV, dX, fU, cS, eT, fO, cD, bL, dR, aZ, dW, dQ, cM, eM, eK, bF, dF, bG, eD, dU, dZ, bN, cR, cN, dO, bS, cW, cV, fP, cB, eI, eP, gE, dY, dP, dM, dI, bH, bR, bW, bX, aU, cX, aW, d1, d2, c0, c1, e1, e2, g1, g2, nT, d3]
    refine ⟨n, rfl, ⟨h1, h2, h3, .inr (.inr ?_)⟩, hx.seq (jN.dr _ _)⟩
    rw [aB8 (by omega), aB8 (by omega)]
    exact fun h => hq (aCF h)
  .have d2 : decide ((n : Int) < 131074) = false := by simp; omega
   simp (disch := omega) only [pT, gI, jD, dJ, stepR_skip, hJ, iC, iM, iP, iL, iN, jJ, iX, gM, iE, iG, iI, iH, gY, iO, hZ, iF, iV, iW, iJ, gR, iT, iQ, iD, jV, jW, kF, kD, kC, kG, kA, kB, kE, gD, Result.ok.injEq, Next.value.injEq, true_and, and_true, gX, iA, iU, iR, iS, jF, aB0, gV, gU, gW, gT, gO, gJ, gP, gN, gB, fV, if_true, if_false, aBZ, aB4, aB1, aB2, aB5, aB3, aBY, aBX, fQ, fL, fE, fR, cU, eS, eF, dK, bP, fS, eY, aP, dB, aX, bQ, bM, aO, cO, cJ, eQ, aE, gS, aJ, cK, aT, bU, fT, cI, cF, aD, gA, fD, aN, aF, bO, gQ, aI, eX, dT, dV, gF, dE, fB, cZ, eH, fF, fC, cG, dG, gK, dN, bZ, aS, bV, bT, fN, aG, aH, aQ, bA, bE, cP, bK, aA, fA, aR, cL, fJ, eU, gG, bJ, eL, eN, bY, fW, eZ, eJ, dH, cQ, dD, aY, bD, aL, fZ, aM, dA, eE, bB, cC, fK, dL, gC, fM, fG, fI, dS, aK, cH, cY, fY, fX, fH, dC, aV, dX, fU, cS, eT, fO, cD, bL, dR, aZ, dW, dQ, cM, eM, eK, bF, dF, bG, eD, dU, dZ, bN, cR, cN, dO, bS, cW, cV, fP, cB, eI, eP, gE, dY, dP, dM, dI, bH, bR, bW, bX, aU, cX, aW, d1, d2, c0, c1]
   exact ⟨n, rfl, ⟨h1, h2, h3, .inl (by omega)⟩, hx.seq (jN.dr _ _)⟩
 .have d1 : decide ((at_ : Int) + (n : Int) < (to : Int)) = false := by simp; omega
  simp (disch := omega) only [pT, gI, jD, dJ, stepR_skip, hJ, iC, iM, iP, iL, iN, jJ, iX, gM, iE, iG, iI, iH, gY, iO, hZ, iF, iV, iW, iJ, gR, iT, iQ, iD, jV, jW, kF, kD, kC, kG, kA, kB, kE, gD, Result.ok.injEq, Next.value.injEq, true_and, and_true, gX, iA, iU, iR, iS, jF, aB0, gV, gU, gW, gT, gO, gJ, gP, gN, gB, fV, if_true, if_false, aBZ, aB4, aB1, aB2, aB5, aB3, aBY, aBX, fQ, fL, fE, fR, cU, eS, eF, dK, bP, fS, eY, aP, dB, aX, bQ, bM, aO, cO, cJ, eQ, aE, gS, aJ, cK, aT, bU, fT, cI, cF, aD, gA, fD, aN, aF, bO, gQ, aI, eX, dT, dV, gF, dE, fB, cZ, eH, fF, fC, cG, dG, gK, dN, bZ, aS, bV, bT, fN, aG, aH, aQ, bA, bE, cP, bK, aA, fA, aR, cL, fJ, eU, gG, bJ, eL, eN, bY, fW, eZ, eJ, dH, cQ, dD, aY, bD, aL, fZ, aM, dA, eE, bB, cC, fK, dL, gC, fM, fG, fI, dS, aK, cH, cY, fY, fX, fH, dC, aV, dX, fU, cS, eT, fO, cD, bL, dR, aZ, dW, dQ, cM, eM, eK, bF, dF, bG, eD, dU, dZ, bN, cR, cN, dO, bS, cW, cV, fP, cB, eI, eP, gE, dY, dP, dM, dI, bH, bR, bW, bX, aU, cX, aW, d1, c0, c1]
  exact ⟨n, rfl, ⟨h1, h2, h3, .inr (.inl (by omega))⟩, hx.seq (jN.dr _ _)⟩
theorem Lng.le_of {B : List UInt8} {to old at_ m n : Nat} (h : Lng B to old at_ m) (k : Lng B to old at_ n) : m <= n := by
 rcases aCk n m with hlt | hge
 .exfalso
  have h1 := h.le
  have h2 := h.most
  rcases k.full with f | f | f
  .omega
  .omega
  .exact f (h.same n hlt)
 .exact hge
def tK (B : List UInt8) (at_ : Nat) : RW 4 := if h : at_ + 4 <= B.length then ⟨(B.drop at_).take 4, by simp; omega⟩ else ⟨[0, 0, 0, 0], rfl⟩
theorem amN {w : aEl} {p mb ab : Nat} {bv : aEm} {B : List UInt8} {to tries : Nat} {es : List (RW 4 × aEm)} {A : List Int} (hf : Fnd w p mb ab bv B to tries es A) (at_ : Nat) (ha : at_ <= B.length) :
 jE pg sM #[.pointer (some ⟨p, 0, none⟩), .int .i64 at_] w (fun r w' => r = .tuple #[WN (tK B at_), .bool (decide (at_ + 4 <= B.length))] /\ jN w w' mC) := by
 have hbig := hf.big
 refine Py ?_
 simp (disch := omega) only [Bp, KY, gI, jD, dJ, stepR_skip, hJ, iC, iM, iP, iL, iN, jJ, iX, gM, iE, iG, iI, iH, gY, iO, hZ, iF, iV, iW, iJ, gR, iT, iQ, iD, jV, jW, kF, kD, kC, kG, kA, kB, kE, gD, Result.ok.injEq, Next.value.injEq, true_and, and_true, gX, iA, iU, iR, iS, jF, aB0, gV, gU, gW, gT, gO, gJ, gP, gN, gB, fV, if_true, if_false, aBZ, aB4, aB1, aB2, aB5, aB3, aBY, aBX, fQ, fL, fE, fR, cU, eS, eF, dK, bP, fS, eY, aP, dB, aX, bQ, bM, aO, cO, cJ, eQ, aE, gS, aJ, cK, aT, bU, fT, cI, cF, aD, gA, fD, aN, aF, bO, gQ, aI, eX, dT, dV, gF, dE, fB, cZ, eH, fF, fC, cG, dG, gK, dN, bZ, aS, bV, bT, fN, aG, aH, aQ, bA, bE, cP, bK, aA, fA, aR, cL, fJ, eU, gG, bJ, eL, eN, bY, fW, eZ, eJ, dH, cQ, dD, aY, bD, aL, fZ, aM, dA, eE, bB, cC, fK, dL, gC, fM, fG, fI, dS, aK, cH, cY, fY, fX, fH, dC, aV, dX, fU, cS, eT, fO, cD, bL, dR, aZ, dW, dQ, cM, eM, eK, bF, dF, bG, eD, dU, dZ, bN, cR, cN, dO, bS, cW, cV, fP, cB, eI, eP, gE, dY, dP, dM, dI, bH, bR, bW, bX, aU, cX, aW]
 refine Qa fun w1 o1 x1 s1 => ?_
 have hf := hf.same x1
 have c0 := hf.own.cell (off := 0)
 simp only [aBX] at c0
 obtain ⟨a, c, hv, hc⟩ := hf.bs.len
 simp only [aB6] at hv hc
 subst hv
 by_cases h4 : at_ + 4 <= B.length
 .have d : decide ((B.length : Int) < (at_ : Int) + 4) = false := by simp; omega
  obtain ⟨b, off, c', e, hc, hb⟩ := hf.bs.open (by omega)
  cases e
  have e1 : ((at_ : Int) + 4).toNat = at_ + 4 := by omega
  have e2 : at_ + 4 - at_ = 4 := by omega
  have sh := QH (b := b) (o := off) (m := c) (l := at_) (by omega)
  have l1 := acO (w := w1) (b := b) (off := off + at_) (l := ((B.drop at_).take 4).map nT) (by simp; omega) (fun j hj => by
   have hj : j < 4 := by simp at hj; omega
   rw [aDr, hb (at_ + j) (by omega), aCp, aCN hj, aDI, aB8 (by omega)] <;> rfl)
  simp (disch := omega) only [gI, jD, dJ, stepR_skip, hJ, iC, iM, iP, iL, iN, jJ, iX, gM, iE, iG, iI, iH, gY, iO, hZ, iF, iV, iW, iJ, gR, iT, iQ, iD, jV, jW, kF, kD, kC, kG, kA, kB, kE, gD, Result.ok.injEq, Next.value.injEq, true_and, and_true, gX, iA, iU, iR, iS, jF, aB0, gV, gU, gW, gT, gO, gJ, gP, gN, gB, fV, if_true, if_false, aBZ, aB4, aB1, aB2, aB5, aB3, aBY, aBX, fQ, fL, fE, fR, cU, eS, eF, dK, bP, fS, eY, aP, dB, aX, bQ, bM, aO, cO, cJ, eQ, aE, gS, aJ, cK, aT, bU, fT, cI, cF, aD, gA, fD, aN, aF, bO, gQ, aI, eX, dT, dV, gF, dE, fB, cZ, eH, fF, fC, cG, dG, gK, dN, bZ, aS, bV, bT, fN, aG, aH, aQ, bA, bE, cP, bK, aA, fA, aR, cL, fJ, eU, gG, bJ, eL, eN, bY, fW, eZ, eJ, dH, cQ, dD, aY, bD, aL, fZ, aM, dA, eE, bB, cC, fK, dL, gC, fM, fG, fI, dS, aK, cH, cY, fY, fX, fH, dC, aV, dX, fU, cS, eT, fO, cD, bL, dR, aZ, dW, dQ, cM, eM, eK, bF, dF, bG, eD, dU, dZ, bN, cR, cN, dO, bS, cW, cV, fP, cB, eI, eP, gE, dY, dP, dM, dI, bH, bR, bW, bX, aU, cX, aW, c0, d, e1, e2, sh, l1]
  refine II o1 (by simp; omega) (FT _) (by simp) fun w2 o2 x2 s2 => ?_
  refine U5 o2 (by simp [U9]) ⟨?_, x1.new x2 (aCb _)⟩
  rw [decide_eq_true h4]
  unfold WN tK
  rw [dif_pos h4]
  have : ∀ l : List aEm, l.length = 4 -> ((kW [.int .u8 0, .int .u8 0, .int .u8 0, .int .u8 0] 0 l).drop 0).take 4 = l := by
   intro l hl
   match l, hl with
   | [a, b, c, d], _ => rfl
  simp only [this _ (show (((B.drop at_).take 4).map nT).length = 4 by simp; omega)]
 .have d : decide ((B.length : Int) < (at_ : Int) + 4) = true := by simp; omega
  simp (disch := omega) only [gI, jD, dJ, stepR_skip, hJ, iC, iM, iP, iL, iN, jJ, iX, gM, iE, iG, iI, iH, gY, iO, hZ, iF, iV, iW, iJ, gR, iT, iQ, iD, jV, jW, kF, kD, kC, kG, kA, kB, kE, gD, Result.ok.injEq, Next.value.injEq, true_and, and_true, gX, iA, iU, iR, iS, jF, aB0, gV, gU, gW, gT, gO, gJ, gP, gN, gB, fV, if_true, if_false, aBZ, aB4, aB1, aB2, aB5, aB3, aBY, aBX, fQ, fL, fE, fR, cU, eS, eF, dK, bP, fS, eY, aP, dB, aX, bQ, bM, aO, cO, cJ, eQ, aE, gS, aJ, cK, aT, bU, fT, cI, cF, aD, gA, fD, aN, aF, bO, gQ, aI, eX, dT, dV, gF, dE, fB, cZ, eH, fF, fC, cG, dG, gK, dN, bZ, aS, bV, bT, fN, aG, aH, aQ, bA, bE, cP, bK, aA, fA, aR, cL, fJ, eU, gG, bJ, eL, eN, bY, fW, eZ, eJ, dH, cQ, dD, aY, bD, aL, fZ, aM, dA, eE, bB, cC, fK, dL, gC, fM, fG, fI, dS, aK, cH, cY, fY, fX, fH, dC, aV, dX, fU, cS, eT, fO, cD, bL, dR, aZ, dW, dQ, cM, eM, eK, bF, dF, bG, eD, dU, dZ, bN, cR, cN, dO, bS, cW, cV, fP, cB, eI, eP, gE, dY, dP, dM, dI, bH, bR, bW, bX, aU, cX, aW, c0, d]
  refine II o1 rfl (by simp [one]) (by simp) fun w2 o2 x2 s2 => ?_
  refine U5 o2 (by simp [U9]) ⟨?_, x1.new x2 (aCb _)⟩
  rw [decide_eq_false h4]
  unfold WN tK
  rw [dif_neg h4]
  rfl
structure Kept (n : Nat) (es : List (RW 4 × aEm)) (A : List Int) : Prop where
 es : ∀ q ∈ es, ∃ x : Nat, q.2 = .int .i64 x /\ x < n
 ah : ∀ i (h : i < A.length), -1 <= A[i] /\ A[i] <= i
theorem Kept.mono {n m : Nat} {es : List (RW 4 × aEm)} {A : List Int} (h : Kept n es A) (hm : n <= m) : Kept m es A :=
 ⟨fun q hq => let ⟨x, e, hx⟩ := h.es q hq; ⟨x, e, by omega⟩, h.ah⟩
theorem Kept.assoc {n : Nat} {es : List (RW 4 × aEm)} {A : List Int} (h : Kept n es A) {k : RW 4} {v : aEm} (he : En.assoc k es = some v) : ∃ x : Nat, v = .int .i64 x /\ x < n := h.es _ (apD he)
theorem Kept.set {n i : Nat} {es : List (RW 4 × aEm)} {A : List Int} (h : Kept n es A) {x : Int} (h0 : -1 <= x) (h1 : x <= i) : Kept n es (A.set i x) :=
 ⟨h.es, fun j hj => by
   rw [List.getElem_set]
   split
   .rename_i e; subst e; exact ⟨h0, h1⟩
   .exact h.ah j _⟩
def noted (B : List UInt8) (at_ : Nat) (es : List (RW 4 × aEm)) : List (RW 4 × aEm) := if at_ + 4 <= B.length then upd (tK B at_) (.int .i64 at_) es else es
theorem Kept.noted {at_ : Nat} {B : List UInt8} {es : List (RW 4 × aEm)} {A : List Int} (h : Kept (at_ + 1) es A) : Kept (at_ + 1) (noted B at_ es) A := by
 refine ⟨fun q hq => ?_, h.ah⟩
 unfold Go.Proofs.YtoecppploooloaaGreatDoor.noted at hq
 split at hq
 .rcases amQ hq with rfl | hq
  .exact ⟨at_, rfl, by omega⟩
  .exact h.es q hq
 .exact h.es q hq
theorem aeF {w w' : aEl} {p mb ab : Nat} {bv : aEm} {B : List UInt8} {to tries at_ : Nat} {es : List (RW 4 × aEm)} {A : List Int} (hf : Fnd w' p mb ab bv B to tries es A) (hk : Kept (at_ + 1) es A)
 (hd : p ≠ mb /\ p ≠ ab /\ mb ≠ ab) (hb : ¬ MO bv fun b => b = mb ∨ b = ab) {kb : Nat} (hkb : lN w' kb ((tK B at_).1.map nT)) (hx : jN w w' fun b => b = mb ∨ b = ab)
 {R : aEl -> Prop} (hR : ∀ w' A', Fnd w' p mb ab bv B to tries (noted B at_ es) A' -> Kept (at_ + 1) (noted B at_ es) A' -> jN w w' (fun b => b = mb ∨ b = ab) -> R w') :
 pZ R (.pointer (some ⟨p, 0, none⟩)) (.int .i64 at_) (.pointer (some ⟨kb, 0, none⟩)) (.bool (decide (at_ + 4 <= B.length))) w' := by
 have hkept := hk.noted (B := B)
 have hn : noted B at_ es = if at_ + 4 <= B.length then upd (tK B at_) (.int .i64 at_) es else es := rfl
 by_cases h4 : at_ + 4 <= B.length
 .rw [decide_eq_true h4]
  rw [if_pos h4] at hn
  rw [hn] at hR hkept
  have hf := hf.dr
  have hkb := nP hkb
  have c2 := hf.own.cell (off := 2)
  simp only [aBX, aBY] at c2
  have hlen := (tK B at_).2
  have l1 := ND (off := 0) hkb (by simp [hlen])
  have l2 : (((tK B at_).1.map nT).drop 0).take 4 = (tK B at_).1.map nT := by rw [aCs, aCg (by simp [hlen])]
  rw [l2] at l1
  simp (disch := omega) only [pZ, sQ, sU, Bw, gI, jD, dJ, stepR_skip, hJ, iC, iM, iP, iL, iN, jJ, iX, gM, iE, iG, iI, iH, gY, iO, hZ, iF, iV, iW, iJ, gR, iT, iQ, iD, jV, jW, kF, kD, kC, kG, kA, kB, kE, gD, Result.ok.injEq, Next.value.injEq, true_and, and_true, gX, iA, iU, iR, iS, jF, aB0, gV, gU, gW, gT, gO, gJ, gP, gN, gB, fV, if_true, if_false, aBZ, aB4, aB1, aB2, aB5, aB3, aBY, aBX, fQ, fL, fE, fR, cU, eS, eF, dK, bP, fS, eY, aP, dB, aX, bQ, bM, aO, cO, cJ, eQ, aE, gS, aJ, cK, aT, bU, fT, cI, cF, aD, gA, fD, aN, aF, bO, gQ, aI, eX, dT, dV, gF, dE, fB, cZ, eH, fF, fC, cG, dG, gK, dN, bZ, aS, bV, bT, fN, aG, aH, aQ, bA, bE, cP, bK, aA, fA, aR, cL, fJ, eU, gG, bJ, eL, eN, bY, fW, eZ, eJ, dH, cQ, dD, aY, bD, aL, fZ, aM, dA, eE, bB, cC, fK, dL, gC, fM, fG, fI, dS, aK, cH, cY, fY, fX, fH, dC, aV, dX, fU, cS, eT, fO, cD, bL, dR, aZ, dW, dQ, cM, eM, eK, bF, dF, bG, eD, dU, dZ, bN, cR, cN, dO, bS, cW, cV, fP, cB, eI, eP, gE, dY, dP, dM, dI, bH, bR, bW, bX, aU, cX, aW, c2, l1]
  refine SF hf.map (tK B at_) _ fun w2 m2 x2 s2 => ?_
  refine hR w2 A ⟨hf.own.ext x2 hd.1, hf.bs.ext x2 (fun h => hb (DC h fun _ => .inl)), m2, hf.ah.ext x2 (fun e => hd.2.2 e.symm), hf.len, hf.le, hf.big⟩ hkept ?_
  exact (hx.seq (jN.dr _ _)).seq (x2.mono fun b _ h => .inl h)
 .rw [decide_eq_false h4]
  rw [if_neg h4] at hn
  rw [hn] at hR hkept
  simp (disch := omega) only [pZ, sQ, sU, Bw, gI, jD, dJ, stepR_skip, hJ, iC, iM, iP, iL, iN, jJ, iX, gM, iE, iG, iI, iH, gY, iO, hZ, iF, iV, iW, iJ, gR, iT, iQ, iD, jV, jW, kF, kD, kC, kG, kA, kB, kE, gD, Result.ok.injEq, Next.value.injEq, true_and, and_true, gX, iA, iU, iR, iS, jF, aB0, gV, gU, gW, gT, gO, gJ, gP, gN, gB, fV, if_true, if_false, aBZ, aB4, aB1, aB2, aB5, aB3, aBY, aBX, fQ, fL, fE, fR, cU, eS, eF, dK, bP, fS, eY, aP, dB, aX, bQ, bM, aO, cO, cJ, eQ, aE, gS, aJ, cK, aT, bU, fT, cI, cF, aD, gA, fD, aN, aF, bO, gQ, aI, eX, dT, dV, gF, dE, fB, cZ, eH, fF, fC, cG, dG, gK, dN, bZ, aS, bV, bT, fN, aG, aH, aQ, bA, bE, cP, bK, aA, fA, aR, cL, fJ, eU, gG, bJ, eL, eN, bY, fW, eZ, eJ, dH, cQ, dD, aY, bD, aL, fZ, aM, dA, eE, bB, cC, fK, dL, gC, fM, fG, fI, dS, aK, cH, cY, fY, fX, fH, dC, aV, dX, fU, cS, eT, fO, cD, bL, dR, aZ, dW, dQ, cM, eM, eK, bF, dF, bG, eD, dU, dZ, bN, cR, cN, dO, bS, cW, cV, fP, cB, eI, eP, gE, dY, dP, dM, dI, bH, bR, bW, bX, aU, cX, aW]
  exact hR _ A hf hkept hx
theorem azH {w : aEl} {p mb ab : Nat} {bv : aEm} {B : List UInt8} {to tries at_ : Nat} {es : List (RW 4 × aEm)} {A : List Int} (hf : Fnd w p mb ab bv B to tries es A) (hk : Kept (at_ + 1) es A)
 (hd : p ≠ mb /\ p ≠ ab /\ mb ≠ ab) (hb : ¬ MO bv fun b => b = mb ∨ b = ab) (ha : at_ < to) :
 jE pg pH #[.pointer (some ⟨p, 0, none⟩), .int .i64 at_] w (fun _ w' => ∃ A', Fnd w' p mb ab bv B to tries (noted B at_ es) A' /\ Kept (at_ + 1) (noted B at_ es) A' /\ jN w w' (fun b => b = mb ∨ b = ab)) := by
 have hle := hf.le
 have hbig := hf.big
 refine QM ?_
 unfold Bw sU sQ
 refine (amN hf at_ (by omega)).mono ?_
 rintro r w1 ⟨rfl, x1⟩
 have hf := hf.same x1
 have hlen := (tK B at_).2
 simp (disch := omega) only [gI, jD, dJ, stepR_skip, hJ, iC, iM, iP, iL, iN, jJ, iX, gM, iE, iG, iI, iH, gY, iO, hZ, iF, iV, iW, iJ, gR, iT, iQ, iD, jV, jW, kF, kD, kC, kG, kA, kB, kE, gD, Result.ok.injEq, Next.value.injEq, true_and, and_true, gX, iA, iU, iR, iS, jF, aB0, gV, gU, gW, gT, gO, gJ, gP, gN, gB, fV, if_true, if_false, aBZ, aB4, aB1, aB2, aB5, aB3, aBY, aBX, fQ, fL, fE, fR, cU, eS, eF, dK, bP, fS, eY, aP, dB, aX, bQ, bM, aO, cO, cJ, eQ, aE, gS, aJ, cK, aT, bU, fT, cI, cF, aD, gA, fD, aN, aF, bO, gQ, aI, eX, dT, dV, gF, dE, fB, cZ, eH, fF, fC, cG, dG, gK, dN, bZ, aS, bV, bT, fN, aG, aH, aQ, bA, bE, cP, bK, aA, fA, aR, cL, fJ, eU, gG, bJ, eL, eN, bY, fW, eZ, eJ, dH, cQ, dD, aY, bD, aL, fZ, aM, dA, eE, bB, cC, fK, dL, gC, fM, fG, fI, dS, aK, cH, cY, fY, fX, fH, dC, aV, dX, fU, cS, eT, fO, cD, bL, dR, aZ, dW, dQ, cM, eM, eK, bF, dF, bG, eD, dU, dZ, bN, cR, cN, dO, bS, cW, cV, fP, cB, eI, eP, gE, dY, dP, dM, dI, bH, bR, bW, bX, aU, cX, aW]
 refine Qa fun w2 o2 x2 s2 => ?_
 have hp1 := hf.own.lt
 have hm1 := hf.map.lt
 have ha1 := hf.ah.lt
 refine II o2 (by simp [hlen]) (FT _) (by simp) fun w3 o3 x3 s3 => ?_
 have e3 : kW [.int .u8 0, .int .u8 0, .int .u8 0, .int .u8 0] 0 ((tK B at_).1.map nT) = (tK B at_).1.map nT := by
  generalize (tK B at_).1.map nT = l, (show ((tK B at_).1.map nT).length = 4 by simp [hlen]) = hl
  match l, hl with
  | [a, b, c, d], _ => rfl
 simp only [List.toList_toArray] at o3
 rw [e3] at o3
 have x13 : jN w1 w3 mC := (jN.refl _ _).seq (x2.new x3 (aCb _))
 have hf3 := (hf.same x13).dr
 have hkb := nP o3
 have c2 := hf3.own.cell (off := 2)
 have c3 := hf3.own.cell (off := 3)
 simp only [aBX, aBY] at c2 c3
 have l1 := ND (off := 0) hkb (by simp [hlen])
 have l2 : (((tK B at_).1.map nT).drop 0).take 4 = (tK B at_).1.map nT := by rw [aCs, aCg (by simp [hlen])]
 rw [l2] at l1
 have l3 := I6 hf3.map (tK B at_)
 unfold WN at l3
 have hx0 : jN w (dr w3) (fun b => b = mb ∨ b = ab) := ((x1.seq x13).seq (jN.dr _ _)).mono fun _ _ h => h.elim
 have hnew : ∀ x : Int, -1 <= x -> x <= at_ -> gI pg (jQ 3 (.pointer (some ⟨ab, at_, none⟩)) (.int .i64 x)) (dr w3) fun _ w' =>
     pZ (fun w' => ∃ A', Fnd w' p mb ab bv B to tries (noted B at_ es) A' /\ Kept (at_ + 1) (noted B at_ es) A' /\ jN w w' (fun b => b = mb ∨ b = ab)) (.pointer (some ⟨p, 0, none⟩)) (.int .i64 at_) (.pointer (some ⟨w1.heap.size, 0, none⟩)) (.bool (decide (at_ + 4 <= B.length))) w' := by
  intro x h0 h1
  refine LC hf3.ah rfl (by simp [hf3.len]; omega) fun w4 o4 x4 s4 => ?_
  rw [<- aDS] at o4
  have hab : ¬ w1.heap.size = ab := by omega
  refine aeF (w := w) ⟨hf3.own.ext x4 hd.2.1, hf3.bs.ext x4 (fun h => hb (DC h fun _ => .inr)), hf3.map.ext x4 hd.2.2, o4, by simp [hf3.len], hf3.le, hf3.big⟩ (hk.set h0 h1) hd hb (hkb.ext x4 hab) (hx0.seq (x4.mono fun b _ h => .inr h)) fun w' A' a b c => ⟨A', a, b, c⟩
 by_cases h4 : at_ + 4 <= B.length
 .rw [decide_eq_true h4] at hnew ⊢
  cases ha : En.assoc (tK B at_) es with
  | none =>
    rw [ha] at l3
    simp only [Option.getD_none, Option.isSome_none] at l3
    simp (disch := omega) only [gI, jD, dJ, stepR_skip, hJ, iC, iM, iP, iL, iN, jJ, iX, gM, iE, iG, iI, iH, gY, iO, hZ, iF, iV, iW, iJ, gR, iT, iQ, iD, jV, jW, kF, kD, kC, kG, kA, kB, kE, gD, Result.ok.injEq, Next.value.injEq, true_and, and_true, gX, iA, iU, iR, iS, jF, aB0, gV, gU, gW, gT, gO, gJ, gP, gN, gB, fV, if_true, if_false, aBZ, aB4, aB1, aB2, aB5, aB3, aBY, aBX, fQ, fL, fE, fR, cU, eS, eF, dK, bP, fS, eY, aP, dB, aX, bQ, bM, aO, cO, cJ, eQ, aE, gS, aJ, cK, aT, bU, fT, cI, cF, aD, gA, fD, aN, aF, bO, gQ, aI, eX, dT, dV, gF, dE, fB, cZ, eH, fF, fC, cG, dG, gK, dN, bZ, aS, bV, bT, fN, aG, aH, aQ, bA, bE, cP, bK, aA, fA, aR, cL, fJ, eU, gG, bJ, eL, eN, bY, fW, eZ, eJ, dH, cQ, dD, aY, bD, aL, fZ, aM, dA, eE, bB, cC, fK, dL, gC, fM, fG, fI, dS, aK, cH, cY, fY, fX, fH, dC, aV, dX, fU, cS, eT, fO, cD, bL, dR, aZ, dW, dQ, cM, eM, eK, bF, dF, bG, eD, dU, dZ, bN, cR, cN, dO, bS, cW, cV, fP, cB, eI, eP, gE, dY, dP, dM, dI, bH, bR, bW, bX, aU, cX, aW, c2, c3, l1, l3]
    exact hnew _ (by omega) (by omega)
  | some v =>
    obtain ⟨x, rfl, hx⟩ := hk.assoc ha
    rw [ha] at l3
    simp only [aDu, Option.isSome_some] at l3
    by_cases hxa : x < at_
    .have d : decide ((x : Int) < (at_ : Int)) = true := by simp; omega
     simp (disch := omega) only [gI, jD, dJ, stepR_skip, hJ, iC, iM, iP, iL, iN, jJ, iX, gM, iE, iG, iI, iH, gY, iO, hZ, iF, iV, iW, iJ, gR, iT, iQ, iD, jV, jW, kF, kD, kC, kG, kA, kB, kE, gD, Result.ok.injEq, Next.value.injEq, true_and, and_true, gX, iA, iU, iR, iS, jF, aB0, gV, gU, gW, gT, gO, gJ, gP, gN, gB, fV, if_true, if_false, aBZ, aB4, aB1, aB2, aB5, aB3, aBY, aBX, fQ, fL, fE, fR, cU, eS, eF, dK, bP, fS, eY, aP, dB, aX, bQ, bM, aO, cO, cJ, eQ, aE, gS, aJ, cK, aT, bU, fT, cI, cF, aD, gA, fD, aN, aF, bO, gQ, aI, eX, dT, dV, gF, dE, fB, cZ, eH, fF, fC, cG, dG, gK, dN, bZ, aS, bV, bT, fN, aG, aH, aQ, bA, bE, cP, bK, aA, fA, aR, cL, fJ, eU, gG, bJ, eL, eN, bY, fW, eZ, eJ, dH, cQ, dD, aY, bD, aL, fZ, aM, dA, eE, bB, cC, fK, dL, gC, fM, fG, fI, dS, aK, cH, cY, fY, fX, fH, dC, aV, dX, fU, cS, eT, fO, cD, bL, dR, aZ, dW, dQ, cM, eM, eK, bF, dF, bG, eD, dU, dZ, bN, cR, cN, dO, bS, cW, cV, fP, cB, eI, eP, gE, dY, dP, dM, dI, bH, bR, bW, bX, aU, cX, aW, c2, c3, l1, l3, d]
     exact hnew _ (by omega) (by omega)
    .have d : decide ((x : Int) < (at_ : Int)) = false := by simp; omega
     simp (disch := omega) only [gI, jD, dJ, stepR_skip, hJ, iC, iM, iP, iL, iN, jJ, iX, gM, iE, iG, iI, iH, gY, iO, hZ, iF, iV, iW, iJ, gR, iT, iQ, iD, jV, jW, kF, kD, kC, kG, kA, kB, kE, gD, Result.ok.injEq, Next.value.injEq, true_and, and_true, gX, iA, iU, iR, iS, jF, aB0, gV, gU, gW, gT, gO, gJ, gP, gN, gB, fV, if_true, if_false, aBZ, aB4, aB1, aB2, aB5, aB3, aBY, aBX, fQ, fL, fE, fR, cU, eS, eF, dK, bP, fS, eY, aP, dB, aX, bQ, bM, aO, cO, cJ, eQ, aE, gS, aJ, cK, aT, bU, fT, cI, cF, aD, gA, fD, aN, aF, bO, gQ, aI, eX, dT, dV, gF, dE, fB, cZ, eH, fF, fC, cG, dG, gK, dN, bZ, aS, bV, bT, fN, aG, aH, aQ, bA, bE, cP, bK, aA, fA, aR, cL, fJ, eU, gG, bJ, eL, eN, bY, fW, eZ, eJ, dH, cQ, dD, aY, bD, aL, fZ, aM, dA, eE, bB, cC, fK, dL, gC, fM, fG, fI, dS, aK, cH, cY, fY, fX, fH, dC, aV, dX, fU, cS, eT, fO, cD, bL, dR, aZ, dW, dQ, cM, eM, eK, bF, dF, bG, eD, dU, dZ, bN, cR, cN, dO, bS, cW, cV, fP, cB, eI, eP, gE, dY, dP, dM, dI, bH, bR, bW, bX, aU, cX, aW, c2, c3, l1, l3, d]
     have := aeF (w := w) hf3 hk hd hb hkb hx0 (R := fun w' => ∃ A', Fnd w' p mb ab bv B to tries (noted B at_ es) A' /\ Kept (at_ + 1) (noted B at_ es) A' /\ jN w w' (fun b => b = mb ∨ b = ab)) fun w' A' a b c => ⟨A', a, b, c⟩
     rwa [decide_eq_true h4] at this
 .rw [decide_eq_false h4] at hnew ⊢
  simp (disch := omega) only [gI, jD, dJ, stepR_skip, hJ, iC, iM, iP, iL, iN, jJ, iX, gM, iE, iG, iI, iH, gY, iO, hZ, iF, iV, iW, iJ, gR, iT, iQ, iD, jV, jW, kF, kD, kC, kG, kA, kB, kE, gD, Result.ok.injEq, Next.value.injEq, true_and, and_true, gX, iA, iU, iR, iS, jF, aB0, gV, gU, gW, gT, gO, gJ, gP, gN, gB, fV, if_true, if_false, aBZ, aB4, aB1, aB2, aB5, aB3, aBY, aBX, fQ, fL, fE, fR, cU, eS, eF, dK, bP, fS, eY, aP, dB, aX, bQ, bM, aO, cO, cJ, eQ, aE, gS, aJ, cK, aT, bU, fT, cI, cF, aD, gA, fD, aN, aF, bO, gQ, aI, eX, dT, dV, gF, dE, fB, cZ, eH, fF, fC, cG, dG, gK, dN, bZ, aS, bV, bT, fN, aG, aH, aQ, bA, bE, cP, bK, aA, fA, aR, cL, fJ, eU, gG, bJ, eL, eN, bY, fW, eZ, eJ, dH, cQ, dD, aY, bD, aL, fZ, aM, dA, eE, bB, cC, fK, dL, gC, fM, fG, fI, dS, aK, cH, cY, fY, fX, fH, dC, aV, dX, fU, cS, eT, fO, cD, bL, dR, aZ, dW, dQ, cM, eM, eK, bF, dF, bG, eD, dU, dZ, bN, cR, cN, dO, bS, cW, cV, fP, cB, eI, eP, gE, dY, dP, dM, dI, bH, bR, bW, bX, aU, cX, aW, c2, c3, l1, l3]
  exact hnew _ (by omega) (by omega)
structure Bst (B : List UInt8) (to at_ n off : Nat) : Prop where
 one : (n = 0 /\ off = 0) ∨ (0 < n /\ 1 <= off /\ off <= at_ /\ Lng B to (at_ - off) at_ n)
theorem aoC {w0 w : aEl} {p mb ab : Nat} {bv : aEm} {B : List UInt8} {to tries at_ : Nat} {es : List (RW 4 × aEm)} {A : List Int} (hf : Fnd w0 p mb ab bv B to tries es A) (hk : Kept at_ es A) (ha : at_ <= to) (ht : tries <= 1048576) (old0 : Nat) (ho : old0 < at_)
 (hx : jN w0 w mC) {k : aEm -> aEm -> aEl -> Prop}
 (hR : ∀ (n off : Nat) w', Bst B to at_ n off -> (1 <= tries -> ∀ m, Lng B to old0 at_ m -> m <= n) -> jN w0 w' mC -> k (.int .i64 n) (.int .i64 off) w') :
 uX k (.pointer (some ⟨p, 0, none⟩)) (.int .i64 at_) (.int .i64 old0) (.int .i64 0) (.int .i64 0) (.int .i64 tries) (.int .i64 0) w := by
 have hle := hf.le
 have hbig := hf.big
 have hl := hf.len
 unfold uX
 refine kP.rule (fun m t w' => ∃ old n off i : Nat, m = tries - i /\ t = (.int .i64 old, .int .i64 n, .int .i64 off, .int .i64 i) /\ i <= tries /\ old < at_ /\ Bst B to at_ n off /\ (i = 0 -> old = old0) /\ (0 < i -> ∀ m, Lng B to old0 at_ m -> m <= n) /\ n <= 131074 /\ jN w0 w' mC) tries
  ⟨old0, 0, 0, 0, rfl, rfl, by omega, ho, ⟨.inl ⟨rfl, rfl⟩⟩, fun _ => rfl, fun h => by omega, by omega, hx⟩ ?_
 rintro m t w1 ⟨old, n, off, i, rfl, rfl, hi, hold, hb, h0, h1, hn, hx⟩
 by_cases hlt : i < tries
 .have d1 : decide ((i : Int) < (tries : Int)) = true := by simp; omega
  simp (disch := omega) only [pX, mT, rB, sW, qY, qX, rA, pV, gI, jD, dJ, stepR_skip, hJ, iC, iM, iP, iL, iN, jJ, iX, gM, iE, iG, iI, iH, gY, iO, hZ, iF, iV, iW, iJ, gR, iT, iQ, iD, jV, jW, kF, kD, kC, kG, kA, kB, kE, gD, Result.ok.injEq, Next.value.injEq, true_and, and_true, gX, iA, iU, iR, iS, jF, aB0, gV, gU, gW, gT, gO, gJ, gP, gN, gB, fV, if_true, if_false, aBZ, aB4, aB1, aB2, aB5, aB3, aBY, aBX, fQ, fL, fE, fR, cU, eS, eF, dK, bP, fS, eY, aP, dB, aX, bQ, bM, aO, cO, cJ, eQ, aE, gS, aJ, cK, aT, bU, fT, cI, cF, aD, gA, fD, aN, aF, bO, gQ, aI, eX, dT, dV, gF, dE, fB, cZ, eH, fF, fC, cG, dG, gK, dN, bZ, aS, bV, bT, fN, aG, aH, aQ, bA, bE, cP, bK, aA, fA, aR, cL, fJ, eU, gG, bJ, eL, eN, bY, fW, eZ, eJ, dH, cQ, dD, aY, bD, aL, fZ, aM, dA, eE, bB, cC, fK, dL, gC, fM, fG, fI, dS, aK, cH, cY, fY, fX, fH, dC, aV, dX, fU, cS, eT, fO, cD, bL, dR, aZ, dW, dQ, cM, eM, eK, bF, dF, bG, eD, dU, dZ, bN, cR, cN, dO, bS, cW, cV, fP, cB, eI, eP, gE, dY, dP, dM, dI, bH, bR, bW, bX, aU, cX, aW, d1]
  refine (azP (hf.same hx) old at_ hold (by omega)).mono ?_
  rintro r w2 ⟨n2, rfl, hl2, x2⟩
  have hx := hx.seq x2
  have hf2 := hf.same hx
  have c3 := hf2.own.cell (off := 3)
  simp only [aBX, aBY] at c3
  have hA := hk.ah old (by omega)
  have cA := hf2.ah.cell (off := old)
  rw [aCp, aB8 (by omega)] at cA
  simp only [aCB] at cA
  have step : ∀ (n3 off3 : Nat), Bst B to at_ n3 off3 -> (∀ m, Lng B to old at_ m -> m <= n3) -> n <= n3 -> n3 <= 131074 -> mT (fun _ _ nY kL lH _ t36 w => ∃ m', m' < tries - i /\ ∃ old n off i : Nat, m' = tries - i /\ (nY, kL, lH, IntKind.i64 |> fun k => (match t36 with | .int _ x => Value.int k (k.wrap (x + 1)) | v => v)) = ((.int .i64 old : aEm), (.int .i64 n : aEm), (.int .i64 off : aEm), (.int .i64 i : aEm)) /\ i <= tries /\ old < at_ /\ Bst B to at_ n off /\ (i = 0 -> old = old0) /\ (0 < i -> ∀ m, Lng B to old0 at_ m -> m <= n) /\ n <= 131074 /\ jN w0 w mC) k (.pointer (some ⟨p, 0, none⟩)) (.int .i64 at_) (.int .i64 old) (.int .i64 n3) (.int .i64 off3) (.int .i64 tries) (.int .i64 i) w2 := by
   intro n3 off3 hb3 hm3 hn3 h3m
   have hbest : ∀ m, Lng B to old0 at_ m -> m <= n3 := fun m hm => by
    rcases aDc i with h | h
    .rw [<- h0 h] at hm; exact hm3 m hm
    .exact aCV (h1 h m hm) hn3
   by_cases hneg : A[old] < 0
   .have d2 : decide (A[old] < 0) = true := by simpa using hneg
    simp (disch := omega) only [pX, mT, rB, sW, qY, qX, rA, pV, gI, jD, dJ, stepR_skip, hJ, iC, iM, iP, iL, iN, jJ, iX, gM, iE, iG, iI, iH, gY, iO, hZ, iF, iV, iW, iJ, gR, iT, iQ, iD, jV, jW, kF, kD, kC, kG, kA, kB, kE, gD, Result.ok.injEq, Next.value.injEq, true_and, and_true, gX, iA, iU, iR, iS, jF, aB0, gV, gU, gW, gT, gO, gJ, gP, gN, gB, fV, if_true, if_false, aBZ, aB4, aB1, aB2, aB5, aB3, aBY, aBX, fQ, fL, fE, fR, cU, eS, eF, dK, bP, fS, eY, aP, dB, aX, bQ, bM, aO, cO, cJ, eQ, aE, gS, aJ, cK, aT, bU, fT, cI, cF, aD, gA, fD, aN, aF, bO, gQ, aI, eX, dT, dV, gF, dE, fB, cZ, eH, fF, fC, cG, dG, gK, dN, bZ, aS, bV, bT, fN, aG, aH, aQ, bA, bE, cP, bK, aA, fA, aR, cL, fJ, eU, gG, bJ, eL, eN, bY, fW, eZ, eJ, dH, cQ, dD, aY, bD, aL, fZ, aM, dA, eE, bB, cC, fK, dL, gC, fM, fG, fI, dS, aK, cH, cY, fY, fX, fH, dC, aV, dX, fU, cS, eT, fO, cD, bL, dR, aZ, dW, dQ, cM, eM, eK, bF, dF, bG, eD, dU, dZ, bN, cR, cN, dO, bS, cW, cV, fP, cB, eI, eP, gE, dY, dP, dM, dI, bH, bR, bW, bX, aU, cX, aW, c3, cA, d2]
    exact hR _ _ _ hb3 (fun _ => hbest) hx
   .have d2 : decide (A[old] < 0) = false := by simpa using hneg
    simp (disch := omega) only [pX, mT, rB, sW, qY, qX, rA, pV, gI, jD, dJ, stepR_skip, hJ, iC, iM, iP, iL, iN, jJ, iX, gM, iE, iG, iI, iH, gY, iO, hZ, iF, iV, iW, iJ, gR, iT, iQ, iD, jV, jW, kF, kD, kC, kG, kA, kB, kE, gD, Result.ok.injEq, Next.value.injEq, true_and, and_true, gX, iA, iU, iR, iS, jF, aB0, gV, gU, gW, gT, gO, gJ, gP, gN, gB, fV, if_true, if_false, aBZ, aB4, aB1, aB2, aB5, aB3, aBY, aBX, fQ, fL, fE, fR, cU, eS, eF, dK, bP, fS, eY, aP, dB, aX, bQ, bM, aO, cO, cJ, eQ, aE, gS, aJ, cK, aT, bU, fT, cI, cF, aD, gA, fD, aN, aF, bO, gQ, aI, eX, dT, dV, gF, dE, fB, cZ, eH, fF, fC, cG, dG, gK, dN, bZ, aS, bV, bT, fN, aG, aH, aQ, bA, bE, cP, bK, aA, fA, aR, cL, fJ, eU, gG, bJ, eL, eN, bY, fW, eZ, eJ, dH, cQ, dD, aY, bD, aL, fZ, aM, dA, eE, bB, cC, fK, dL, gC, fM, fG, fI, dS, aK, cH, cY, fY, fX, fH, dC, aV, dX, fU, cS, eT, fO, cD, bL, dR, aZ, dW, dQ, cM, eM, eK, bF, dF, bG, eD, dU, dZ, bN, cR, cN, dO, bS, cW, cV, fP, cB, eI, eP, gE, dY, dP, dM, dI, bH, bR, bW, bX, aU, cX, aW, c3, cA, d2]
    have e : A[old] = ((A[old].toNat : Nat) : Int) := by omega
    refine ⟨tries - (i + 1), by omega, A[old].toNat, n3, off3, i + 1, rfl, ?_, by omega, by omega, hb3, fun h => by omega, fun _ => hbest, h3m, hx⟩
    rw [<- e]
    rfl
  by_cases hg : n < n2
  .have d2 : decide ((n : Int) < (n2 : Int)) = true := by simp; omega
   have := step n2 (at_ - old) ⟨.inr ⟨by omega, by omega, by omega, by rw [show at_ - (at_ - old) = old from by omega]; exact hl2⟩⟩ (fun m hm => hm.le_of hl2) (by omega) hl2.most
   have e1 : ((at_ : Int) - (old : Int)) = ((at_ - old : Nat) : Int) := by omega
   unfold mT at this
   simp (disch := omega) only [gI, jD, dJ, stepR_skip, hJ, iC, iM, iP, iL, iN, jJ, iX, gM, iE, iG, iI, iH, gY, iO, hZ, iF, iV, iW, iJ, gR, iT, iQ, iD, jV, jW, kF, kD, kC, kG, kA, kB, kE, gD, Result.ok.injEq, Next.value.injEq, true_and, and_true, gX, iA, iU, iR, iS, jF, aB0, gV, gU, gW, gT, gO, gJ, gP, gN, gB, fV, if_true, if_false, aBZ, aB4, aB1, aB2, aB5, aB3, aBY, aBX, fQ, fL, fE, fR, cU, eS, eF, dK, bP, fS, eY, aP, dB, aX, bQ, bM, aO, cO, cJ, eQ, aE, gS, aJ, cK, aT, bU, fT, cI, cF, aD, gA, fD, aN, aF, bO, gQ, aI, eX, dT, dV, gF, dE, fB, cZ, eH, fF, fC, cG, dG, gK, dN, bZ, aS, bV, bT, fN, aG, aH, aQ, bA, bE, cP, bK, aA, fA, aR, cL, fJ, eU, gG, bJ, eL, eN, bY, fW, eZ, eJ, dH, cQ, dD, aY, bD, aL, fZ, aM, dA, eE, bB, cC, fK, dL, gC, fM, fG, fI, dS, aK, cH, cY, fY, fX, fH, dC, aV, dX, fU, cS, eT, fO, cD, bL, dR, aZ, dW, dQ, cM, eM, eK, bF, dF, bG, eD, dU, dZ, bN, cR, cN, dO, bS, cW, cV, fP, cB, eI, eP, gE, dY, dP, dM, dI, bH, bR, bW, bX, aU, cX, aW, d2, e1, c3, cA]
   simp (disch := omega) only [gI, jD, dJ, stepR_skip, hJ, iC, iM, iP, iL, iN, jJ, iX, gM, iE, iG, iI, iH, gY, iO, hZ, iF, iV, iW, iJ, gR, iT, iQ, iD, jV, jW, kF, kD, kC, kG, kA, kB, kE, gD, Result.ok.injEq, Next.value.injEq, true_and, and_true, gX, iA, iU, iR, iS, jF, aB0, gV, gU, gW, gT, gO, gJ, gP, gN, gB, fV, if_true, if_false, aBZ, aB4, aB1, aB2, aB5, aB3, aBY, aBX, fQ, fL, fE, fR, cU, eS, eF, dK, bP, fS, eY, aP, dB, aX, bQ, bM, aO, cO, cJ, eQ, aE, gS, aJ, cK, aT, bU, fT, cI, cF, aD, gA, fD, aN, aF, bO, gQ, aI, eX, dT, dV, gF, dE, fB, cZ, eH, fF, fC, cG, dG, gK, dN, bZ, aS, bV, bT, fN, aG, aH, aQ, bA, bE, cP, bK, aA, fA, aR, cL, fJ, eU, gG, bJ, eL, eN, bY, fW, eZ, eJ, dH, cQ, dD, aY, bD, aL, fZ, aM, dA, eE, bB, cC, fK, dL, gC, fM, fG, fI, dS, aK, cH, cY, fY, fX, fH, dC, aV, dX, fU, cS, eT, fO, cD, bL, dR, aZ, dW, dQ, cM, eM, eK, bF, dF, bG, eD, dU, dZ, bN, cR, cN, dO, bS, cW, cV, fP, cB, eI, eP, gE, dY, dP, dM, dI, bH, bR, bW, bX, aU, cX, aW, c3, cA] at this
   exact this
  .have d2 : decide ((n : Int) < (n2 : Int)) = false := by simp; omega
   have := step n off hb (fun m hm => aCV (hm.le_of hl2) (by omega)) (aCb _) hn
   unfold mT at this
   simp (disch := omega) only [gI, jD, dJ, stepR_skip, hJ, iC, iM, iP, iL, iN, jJ, iX, gM, iE, iG, iI, iH, gY, iO, hZ, iF, iV, iW, iJ, gR, iT, iQ, iD, jV, jW, kF, kD, kC, kG, kA, kB, kE, gD, Result.ok.injEq, Next.value.injEq, true_and, and_true, gX, iA, iU, iR, iS, jF, aB0, gV, gU, gW, gT, gO, gJ, gP, gN, gB, fV, if_true, if_false, aBZ, aB4, aB1, aB2, aB5, aB3, aBY, aBX, fQ, fL, fE, fR, cU, eS, eF, dK, bP, fS, eY, aP, dB, aX, bQ, bM, aO, cO, cJ, eQ, aE, gS, aJ, cK, aT, bU, fT, cI, cF, aD, gA, fD, aN, aF, bO, gQ, aI, eX, dT, dV, gF, dE, fB, cZ, eH, fF, fC, cG, dG, gK, dN, bZ, aS, bV, bT, fN, aG, aH, aQ, bA, bE, cP, bK, aA, fA, aR, cL, fJ, eU, gG, bJ, eL, eN, bY, fW, eZ, eJ, dH, cQ, dD, aY, bD, aL, fZ, aM, dA, eE, bB, cC, fK, dL, gC, fM, fG, fI, dS, aK, cH, cY, fY, fX, fH, dC, aV, dX, fU, cS, eT, fO, cD, bL, dR, aZ, dW, dQ, cM, eM, eK, bF, dF, bG, eD, dU, dZ, bN, cR, cN, dO, bS, cW, cV, fP, cB, eI, eP, gE, dY, dP, dM, dI, bH, bR, bW, bX, aU, cX, aW, d2, c3, cA]
   simp (disch := omega) only [gI, jD, dJ, stepR_skip, hJ, iC, iM, iP, iL, iN, jJ, iX, gM, iE, iG, iI, iH, gY, iO, hZ, iF, iV, iW, iJ, gR, iT, iQ, iD, jV, jW, kF, kD, kC, kG, kA, kB, kE, gD, Result.ok.injEq, Next.value.injEq, true_and, and_true, gX, iA, iU, iR, iS, jF, aB0, gV, gU, gW, gT, gO, gJ, gP, gN, gB, fV, if_true, if_false, aBZ, aB4, aB1, aB2, aB5, aB3, aBY, aBX, fQ, fL, fE, fR, cU, eS, eF, dK, bP, fS, eY, aP, dB, aX, bQ, bM, aO, cO, cJ, eQ, aE, gS, aJ, cK, aT, bU, fT, cI, cF, aD, gA, fD, aN, aF, bO, gQ, aI, eX, dT, dV, gF, dE, fB, cZ, eH, fF, fC, cG, dG, gK, dN, bZ, aS, bV, bT, fN, aG, aH, aQ, bA, bE, cP, bK, aA, fA, aR, cL, fJ, eU, gG, bJ, eL, eN, bY, fW, eZ, eJ, dH, cQ, dD, aY, bD, aL, fZ, aM, dA, eE, bB, cC, fK, dL, gC, fM, fG, fI, dS, aK, cH, cY, fY, fX, fH, dC, aV, dX, fU, cS, eT, fO, cD, bL, dR, aZ, dW, dQ, cM, eM, eK, bF, dF, bG, eD, dU, dZ, bN, cR, cN, dO, bS, cW, cV, fP, cB, eI, eP, gE, dY, dP, dM, dI, bH, bR, bW, bX, aU, cX, aW, c3, cA] at this
   exact this
 .have d1 : decide ((i : Int) < (tries : Int)) = false := by simp; omega
  simp (disch := omega) only [pX, mT, rB, sW, qY, qX, rA, pV, gI, jD, dJ, stepR_skip, hJ, iC, iM, iP, iL, iN, jJ, iX, gM, iE, iG, iI, iH, gY, iO, hZ, iF, iV, iW, iJ, gR, iT, iQ, iD, jV, jW, kF, kD, kC, kG, kA, kB, kE, gD, Result.ok.injEq, Next.value.injEq, true_and, and_true, gX, iA, iU, iR, iS, jF, aB0, gV, gU, gW, gT, gO, gJ, gP, gN, gB, fV, if_true, if_false, aBZ, aB4, aB1, aB2, aB5, aB3, aBY, aBX, fQ, fL, fE, fR, cU, eS, eF, dK, bP, fS, eY, aP, dB, aX, bQ, bM, aO, cO, cJ, eQ, aE, gS, aJ, cK, aT, bU, fT, cI, cF, aD, gA, fD, aN, aF, bO, gQ, aI, eX, dT, dV, gF, dE, fB, cZ, eH, fF, fC, cG, dG, gK, dN, bZ, aS, bV, bT, fN, aG, aH, aQ, bA, bE, cP, bK, aA, fA, aR, cL, fJ, eU, gG, bJ, eL, eN, bY, fW, eZ, eJ, dH, cQ, dD, aY, bD, aL, fZ, aM, dA, eE, bB, cC, fK, dL, gC, fM, fG, fI, dS, aK, cH, cY, fY, fX, fH, dC, aV, dX, fU, cS, eT, fO, cD, bL, dR, aZ, dW, dQ, cM, eM, eK, bF, dF, bG, eD, dU, dZ, bN, cR, cN, dO, bS, cW, cV, fP, cB, eI, eP, gE, dY, dP, dM, dI, bH, bR, bW, bX, aU, cX, aW, d1]
  exact hR _ _ _ hb (fun ht => h1 (by omega)) hx
theorem auJ {w : aEl} {p mb ab : Nat} {bv : aEm} {B : List UInt8} {to tries at_ : Nat} {es : List (RW 4 × aEm)} {A : List Int} (hf : Fnd w p mb ab bv B to tries es A) (hk : Kept at_ es A) (ha : at_ <= to) (ht : tries <= 1048576) :
 jE pg tP #[.pointer (some ⟨p, 0, none⟩), .int .i64 at_] w (fun r w' => ∃ n off : Nat, r = .tuple #[.int .i64 n, .int .i64 off] /\ Bst B to at_ n off /\
  (at_ + 4 <= B.length -> 1 <= tries -> ∀ old : Nat, assoc (tK B at_) es = some (.int .i64 old) -> ∀ m, Lng B to old at_ m -> m <= n) /\ jN w w' mC) := by
 have hle := hf.le
 have hbig := hf.big
 refine QG ?_
 unfold My Be Bo A4 Hf A8
 refine (amN hf at_ (by omega)).mono ?_
 rintro r w1 ⟨rfl, x1⟩
 have hf1 := hf.same x1
 have hlen := (tK B at_).2
 simp (disch := omega) only [gI, jD, dJ, stepR_skip, hJ, iC, iM, iP, iL, iN, jJ, iX, gM, iE, iG, iI, iH, gY, iO, hZ, iF, iV, iW, iJ, gR, iT, iQ, iD, jV, jW, kF, kD, kC, kG, kA, kB, kE, gD, Result.ok.injEq, Next.value.injEq, true_and, and_true, gX, iA, iU, iR, iS, jF, aB0, gV, gU, gW, gT, gO, gJ, gP, gN, gB, fV, if_true, if_false, aBZ, aB4, aB1, aB2, aB5, aB3, aBY, aBX, fQ, fL, fE, fR, cU, eS, eF, dK, bP, fS, eY, aP, dB, aX, bQ, bM, aO, cO, cJ, eQ, aE, gS, aJ, cK, aT, bU, fT, cI, cF, aD, gA, fD, aN, aF, bO, gQ, aI, eX, dT, dV, gF, dE, fB, cZ, eH, fF, fC, cG, dG, gK, dN, bZ, aS, bV, bT, fN, aG, aH, aQ, bA, bE, cP, bK, aA, fA, aR, cL, fJ, eU, gG, bJ, eL, eN, bY, fW, eZ, eJ, dH, cQ, dD, aY, bD, aL, fZ, aM, dA, eE, bB, cC, fK, dL, gC, fM, fG, fI, dS, aK, cH, cY, fY, fX, fH, dC, aV, dX, fU, cS, eT, fO, cD, bL, dR, aZ, dW, dQ, cM, eM, eK, bF, dF, bG, eD, dU, dZ, bN, cR, cN, dO, bS, cW, cV, fP, cB, eI, eP, gE, dY, dP, dM, dI, bH, bR, bW, bX, aU, cX, aW]
 refine Qa fun w2 o2 x2 s2 => ?_
 refine II o2 (by simp [hlen]) (FT _) (by simp) fun w3 o3 x3 s3 => ?_
 have e3 : kW [.int .u8 0, .int .u8 0, .int .u8 0, .int .u8 0] 0 ((tK B at_).1.map nT) = (tK B at_).1.map nT := by
  generalize (tK B at_).1.map nT = l, (show ((tK B at_).1.map nT).length = 4 by simp [hlen]) = hl
  match l, hl with
  | [a, b, c, d], _ => rfl
 simp only [List.toList_toArray] at o3
 rw [e3] at o3
 have x3 : jN w w3 mC := x1.seq (x2.new x3 (aCb _))
 by_cases h4 : at_ + 4 <= B.length
 .rw [decide_eq_true h4]
  have hf3 := (hf.same x3).dr
  have hkb := nP o3
  have c2 := hf3.own.cell (off := 2)
  have c4 := hf3.own.cell (off := 4)
  simp only [aBX, aBY] at c2 c4
  have l1 := ND (off := 0) hkb (by simp [hlen])
  have l2 : (((tK B at_).1.map nT).drop 0).take 4 = (tK B at_).1.map nT := by rw [aCs, aCg (by simp [hlen])]
  rw [l2] at l1
  have l3 := I6 hf3.map (tK B at_)
  unfold WN at l3
  cases has : En.assoc (tK B at_) es with
  | none =>
    rw [has] at l3
    simp only [Option.getD_none, Option.isSome_none] at l3
    simp (disch := omega) only [gI, jD, dJ, stepR_skip, hJ, iC, iM, iP, iL, iN, jJ, iX, gM, iE, iG, iI, iH, gY, iO, hZ, iF, iV, iW, iJ, gR, iT, iQ, iD, jV, jW, kF, kD, kC, kG, kA, kB, kE, gD, Result.ok.injEq, Next.value.injEq, true_and, and_true, gX, iA, iU, iR, iS, jF, aB0, gV, gU, gW, gT, gO, gJ, gP, gN, gB, fV, if_true, if_false, aBZ, aB4, aB1, aB2, aB5, aB3, aBY, aBX, fQ, fL, fE, fR, cU, eS, eF, dK, bP, fS, eY, aP, dB, aX, bQ, bM, aO, cO, cJ, eQ, aE, gS, aJ, cK, aT, bU, fT, cI, cF, aD, gA, fD, aN, aF, bO, gQ, aI, eX, dT, dV, gF, dE, fB, cZ, eH, fF, fC, cG, dG, gK, dN, bZ, aS, bV, bT, fN, aG, aH, aQ, bA, bE, cP, bK, aA, fA, aR, cL, fJ, eU, gG, bJ, eL, eN, bY, fW, eZ, eJ, dH, cQ, dD, aY, bD, aL, fZ, aM, dA, eE, bB, cC, fK, dL, gC, fM, fG, fI, dS, aK, cH, cY, fY, fX, fH, dC, aV, dX, fU, cS, eT, fO, cD, bL, dR, aZ, dW, dQ, cM, eM, eK, bF, dF, bG, eD, dU, dZ, bN, cR, cN, dO, bS, cW, cV, fP, cB, eI, eP, gE, dY, dP, dM, dI, bH, bR, bW, bX, aU, cX, aW, c2, l1, l3]
    exact ⟨0, 0, rfl, ⟨.inl ⟨rfl, rfl⟩⟩, (by intro _ _ old h; cases h), x3.seq (jN.dr _ _)⟩
  | some v =>
    obtain ⟨x, rfl, hxa⟩ := hk.assoc has
    rw [has] at l3
    simp only [aDu, Option.isSome_some] at l3
    simp (disch := omega) only [gI, jD, dJ, stepR_skip, hJ, iC, iM, iP, iL, iN, jJ, iX, gM, iE, iG, iI, iH, gY, iO, hZ, iF, iV, iW, iJ, gR, iT, iQ, iD, jV, jW, kF, kD, kC, kG, kA, kB, kE, gD, Result.ok.injEq, Next.value.injEq, true_and, and_true, gX, iA, iU, iR, iS, jF, aB0, gV, gU, gW, gT, gO, gJ, gP, gN, gB, fV, if_true, if_false, aBZ, aB4, aB1, aB2, aB5, aB3, aBY, aBX, fQ, fL, fE, fR, cU, eS, eF, dK, bP, fS, eY, aP, dB, aX, bQ, bM, aO, cO, cJ, eQ, aE, gS, aJ, cK, aT, bU, fT, cI, cF, aD, gA, fD, aN, aF, bO, gQ, aI, eX, dT, dV, gF, dE, fB, cZ, eH, fF, fC, cG, dG, gK, dN, bZ, aS, bV, bT, fN, aG, aH, aQ, bA, bE, cP, bK, aA, fA, aR, cL, fJ, eU, gG, bJ, eL, eN, bY, fW, eZ, eJ, dH, cQ, dD, aY, bD, aL, fZ, aM, dA, eE, bB, cC, fK, dL, gC, fM, fG, fI, dS, aK, cH, cY, fY, fX, fH, dC, aV, dX, fU, cS, eT, fO, cD, bL, dR, aZ, dW, dQ, cM, eM, eK, bF, dF, bG, eD, dU, dZ, bN, cR, cN, dO, bS, cW, cV, fP, cB, eI, eP, gE, dY, dP, dM, dI, bH, bR, bW, bX, aU, cX, aW, c2, l1, l3]
    unfold A7 AW AX
    simp (disch := omega) only [gI, jD, dJ, stepR_skip, hJ, iC, iM, iP, iL, iN, jJ, iX, gM, iE, iG, iI, iH, gY, iO, hZ, iF, iV, iW, iJ, gR, iT, iQ, iD, jV, jW, kF, kD, kC, kG, kA, kB, kE, gD, Result.ok.injEq, Next.value.injEq, true_and, and_true, gX, iA, iU, iR, iS, jF, aB0, gV, gU, gW, gT, gO, gJ, gP, gN, gB, fV, if_true, if_false, aBZ, aB4, aB1, aB2, aB5, aB3, aBY, aBX, fQ, fL, fE, fR, cU, eS, eF, dK, bP, fS, eY, aP, dB, aX, bQ, bM, aO, cO, cJ, eQ, aE, gS, aJ, cK, aT, bU, fT, cI, cF, aD, gA, fD, aN, aF, bO, gQ, aI, eX, dT, dV, gF, dE, fB, cZ, eH, fF, fC, cG, dG, gK, dN, bZ, aS, bV, bT, fN, aG, aH, aQ, bA, bE, cP, bK, aA, fA, aR, cL, fJ, eU, gG, bJ, eL, eN, bY, fW, eZ, eJ, dH, cQ, dD, aY, bD, aL, fZ, aM, dA, eE, bB, cC, fK, dL, gC, fM, fG, fI, dS, aK, cH, cY, fY, fX, fH, dC, aV, dX, fU, cS, eT, fO, cD, bL, dR, aZ, dW, dQ, cM, eM, eK, bF, dF, bG, eD, dU, dZ, bN, cR, cN, dO, bS, cW, cV, fP, cB, eI, eP, gE, dY, dP, dM, dI, bH, bR, bW, bX, aU, cX, aW, c4]
    refine aoC hf hk ha ht x hxa (x3.seq (jN.dr _ _)) fun n off w' hb hm hx => ?_
    exact ⟨n, off, rfl, hb, fun _ ht old h m hl => (by cases h; exact hm ht m hl), hx⟩
 .rw [decide_eq_false h4]
  simp (disch := omega) only [gI, jD, dJ, stepR_skip, hJ, iC, iM, iP, iL, iN, jJ, iX, gM, iE, iG, iI, iH, gY, iO, hZ, iF, iV, iW, iJ, gR, iT, iQ, iD, jV, jW, kF, kD, kC, kG, kA, kB, kE, gD, Result.ok.injEq, Next.value.injEq, true_and, and_true, gX, iA, iU, iR, iS, jF, aB0, gV, gU, gW, gT, gO, gJ, gP, gN, gB, fV, if_true, if_false, aBZ, aB4, aB1, aB2, aB5, aB3, aBY, aBX, fQ, fL, fE, fR, cU, eS, eF, dK, bP, fS, eY, aP, dB, aX, bQ, bM, aO, cO, cJ, eQ, aE, gS, aJ, cK, aT, bU, fT, cI, cF, aD, gA, fD, aN, aF, bO, gQ, aI, eX, dT, dV, gF, dE, fB, cZ, eH, fF, fC, cG, dG, gK, dN, bZ, aS, bV, bT, fN, aG, aH, aQ, bA, bE, cP, bK, aA, fA, aR, cL, fJ, eU, gG, bJ, eL, eN, bY, fW, eZ, eJ, dH, cQ, dD, aY, bD, aL, fZ, aM, dA, eE, bB, cC, fK, dL, gC, fM, fG, fI, dS, aK, cH, cY, fY, fX, fH, dC, aV, dX, fU, cS, eT, fO, cD, bL, dR, aZ, dW, dQ, cM, eM, eK, bF, dF, bG, eD, dU, dZ, bN, cR, cN, dO, bS, cW, cV, fP, cB, eI, eP, gE, dY, dP, dM, dI, bH, bR, bW, bX, aU, cX, aW]
  exact ⟨0, 0, rfl, ⟨.inl ⟨rfl, rfl⟩⟩, fun h => absurd h h4, x3⟩
abbrev Sq := Nat × Nat × Nat
def alN (B : List UInt8) (to a : Nat) (s : Sq) : Prop := a + s.1 + s.2.1 <= to /\ 3 <= s.2.1 /\ s.2.1 <= 131074 /\ 1 <= s.2.2 /\ s.2.2 <= a + s.1 /\ ∀ k, k < s.2.1 -> B[a + s.1 + k]? = B[a + s.1 + k - s.2.2]?
def aiF (B : List UInt8) (to : Nat) : Nat -> List Sq -> Nat -> Prop
 | a, [], b => a = b
 | a, s :: r, b => alN B to a s /\ aiF B to (a + s.1 + s.2.1) r b
def flat : List Sq -> List aEm
 | [] => []
 | s :: r => .int .u32 s.1 :: .int .u32 s.2.1 :: .int .u32 s.2.2 :: flat r
theorem aeK (s : Sq) : ∀ L : List Sq, flat (L ++ [s]) = flat L ++ [.int .u32 s.1, .int .u32 s.2.1, .int .u32 s.2.2]
 | [] => rfl
 | x :: r => by simp [flat, aeK s r]
theorem adB {B : List UInt8} {to : Nat} {s : Sq} : ∀ {L : List Sq} {a b : Nat}, aiF B to a L b -> alN B to b s -> aiF B to a (L ++ [s]) (b + s.1 + s.2.1)
 | [], a, b, h, hs => by obtain rfl : a = b := h; exact ⟨hs, rfl⟩
 | x :: r, a, b, h, hs => ⟨h.1, adB h.2 hs⟩
theorem Z9 {B : List UInt8} {to : Nat} : ∀ {L : List Sq} {a b : Nat}, aiF B to a L b -> a <= to -> a + 3 * L.length <= b /\ b <= to
 | [], a, b, h, hs => by obtain rfl : a = b := h; simp; omega
 | x :: r, a, b, h, hs => by
   have h1 := h.1
   unfold alN at h1
   have := Z9 h.2 h1.1
   simp only [aCl]
   omega
structure Dst (w0 : aEl) (p mb ab base : Nat) (bv : aEm) : Prop where
 ne : p ≠ mb /\ p ≠ ab /\ mb ≠ ab
 lo : w0.heap.size <= p /\ w0.heap.size <= mb /\ w0.heap.size <= ab
 hi : p < base /\ mb < base /\ ab < base
 bo : ¬ MO bv (fun b => w0.heap.size <= b)
structure Fst (w0 w : aEl) (p mb ab base : Nat) (bv : aEm) (B : List UInt8) (to tries : Nat) (es : List (RW 4 × aEm)) (A : List Int) (out : aEm) (L : List Sq) (a0 begun : Nat) : Prop where
 f : Fnd w p mb ab bv B to tries es A
 o : yW w base 3 out L.length (flat L)
 pl : aiF B to a0 L begun
 x : jN w0 w mC
 hs : base <= w.heap.size
section
variable {w0 w : aEl} {p mb ab base : Nat} {bv : aEm} {B : List UInt8} {to tries : Nat} {es : List (RW 4 × aEm)} {A : List Int} {out : aEm} {L : List Sq} {a0 begun : Nat}
theorem Fst.same {w' : aEl} (h : Fst w0 w p mb ab base bv B to tries es A out L a0 begun) (hx : jN w w' mC) : Fst w0 w' p mb ab base bv B to tries es A out L a0 begun :=
 ⟨h.f.same hx, h.o.ext hx (fun _ _ h => h), h.pl, h.x.seq hx, aCV h.hs hx.size⟩
theorem Z8 (D : Dst w0 p mb ab base bv) (h : Fst w0 w p mb ab base bv B to tries es A out L a0 begun) {j : Nat} (hk : Kept (j + 1) es A) (hj : j < to) :
 jE pg pH #[.pointer (some ⟨p, 0, none⟩), .int .i64 j] w (fun _ w' => ∃ A', Fst w0 w' p mb ab base bv B to tries (noted B j es) A' out L a0 begun /\ Kept (j + 1) (noted B j es) A') := by
 have d1 := D.lo
 have d2 := D.hi
 refine (azH h.f hk D.ne (fun hh => D.bo (DC hh fun b hb => by rcases hb with rfl | rfl <;> omega)) hj).mono ?_
 rintro r w' ⟨A', f, k, x⟩
 refine ⟨A', ⟨f, h.o.ext x (fun b hb hh => by omega), h.pl, h.x.trans x (fun b hb hh => by omega), aCV h.hs x.size⟩, k⟩
theorem atK (D : Dst w0 p mb ab base bv) {at_ e q : Nat} (h : Fst w0 w p mb ab base bv B to tries es A out L a0 begun) (hk : Kept q es A) (hq : q <= at_ + 1) (hlt : at_ < e) (he : e <= to) (hb : B.length <= 4294967295)
 {t2 lv : aEm} {k : aEm -> aEm -> aEm -> aEm -> aEm -> aEl -> Prop}
 (hR : ∀ w' es' A', Fst w0 w' p mb ab base bv B to tries es' A' out L a0 begun -> Kept e es' A' -> k t2 lv (.pointer (some ⟨p, 0, none⟩)) out (.int .i64 e) w') :
 Iv k t2 lv (.pointer (some ⟨p, 0, none⟩)) out (.int .i64 at_) (.int .i64 e) w := by
 have hle := h.f.le
 unfold Iv
 refine kP.rule (fun m t w' => ∃ (j q : Nat) (es' : List (RW 4 × aEm)) (A' : List Int), m = e - j /\ t = .int .i64 j /\ at_ <= j /\ j <= e /\ Fst w0 w' p mb ab base bv B to tries es' A' out L a0 begun /\ Kept q es' A' /\ q <= j + 1 /\ (at_ < j -> q <= j)) (e - at_)
  ⟨at_, q, es, A, rfl, rfl, aCb _, by omega, h, hk, hq, fun h => by omega⟩ ?_
 rintro m t w1 ⟨j, q, es1, A1, rfl, rfl, h1, h2, h3, h4, h5, h6⟩
 by_cases hj : j < e
 .have d1 : decide ((j : Int) < (e : Int)) = true := by simp; omega
  simp (disch := omega) only [DU, gI, jD, dJ, stepR_skip, hJ, iC, iM, iP, iL, iN, jJ, iX, gM, iE, iG, iI, iH, gY, iO, hZ, iF, iV, iW, iJ, gR, iT, iQ, iD, jV, jW, kF, kD, kC, kG, kA, kB, kE, gD, Result.ok.injEq, Next.value.injEq, true_and, and_true, gX, iA, iU, iR, iS, jF, aB0, gV, gU, gW, gT, gO, gJ, gP, gN, gB, fV, if_true, if_false, aBZ, aB4, aB1, aB2, aB5, aB3, aBY, aBX, fQ, fL, fE, fR, cU, eS, eF, dK, bP, fS, eY, aP, dB, aX, bQ, bM, aO, cO, cJ, eQ, aE, gS, aJ, cK, aT, bU, fT, cI, cF, aD, gA, fD, aN, aF, bO, gQ, aI, eX, dT, dV, gF, dE, fB, cZ, eH, fF, fC, cG, dG, gK, dN, bZ, aS, bV, bT, fN, aG, aH, aQ, bA, bE, cP, bK, aA, fA, aR, cL, fJ, eU, gG, bJ, eL, eN, bY, fW, eZ, eJ, dH, cQ, dD, aY, bD, aL, fZ, aM, dA, eE, bB, cC, fK, dL, gC, fM, fG, fI, dS, aK, cH, cY, fY, fX, fH, dC, aV, dX, fU, cS, eT, fO, cD, bL, dR, aZ, dW, dQ, cM, eM, eK, bF, dF, bG, eD, dU, dZ, bN, cR, cN, dO, bS, cW, cV, fP, cB, eI, eP, gE, dY, dP, dM, dI, bH, bR, bW, bX, aU, cX, aW, d1]
  refine (Z8 D h3 (h4.mono h5) (by omega)).mono ?_
  rintro r w2 ⟨A2, f2, k2⟩
  exact ⟨e - (j + 1), by omega, j + 1, j + 1, _, A2, rfl, rfl, by omega, by omega, f2, k2, by omega, fun _ => aCb _⟩
 .have d1 : decide ((j : Int) < (e : Int)) = false := by simp; omega
  have : j = e := by omega
  subst this
  simp (disch := omega) only [DU, gI, jD, dJ, stepR_skip, hJ, iC, iM, iP, iL, iN, jJ, iX, gM, iE, iG, iI, iH, gY, iO, hZ, iF, iV, iW, iJ, gR, iT, iQ, iD, jV, jW, kF, kD, kC, kG, kA, kB, kE, gD, Result.ok.injEq, Next.value.injEq, true_and, and_true, gX, iA, iU, iR, iS, jF, aB0, gV, gU, gW, gT, gO, gJ, gP, gN, gB, fV, if_true, if_false, aBZ, aB4, aB1, aB2, aB5, aB3, aBY, aBX, fQ, fL, fE, fR, cU, eS, eF, dK, bP, fS, eY, aP, dB, aX, bQ, bM, aO, cO, cJ, eQ, aE, gS, aJ, cK, aT, bU, fT, cI, cF, aD, gA, fD, aN, aF, bO, gQ, aI, eX, dT, dV, gF, dE, fB, cZ, eH, fF, fC, cG, dG, gK, dN, bZ, aS, bV, bT, fN, aG, aH, aQ, bA, bE, cP, bK, aA, fA, aR, cL, fJ, eU, gG, bJ, eL, eN, bY, fW, eZ, eJ, dH, cQ, dD, aY, bD, aL, fZ, aM, dA, eE, bB, cC, fK, dL, gC, fM, fG, fI, dS, aK, cH, cY, fY, fX, fH, dC, aV, dX, fU, cS, eT, fO, cD, bL, dR, aZ, dW, dQ, cM, eM, eK, bF, dF, bG, eD, dU, dZ, bN, cR, cN, dO, bS, cW, cV, fP, cB, eI, eP, gE, dY, dP, dM, dI, bH, bR, bW, bX, aU, cX, aW, d1]
  exact hR _ _ _ h3 (h4.mono (h6 hlt))
theorem awM (D : Dst w0 p mb ab base bv) {at_ n off q : Nat} (h : Fst w0 w p mb ab base bv B to tries es A out L a0 begun) (h0 : a0 <= to) (hk : Kept q es A) (hq : q <= at_ + 1) (hbe : begun <= at_) (hbst : Bst B to at_ n off) (hn : 4 <= n) (hb : B.length <= 4294967295)
 {t2 lv : aEm} {k : aEm -> aEm -> aEm -> aEm -> aEm -> aEm -> aEl -> Prop}
 (hR : ∀ w' es' A' out' s, Fst w0 w' p mb ab base bv B to tries es' A' out' (L ++ [s]) a0 (at_ + n) -> at_ + n <= to -> Kept (at_ + n) es' A' -> k t2 lv (.pointer (some ⟨p, 0, none⟩)) out' (.int .i64 ((at_ + n : Nat) : Int)) (.int .i64 ((at_ + n : Nat) : Int)) w') :
 BW k t2 lv (.pointer (some ⟨p, 0, none⟩)) out (.int .i64 begun) (.int .i64 at_) (.int .i64 n) (.int .i64 off) w := by
 have hle := h.f.le
 rcases hbst.one with ⟨rfl, rfl⟩ | ⟨hn0, ho1, ho2, hl⟩
 .omega
 have hend : at_ + n <= to := by rcases hl.le with h | h <;> omega
 have hm := hl.most
 have hpl := Z9 h.pl h0
 unfold BW Oe
 have e1 : (at_ : Int) - (begun : Int) = ((at_ - begun : Nat) : Int) := by omega
 simp (disch := omega) only [gI, jD, dJ, stepR_skip, hJ, iC, iM, iP, iL, iN, jJ, iX, gM, iE, iG, iI, iH, gY, iO, hZ, iF, iV, iW, iJ, gR, iT, iQ, iD, jV, jW, kF, kD, kC, kG, kA, kB, kE, gD, Result.ok.injEq, Next.value.injEq, true_and, and_true, gX, iA, iU, iR, iS, jF, aB0, gV, gU, gW, gT, gO, gJ, gP, gN, gB, fV, if_true, if_false, aBZ, aB4, aB1, aB2, aB5, aB3, aBY, aBX, fQ, fL, fE, fR, cU, eS, eF, dK, bP, fS, eY, aP, dB, aX, bQ, bM, aO, cO, cJ, eQ, aE, gS, aJ, cK, aT, bU, fT, cI, cF, aD, gA, fD, aN, aF, bO, gQ, aI, eX, dT, dV, gF, dE, fB, cZ, eH, fF, fC, cG, dG, gK, dN, bZ, aS, bV, bT, fN, aG, aH, aQ, bA, bE, cP, bK, aA, fA, aR, cL, fJ, eU, gG, bJ, eL, eN, bY, fW, eZ, eJ, dH, cQ, dD, aY, bD, aL, fZ, aM, dA, eE, bB, cC, fK, dL, gC, fM, fG, fI, dS, aK, cH, cY, fY, fX, fH, dC, aV, dX, fU, cS, eT, fO, cD, bL, dR, aZ, dW, dQ, cM, eM, eK, bF, dF, bG, eD, dU, dZ, bN, cR, cN, dO, bS, cW, cV, fP, cB, eI, eP, gE, dY, dP, dM, dI, bH, bR, bW, bX, aU, cX, aW, e1]
 refine Wi (cells := #[.int .u32 ((at_ - begun : Nat) : Int), .int .u32 n, .int .u32 off]) (by decide) (by decide) (by kernel_rfl) fun w2 o2 x2 s2 => ?_
 refine Fc (h.o.ext x2 (fun _ _ h => h)) (o2.cl (off := 0) (l := [.int .u32 ((at_ - begun : Nat) : Int), .int .u32 n, .int .u32 off]) rfl (fun i hi => by rw [aB4])) (by simp [one]) (aCV h.hs x2.size) (by omega) fun v3 w3 o3 x3 => ?_
 unfold NI MX M8 Na
 have e2 : (at_ : Int) + (n : Int) = ((at_ + n : Nat) : Int) := by omega
 simp (disch := omega) only [gI, jD, dJ, stepR_skip, hJ, iC, iM, iP, iL, iN, jJ, iX, gM, iE, iG, iI, iH, gY, iO, hZ, iF, iV, iW, iJ, gR, iT, iQ, iD, jV, jW, kF, kD, kC, kG, kA, kB, kE, gD, Result.ok.injEq, Next.value.injEq, true_and, and_true, gX, iA, iU, iR, iS, jF, aB0, gV, gU, gW, gT, gO, gJ, gP, gN, gB, fV, if_true, if_false, aBZ, aB4, aB1, aB2, aB5, aB3, aBY, aBX, fQ, fL, fE, fR, cU, eS, eF, dK, bP, fS, eY, aP, dB, aX, bQ, bM, aO, cO, cJ, eQ, aE, gS, aJ, cK, aT, bU, fT, cI, cF, aD, gA, fD, aN, aF, bO, gQ, aI, eX, dT, dV, gF, dE, fB, cZ, eH, fF, fC, cG, dG, gK, dN, bZ, aS, bV, bT, fN, aG, aH, aQ, bA, bE, cP, bK, aA, fA, aR, cL, fJ, eU, gG, bJ, eL, eN, bY, fW, eZ, eJ, dH, cQ, dD, aY, bD, aL, fZ, aM, dA, eE, bB, cC, fK, dL, gC, fM, fG, fI, dS, aK, cH, cY, fY, fX, fH, dC, aV, dX, fU, cS, eT, fO, cD, bL, dR, aZ, dW, dQ, cM, eM, eK, bF, dF, bG, eD, dU, dZ, bN, cR, cN, dO, bS, cW, cV, fP, cB, eI, eP, gE, dY, dP, dM, dI, bH, bR, bW, bX, aU, cX, aW, e2]
 have hi := D.hi
 have hlo := D.lo
 have bo : ¬ MO bv (fun b => base <= b) := fun hh => D.bo (DC hh fun b hb => by omega)
 have f3 : Fnd w3 p mb ab bv B to tries es A := (h.f.same x2).ext x3 (by omega) (by omega) (by omega) bo
 have hs : aiF B to a0 (L ++ [(at_ - begun, n, off)]) (at_ + n) := by
  have := adB (s := (at_ - begun, n, off)) h.pl ⟨by simp only; omega, by simp only; omega, hm, ho1, by simp only; omega, fun k hk => by
   simp only at hk ⊢
   rw [show begun + (at_ - begun) + k = at_ + k from by omega, show at_ + k - off = at_ - off + k from by omega]
   exact (hl.same k hk).symm⟩
  simp only at this
  rwa [show begun + (at_ - begun) + n = at_ + n from by omega] at this
 have F3 : Fst w0 w3 p mb ab base bv B to tries es A v3 (L ++ [(at_ - begun, n, off)]) a0 (at_ + n) :=
  ⟨f3, by rw [aeK, aB7]; exact o3, hs, (h.x.seq x2).trans x3 (fun b hb hh => by omega), aCV (aCV h.hs x2.size) x3.size⟩
 refine atK D F3 hk hq (by omega) hend hb fun w' es' A' f k => ?_
 unfold Iz
 exact hR _ _ _ _ _ f hend k
end
def arE (B : List UInt8) (a0 to : Nat) : Prop := (∃ c, ∀ i, i < B.length -> B[i]? = some c) /\ a0 = 0 /\ to = B.length /\ 8 <= to
def Ex8 (B : List UInt8) (a0 to at_ : Nat) (es : List (RW 4 × aEm)) (L : List Sq) : Prop :=
 arE B a0 to -> (at_ = 0 /\ es = []) ∨ (at_ = 1 /\ assoc (tK B 0) es = some (.int .i64 (0 : Nat))) ∨ L ≠ []
theorem arQ {B : List UInt8} {a0 to : Nat} (h : arE B a0 to) : tK B 1 = tK B 0 := by
 obtain ⟨⟨c, hc⟩, _, h1, h2⟩ := h
 unfold tK
 rw [dif_pos (by omega), dif_pos (by omega)]
 apply Subtype.ext
 simp only
 apply aDg
 intro i
 by_cases hi : i < 4
 .rw [aCN hi, aCN hi, aDI, aDI, hc _ (by omega), hc _ (by omega)]
 .rw [aCj (by simp; omega), aCj (by simp; omega)]
theorem atN {B : List UInt8} {a0 to : Nat} (h : arE B a0 to) : Lng B to 0 1 (min (to - 1) 131074) := by
 obtain ⟨⟨c, hc⟩, _, h1, h2⟩ := h
 refine ⟨.inl (by omega), by omega, fun j hj => by rw [hc _ (by omega), hc _ (by omega)], ?_⟩
 by_cases hh : to - 1 <= 131074
 .exact .inr (.inl (by omega))
 .exact .inl (by omega)
theorem azJ {w0 w : aEl} {p mb ab base : Nat} {bv : aEm} {B : List UInt8} {to lvl : Nat} {es : List (RW 4 × aEm)} {A : List Int} {a0 : Nat} (hlv : lvl <= 9) (h0 : a0 <= to) (hb : B.length <= 4294967295)
 (D : Dst w0 p mb ab base bv) (h : Fst w0 w p mb ab base bv B to (2 ^ lvl) es A (.slice none 0 0) [] a0 a0) (hk : Kept a0 es A) (hE : Ex8 B a0 to a0 es [])
 {k : aEm -> aEm -> aEm -> aEl -> Prop}
 (hR : ∀ w' out L b, yW w' base 3 out L.length (flat L) -> aiF B to a0 L b -> b <= to -> jN w0 w' mC -> (arE B a0 to -> L ≠ []) -> k (.int .i64 to) out (.int .i64 b) w') :
 GS k (.int .i64 to) (.int .i64 lvl) (.pointer (some ⟨p, 0, none⟩)) (.slice none 0 0) (.int .i64 a0) (.int .i64 a0) w := by
 have htr1 : 1 <= 2 ^ lvl := Nat.one_le_two_pow
 have htr2 : 2 ^ lvl <= 1048576 := aCV (aCn (by omega) hlv) (by decide)
 have hle := h.f.le
 unfold GS
 refine kP.rule (fun m t w' => ∃ (out : aEm) (L : List Sq) (begun at_ : Nat) (es : List (RW 4 × aEm)) (A : List Int), m = to - at_ /\ t = (out, .int .i64 begun, .int .i64 at_) /\ begun <= at_ /\ at_ <= to /\ Fst w0 w' p mb ab base bv B to (2 ^ lvl) es A out L a0 begun /\ Kept at_ es A /\ Ex8 B a0 to at_ es L) (to - a0)
  ⟨_, [], a0, a0, es, A, rfl, rfl, aCb _, h0, h, hk, hE⟩ ?_
 clear h hk hE
 rintro m t w1 ⟨out, L, begun, at_, es, A, rfl, rfl, hbe, hat, h, hk, hE⟩
 have hpl := Z9 h.pl h0
 by_cases hlt : at_ < to
 .have d1 : decide ((at_ : Int) < (to : Int)) = true := by simp; omega
  unfold B8 FU Kn SD LJ
  simp (disch := omega) only [gI, jD, dJ, stepR_skip, hJ, iC, iM, iP, iL, iN, jJ, iX, gM, iE, iG, iI, iH, gY, iO, hZ, iF, iV, iW, iJ, gR, iT, iQ, iD, jV, jW, kF, kD, kC, kG, kA, kB, kE, gD, Result.ok.injEq, Next.value.injEq, true_and, and_true, gX, iA, iU, iR, iS, jF, aB0, gV, gU, gW, gT, gO, gJ, gP, gN, gB, fV, if_true, if_false, aBZ, aB4, aB1, aB2, aB5, aB3, aBY, aBX, fQ, fL, fE, fR, cU, eS, eF, dK, bP, fS, eY, aP, dB, aX, bQ, bM, aO, cO, cJ, eQ, aE, gS, aJ, cK, aT, bU, fT, cI, cF, aD, gA, fD, aN, aF, bO, gQ, aI, eX, dT, dV, gF, dE, fB, cZ, eH, fF, fC, cG, dG, gK, dN, bZ, aS, bV, bT, fN, aG, aH, aQ, bA, bE, cP, bK, aA, fA, aR, cL, fJ, eU, gG, bJ, eL, eN, bY, fW, eZ, eJ, dH, cQ, dD, aY, bD, aL, fZ, aM, dA, eE, bB, cC, fK, dL, gC, fM, fG, fI, dS, aK, cH, cY, fY, fX, fH, dC, aV, dX, fU, cS, eT, fO, cD, bL, dR, aZ, dW, dQ, cM, eM, eK, bF, dF, bG, eD, dU, dZ, bN, cR, cN, dO, bS, cW, cV, fP, cB, eI, eP, gE, dY, dP, dM, dI, bH, bR, bW, bX, aU, cX, aW, d1]
  refine (auJ h.f hk hat htr2).mono ?_
  rintro r w2 ⟨n, off, rfl, hbst, hlong, x2⟩
  have h2 := h.same x2
  have fin : ∀ {w3 : aEl} {es3 : List (RW 4 × aEm)} {A3 : List Int} {at3 n3 off3 : Nat}, Fst w0 w3 p mb ab base bv B to (2 ^ lvl) es3 A3 out L a0 begun -> Kept at3 es3 A3 ∨ Kept (at3 + 1) es3 A3 -> begun <= at3 -> at_ <= at3 -> Bst B to at3 n3 off3 -> 4 <= n3 →
      BW (fun _ _ _ jZ jY lD w => ∃ m, m < to - at_ /\ ∃ (out : aEm) (L : List Sq) (begun at_ : Nat) (es : List (RW 4 × aEm)) (A : List Int), m = to - at_ /\ (jZ, jY, lD) = (out, .int .i64 begun, .int .i64 at_) /\ begun <= at_ /\ at_ <= to /\ Fst w0 w p mb ab base bv B to (2 ^ lvl) es A out L a0 begun /\ Kept at_ es A /\ Ex8 B a0 to at_ es L)
       (.int .i64 to) (.int .i64 lvl) (.pointer (some ⟨p, 0, none⟩)) out (.int .i64 begun) (.int .i64 at3) (.int .i64 n3) (.int .i64 off3) w3 := by
   intro w3 es3 A3 at3 n3 off3 F K hb3 ha3 hbst3 hn3
   have K : Kept (at3 + 1) es3 A3 := by
    rcases K with K | K
    .exact K.mono (by omega)
    .exact K
   refine awM D F h0 K (aCb _) hb3 hbst3 hn3 hb fun w' es' A' out' s F' hto K' => ?_
   exact ⟨to - (at3 + n3), by omega, out', L ++ [s], at3 + n3, at3 + n3, es', A', rfl, rfl, aCb _, hto, F', K', fun _ => .inr (.inr (by simp))⟩
  by_cases hn : n < 4
  .have d2 : decide ((n : Int) < 4) = true := by simp; omega
   simp (disch := omega) only [gI, jD, dJ, stepR_skip, hJ, iC, iM, iP, iL, iN, jJ, iX, gM, iE, iG, iI, iH, gY, iO, hZ, iF, iV, iW, iJ, gR, iT, iQ, iD, jV, jW, kF, kD, kC, kG, kA, kB, kE, gD, Result.ok.injEq, Next.value.injEq, true_and, and_true, gX, iA, iU, iR, iS, jF, aB0, gV, gU, gW, gT, gO, gJ, gP, gN, gB, fV, if_true, if_false, aBZ, aB4, aB1, aB2, aB5, aB3, aBY, aBX, fQ, fL, fE, fR, cU, eS, eF, dK, bP, fS, eY, aP, dB, aX, bQ, bM, aO, cO, cJ, eQ, aE, gS, aJ, cK, aT, bU, fT, cI, cF, aD, gA, fD, aN, aF, bO, gQ, aI, eX, dT, dV, gF, dE, fB, cZ, eH, fF, fC, cG, dG, gK, dN, bZ, aS, bV, bT, fN, aG, aH, aQ, bA, bE, cP, bK, aA, fA, aR, cL, fJ, eU, gG, bJ, eL, eN, bY, fW, eZ, eJ, dH, cQ, dD, aY, bD, aL, fZ, aM, dA, eE, bB, cC, fK, dL, gC, fM, fG, fI, dS, aK, cH, cY, fY, fX, fH, dC, aV, dX, fU, cS, eT, fO, cD, bL, dR, aZ, dW, dQ, cM, eM, eK, bF, dF, bG, eD, dU, dZ, bN, cR, cN, dO, bS, cW, cV, fP, cB, eI, eP, gE, dY, dP, dM, dI, bH, bR, bW, bX, aU, cX, aW, d2]
   refine (Z8 D h2 (hk.mono (by omega)) hlt).mono ?_
   rintro r w3 ⟨A3, h3, k3⟩
   refine ⟨to - (at_ + 1), by omega, out, L, begun, at_ + 1, _, A3, rfl, rfl, by omega, by omega, h3, k3, fun h8 => ?_⟩
   rcases hE h8 with ⟨e1, e2⟩ | ⟨e1, e2⟩ | e
   .subst e1 e2
    refine .inr (.inl ⟨rfl, ?_⟩)
    obtain ⟨_, _, h81, h82⟩ := h8
    unfold noted
    rw [if_pos (by omega), apU, if_pos rfl]
   .exfalso
    subst e1
    have hl := atN h8
    have hky := arQ h8
    obtain ⟨_, _, h81, h82⟩ := h8
    have := hlong (by omega) htr1 0 (by rw [hky]; exact e2) _ hl
    omega
   .exact .inr (.inr e)
  .have d2 : decide ((n : Int) < 4) = false := by simp; omega
   by_cases hl4 : 4 < lvl
   .have d3 : decide ((4 : Int) < (lvl : Int)) = true := by simp; omega
    by_cases ha1 : at_ + 1 < to
    .have d4 : decide ((at_ : Int) + 1 < (to : Int)) = true := by simp; omega
     simp (disch := omega) only [gI, jD, dJ, stepR_skip, hJ, iC, iM, iP, iL, iN, jJ, iX, gM, iE, iG, iI, iH, gY, iO, hZ, iF, iV, iW, iJ, gR, iT, iQ, iD, jV, jW, kF, kD, kC, kG, kA, kB, kE, gD, Result.ok.injEq, Next.value.injEq, true_and, and_true, gX, iA, iU, iR, iS, jF, aB0, gV, gU, gW, gT, gO, gJ, gP, gN, gB, fV, if_true, if_false, aBZ, aB4, aB1, aB2, aB5, aB3, aBY, aBX, fQ, fL, fE, fR, cU, eS, eF, dK, bP, fS, eY, aP, dB, aX, bQ, bM, aO, cO, cJ, eQ, aE, gS, aJ, cK, aT, bU, fT, cI, cF, aD, gA, fD, aN, aF, bO, gQ, aI, eX, dT, dV, gF, dE, fB, cZ, eH, fF, fC, cG, dG, gK, dN, bZ, aS, bV, bT, fN, aG, aH, aQ, bA, bE, cP, bK, aA, fA, aR, cL, fJ, eU, gG, bJ, eL, eN, bY, fW, eZ, eJ, dH, cQ, dD, aY, bD, aL, fZ, aM, dA, eE, bB, cC, fK, dL, gC, fM, fG, fI, dS, aK, cH, cY, fY, fX, fH, dC, aV, dX, fU, cS, eT, fO, cD, bL, dR, aZ, dW, dQ, cM, eM, eK, bF, dF, bG, eD, dU, dZ, bN, cR, cN, dO, bS, cW, cV, fP, cB, eI, eP, gE, dY, dP, dM, dI, bH, bR, bW, bX, aU, cX, aW, d2, d3, d4]
     refine (Z8 D h2 (hk.mono (by omega)) hlt).mono ?_
     rintro r w3 ⟨A3, h3, k3⟩
     have e1 : (at_ : Int) + 1 = ((at_ + 1 : Nat) : Int) := by omega
     rw [e1]
     refine (auJ h3.f k3 (by omega) htr2).mono ?_
     rintro r w4 ⟨n4, off4, rfl, hbst4, _, x4⟩
     have h4 := h3.same x4
     have hm4 : n4 <= 131074 /\ n <= 131074 := by
      refine ⟨?_, ?_⟩
      .rcases hbst4.one with ⟨rfl, _⟩ | ⟨_, _, _, hl⟩
       .omega
       .exact hl.most
      .rcases hbst.one with ⟨rfl, _⟩ | ⟨_, _, _, hl⟩
       .omega
       .exact hl.most
     by_cases hg : n + 1 < n4
     .have d5 : decide ((n : Int) + 1 < (n4 : Int)) = true := by simp; omega
      simp (disch := omega) only [gI, jD, dJ, stepR_skip, hJ, iC, iM, iP, iL, iN, jJ, iX, gM, iE, iG, iI, iH, gY, iO, hZ, iF, iV, iW, iJ, gR, iT, iQ, iD, jV, jW, kF, kD, kC, kG, kA, kB, kE, gD, Result.ok.injEq, Next.value.injEq, true_and, and_true, gX, iA, iU, iR, iS, jF, aB0, gV, gU, gW, gT, gO, gJ, gP, gN, gB, fV, if_true, if_false, aBZ, aB4, aB1, aB2, aB5, aB3, aBY, aBX, fQ, fL, fE, fR, cU, eS, eF, dK, bP, fS, eY, aP, dB, aX, bQ, bM, aO, cO, cJ, eQ, aE, gS, aJ, cK, aT, bU, fT, cI, cF, aD, gA, fD, aN, aF, bO, gQ, aI, eX, dT, dV, gF, dE, fB, cZ, eH, fF, fC, cG, dG, gK, dN, bZ, aS, bV, bT, fN, aG, aH, aQ, bA, bE, cP, bK, aA, fA, aR, cL, fJ, eU, gG, bJ, eL, eN, bY, fW, eZ, eJ, dH, cQ, dD, aY, bD, aL, fZ, aM, dA, eE, bB, cC, fK, dL, gC, fM, fG, fI, dS, aK, cH, cY, fY, fX, fH, dC, aV, dX, fU, cS, eT, fO, cD, bL, dR, aZ, dW, dQ, cM, eM, eK, bF, dF, bG, eD, dU, dZ, bN, cR, cN, dO, bS, cW, cV, fP, cB, eI, eP, gE, dY, dP, dM, dI, bH, bR, bW, bX, aU, cX, aW, d5]
      exact fin h4 (.inl k3) (by omega) (by omega) hbst4 (by omega)
     .have d5 : decide ((n : Int) + 1 < (n4 : Int)) = false := by simp; omega
      simp (disch := omega) only [gI, jD, dJ, stepR_skip, hJ, iC, iM, iP, iL, iN, jJ, iX, gM, iE, iG, iI, iH, gY, iO, hZ, iF, iV, iW, iJ, gR, iT, iQ, iD, jV, jW, kF, kD, kC, kG, kA, kB, kE, gD, Result.ok.injEq, Next.value.injEq, true_and, and_true, gX, iA, iU, iR, iS, jF, aB0, gV, gU, gW, gT, gO, gJ, gP, gN, gB, fV, if_true, if_false, aBZ, aB4, aB1, aB2, aB5, aB3, aBY, aBX, fQ, fL, fE, fR, cU, eS, eF, dK, bP, fS, eY, aP, dB, aX, bQ, bM, aO, cO, cJ, eQ, aE, gS, aJ, cK, aT, bU, fT, cI, cF, aD, gA, fD, aN, aF, bO, gQ, aI, eX, dT, dV, gF, dE, fB, cZ, eH, fF, fC, cG, dG, gK, dN, bZ, aS, bV, bT, fN, aG, aH, aQ, bA, bE, cP, bK, aA, fA, aR, cL, fJ, eU, gG, bJ, eL, eN, bY, fW, eZ, eJ, dH, cQ, dD, aY, bD, aL, fZ, aM, dA, eE, bB, cC, fK, dL, gC, fM, fG, fI, dS, aK, cH, cY, fY, fX, fH, dC, aV, dX, fU, cS, eT, fO, cD, bL, dR, aZ, dW, dQ, cM, eM, eK, bF, dF, bG, eD, dU, dZ, bN, cR, cN, dO, bS, cW, cV, fP, cB, eI, eP, gE, dY, dP, dM, dI, bH, bR, bW, bX, aU, cX, aW, d5]
      exact fin h4 (.inr k3) (by omega) (by omega) hbst (by omega)
    .have d4 : decide ((at_ : Int) + 1 < (to : Int)) = false := by simp; omega
     simp (disch := omega) only [gI, jD, dJ, stepR_skip, hJ, iC, iM, iP, iL, iN, jJ, iX, gM, iE, iG, iI, iH, gY, iO, hZ, iF, iV, iW, iJ, gR, iT, iQ, iD, jV, jW, kF, kD, kC, kG, kA, kB, kE, gD, Result.ok.injEq, Next.value.injEq, true_and, and_true, gX, iA, iU, iR, iS, jF, aB0, gV, gU, gW, gT, gO, gJ, gP, gN, gB, fV, if_true, if_false, aBZ, aB4, aB1, aB2, aB5, aB3, aBY, aBX, fQ, fL, fE, fR, cU, eS, eF, dK, bP, fS, eY, aP, dB, aX, bQ, bM, aO, cO, cJ, eQ, aE, gS, aJ, cK, aT, bU, fT, cI, cF, aD, gA, fD, aN, aF, bO, gQ, aI, eX, dT, dV, gF, dE, fB, cZ, eH, fF, fC, cG, dG, gK, dN, bZ, aS, bV, bT, fN, aG, aH, aQ, bA, bE, cP, bK, aA, fA, aR, cL, fJ, eU, gG, bJ, eL, eN, bY, fW, eZ, eJ, dH, cQ, dD, aY, bD, aL, fZ, aM, dA, eE, bB, cC, fK, dL, gC, fM, fG, fI, dS, aK, cH, cY, fY, fX, fH, dC, aV, dX, fU, cS, eT, fO, cD, bL, dR, aZ, dW, dQ, cM, eM, eK, bF, dF, bG, eD, dU, dZ, bN, cR, cN, dO, bS, cW, cV, fP, cB, eI, eP, gE, dY, dP, dM, dI, bH, bR, bW, bX, aU, cX, aW, d2, d3, d4]
     exact fin h2 (.inl hk) hbe (aCb _) hbst (by omega)
   .have d3 : decide ((4 : Int) < (lvl : Int)) = false := by simp; omega
    simp (disch := omega) only [gI, jD, dJ, stepR_skip, hJ, iC, iM, iP, iL, iN, jJ, iX, gM, iE, iG, iI, iH, gY, iO, hZ, iF, iV, iW, iJ, gR, iT, iQ, iD, jV, jW, kF, kD, kC, kG, kA, kB, kE, gD, Result.ok.injEq, Next.value.injEq, true_and, and_true, gX, iA, iU, iR, iS, jF, aB0, gV, gU, gW, gT, gO, gJ, gP, gN, gB, fV, if_true, if_false, aBZ, aB4, aB1, aB2, aB5, aB3, aBY, aBX, fQ, fL, fE, fR, cU, eS, eF, dK, bP, fS, eY, aP, dB, aX, bQ, bM, aO, cO, cJ, eQ, aE, gS, aJ, cK, aT, bU, fT, cI, cF, aD, gA, fD, aN, aF, bO, gQ, aI, eX, dT, dV, gF, dE, fB, cZ, eH, fF, fC, cG, dG, gK, dN, bZ, aS, bV, bT, fN, aG, aH, aQ, bA, bE, cP, bK, aA, fA, aR, cL, fJ, eU, gG, bJ, eL, eN, bY, fW, eZ, eJ, dH, cQ, dD, aY, bD, aL, fZ, aM, dA, eE, bB, cC, fK, dL, gC, fM, fG, fI, dS, aK, cH, cY, fY, fX, fH, dC, aV, dX, fU, cS, eT, fO, cD, bL, dR, aZ, dW, dQ, cM, eM, eK, bF, dF, bG, eD, dU, dZ, bN, cR, cN, dO, bS, cW, cV, fP, cB, eI, eP, gE, dY, dP, dM, dI, bH, bR, bW, bX, aU, cX, aW, d2, d3]
    exact fin h2 (.inl hk) hbe (aCb _) hbst (by omega)
 .have d1 : decide ((at_ : Int) < (to : Int)) = false := by simp; omega
  unfold B8 FU
  simp (disch := omega) only [gI, jD, dJ, stepR_skip, hJ, iC, iM, iP, iL, iN, jJ, iX, gM, iE, iG, iI, iH, gY, iO, hZ, iF, iV, iW, iJ, gR, iT, iQ, iD, jV, jW, kF, kD, kC, kG, kA, kB, kE, gD, Result.ok.injEq, Next.value.injEq, true_and, and_true, gX, iA, iU, iR, iS, jF, aB0, gV, gU, gW, gT, gO, gJ, gP, gN, gB, fV, if_true, if_false, aBZ, aB4, aB1, aB2, aB5, aB3, aBY, aBX, fQ, fL, fE, fR, cU, eS, eF, dK, bP, fS, eY, aP, dB, aX, bQ, bM, aO, cO, cJ, eQ, aE, gS, aJ, cK, aT, bU, fT, cI, cF, aD, gA, fD, aN, aF, bO, gQ, aI, eX, dT, dV, gF, dE, fB, cZ, eH, fF, fC, cG, dG, gK, dN, bZ, aS, bV, bT, fN, aG, aH, aQ, bA, bE, cP, bK, aA, fA, aR, cL, fJ, eU, gG, bJ, eL, eN, bY, fW, eZ, eJ, dH, cQ, dD, aY, bD, aL, fZ, aM, dA, eE, bB, cC, fK, dL, gC, fM, fG, fI, dS, aK, cH, cY, fY, fX, fH, dC, aV, dX, fU, cS, eT, fO, cD, bL, dR, aZ, dW, dQ, cM, eM, eK, bF, dF, bG, eD, dU, dZ, bN, cR, cN, dO, bS, cW, cV, fP, cB, eI, eP, gE, dY, dP, dM, dI, bH, bR, bW, bX, aU, cX, aW, d1]
  refine hR _ _ _ _ h.o h.pl hpl.2 h.x fun h8 => ?_
  rcases hE h8 with ⟨e1, e2⟩ | ⟨e1, e2⟩ | e
  .obtain ⟨_, _, h81, h82⟩ := h8; omega
  .obtain ⟨_, _, h81, h82⟩ := h8; omega
  .exact e
structure Found (w0 w : aEl) (B : List UInt8) (a0 to lvl : Nat) (r : aEm) : Prop where
 ex : ∃ (v : aEm) (L : List Sq) (b : Nat), r = .tuple #[v, .int .i64 ((to - b : Nat) : Int), .int .i64 0] /\ yW w w0.heap.size 3 v L.length (flat L) /\ aiF B to a0 L b /\ b <= to /\ (lvl = 0 -> L = []) /\ (1 <= lvl -> arE B a0 to -> L ≠ [])
 x : jN w0 w mC
theorem awE (lvl : Nat) (h : lvl <= 9) : IntKind.i64.wrap (1 * 2 ^ (min lvl IntKind.i64.bits)) = ((2 ^ lvl : Nat) : Int) := by
 have : ∀ k : Fin 10, IntKind.i64.wrap (1 * 2 ^ (min k.val IntKind.i64.bits)) = ((2 ^ k.val : Nat) : Int) := by decide
 exact this ⟨lvl, by omega⟩
theorem adS {w0 w : aEl} {p mb ab : Nat} {bv : aEm} {B : List UInt8} {to lvl a0 : Nat} (hl1 : 1 <= lvl) (hlv : lvl <= 9) (h0 : a0 <= to) (hto : to <= B.length) (hb : B.length <= 4294967295) (hbv : Bs w0 bv B)
 (hx : jN w0 w mC) (o : lN w p [bv, .int .i64 to, .map (some mb), .slice (some ⟨ab, 0, none⟩) to to, .int .i64 ((2 ^ lvl : Nat) : Int)]) (m : Mp w mb WN ([] : List (RW 4 × aEm))) (oa : lN w ab (List.replicate to (.int .i64 0)))
 (hne : p ≠ mb /\ p ≠ ab /\ mb ≠ ab) (hlo : w0.heap.size <= p /\ w0.heap.size <= mb /\ w0.heap.size <= ab) :
 F7 (fun r w' => Found w0 w' B a0 to lvl r) (.int .i64 a0) (.int .i64 to) (.int .i64 lvl) (.pointer (some ⟨p, 0, none⟩)) w := by
 have D : Dst w0 p mb ab w.heap.size bv := ⟨hne, hlo, ⟨o.lt, m.lt, oa.lt⟩, hbv.old⟩
 have F : Fst w0 w p mb ab w.heap.size bv B to (2 ^ lvl) [] (List.replicate to 0) (.slice none 0 0) [] a0 a0 :=
  ⟨⟨o, hbv.ext hx (kJ _), m, by simpa using oa, by simp, hto, by omega⟩, yW.nil _ _ _, rfl, hx, aCb _⟩
 have K : Kept 0 ([] : List (RW 4 × aEm)) (List.replicate to (0 : Int)) := ⟨fun q hq => absurd hq (by simp), fun i hi => by simp⟩
 unfold F7 J7 KJ LN KT
 refine kP.rule (fun m t w' => ∃ (j : Nat) (es : List (RW 4 × aEm)) (A : List Int), m = a0 - j /\ t = .int .i64 j /\ j <= a0 /\ Fst w0 w' p mb ab w.heap.size bv B to (2 ^ lvl) es A (.slice none 0 0) [] a0 a0 /\ Kept j es A /\ (j = 0 -> es = [])) a0
  ⟨0, [], _, rfl, rfl, by omega, F, K, fun _ => rfl⟩ ?_
 rintro m t w1 ⟨j, es, A, rfl, rfl, hj, h, hk, he⟩
 by_cases hlt : j < a0
 .have d1 : decide ((j : Int) < (a0 : Int)) = true := by simp; omega
  simp (disch := omega) only [B1, gI, jD, dJ, stepR_skip, hJ, iC, iM, iP, iL, iN, jJ, iX, gM, iE, iG, iI, iH, gY, iO, hZ, iF, iV, iW, iJ, gR, iT, iQ, iD, jV, jW, kF, kD, kC, kG, kA, kB, kE, gD, Result.ok.injEq, Next.value.injEq, true_and, and_true, gX, iA, iU, iR, iS, jF, aB0, gV, gU, gW, gT, gO, gJ, gP, gN, gB, fV, if_true, if_false, aBZ, aB4, aB1, aB2, aB5, aB3, aBY, aBX, fQ, fL, fE, fR, cU, eS, eF, dK, bP, fS, eY, aP, dB, aX, bQ, bM, aO, cO, cJ, eQ, aE, gS, aJ, cK, aT, bU, fT, cI, cF, aD, gA, fD, aN, aF, bO, gQ, aI, eX, dT, dV, gF, dE, fB, cZ, eH, fF, fC, cG, dG, gK, dN, bZ, aS, bV, bT, fN, aG, aH, aQ, bA, bE, cP, bK, aA, fA, aR, cL, fJ, eU, gG, bJ, eL, eN, bY, fW, eZ, eJ, dH, cQ, dD, aY, bD, aL, fZ, aM, dA, eE, bB, cC, fK, dL, gC, fM, fG, fI, dS, aK, cH, cY, fY, fX, fH, dC, aV, dX, fU, cS, eT, fO, cD, bL, dR, aZ, dW, dQ, cM, eM, eK, bF, dF, bG, eD, dU, dZ, bN, cR, cN, dO, bS, cW, cV, fP, cB, eI, eP, gE, dY, dP, dM, dI, bH, bR, bW, bX, aU, cX, aW, d1]
  refine (Z8 D h (hk.mono (by omega)) (by omega)).mono ?_
  rintro r w2 ⟨A2, f2, k2⟩
  exact ⟨a0 - (j + 1), by omega, j + 1, _, A2, rfl, rfl, by omega, f2, k2, fun h => by omega⟩
 .have d1 : decide ((j : Int) < (a0 : Int)) = false := by simp; omega
  have : j = a0 := by omega
  subst this
  simp (disch := omega) only [B1, gI, jD, dJ, stepR_skip, hJ, iC, iM, iP, iL, iN, jJ, iX, gM, iE, iG, iI, iH, gY, iO, hZ, iF, iV, iW, iJ, gR, iT, iQ, iD, jV, jW, kF, kD, kC, kG, kA, kB, kE, gD, Result.ok.injEq, Next.value.injEq, true_and, and_true, gX, iA, iU, iR, iS, jF, aB0, gV, gU, gW, gT, gO, gJ, gP, gN, gB, fV, if_true, if_false, aBZ, aB4, aB1, aB2, aB5, aB3, aBY, aBX, fQ, fL, fE, fR, cU, eS, eF, dK, bP, fS, eY, aP, dB, aX, bQ, bM, aO, cO, cJ, eQ, aE, gS, aJ, cK, aT, bU, fT, cI, cF, aD, gA, fD, aN, aF, bO, gQ, aI, eX, dT, dV, gF, dE, fB, cZ, eH, fF, fC, cG, dG, gK, dN, bZ, aS, bV, bT, fN, aG, aH, aQ, bA, bE, cP, bK, aA, fA, aR, cL, fJ, eU, gG, bJ, eL, eN, bY, fW, eZ, eJ, dH, cQ, dD, aY, bD, aL, fZ, aM, dA, eE, bB, cC, fK, dL, gC, fM, fG, fI, dS, aK, cH, cY, fY, fX, fH, dC, aV, dX, fU, cS, eT, fO, cD, bL, dR, aZ, dW, dQ, cM, eM, eK, bF, dF, bG, eD, dU, dZ, bN, cR, cN, dO, bS, cW, cV, fP, cB, eI, eP, gE, dY, dP, dM, dI, bH, bR, bW, bX, aU, cX, aW, d1]
  unfold KE Km Lq Lb Lt Kl
  refine azJ hlv h0 hb D h hk (fun h8 => .inl ⟨h8.2.1, he h8.2.1⟩) fun w' out L b ho hpl hbt hx' h8 => ?_
  unfold Ix
  have e : (to : Int) - (b : Int) = ((to - b : Nat) : Int) := by omega
  simp (disch := omega) only [gI, jD, dJ, stepR_skip, hJ, iC, iM, iP, iL, iN, jJ, iX, gM, iE, iG, iI, iH, gY, iO, hZ, iF, iV, iW, iJ, gR, iT, iQ, iD, jV, jW, kF, kD, kC, kG, kA, kB, kE, gD, Result.ok.injEq, Next.value.injEq, true_and, and_true, gX, iA, iU, iR, iS, jF, aB0, gV, gU, gW, gT, gO, gJ, gP, gN, gB, fV, if_true, if_false, aBZ, aB4, aB1, aB2, aB5, aB3, aBY, aBX, fQ, fL, fE, fR, cU, eS, eF, dK, bP, fS, eY, aP, dB, aX, bQ, bM, aO, cO, cJ, eQ, aE, gS, aJ, cK, aT, bU, fT, cI, cF, aD, gA, fD, aN, aF, bO, gQ, aI, eX, dT, dV, gF, dE, fB, cZ, eH, fF, fC, cG, dG, gK, dN, bZ, aS, bV, bT, fN, aG, aH, aQ, bA, bE, cP, bK, aA, fA, aR, cL, fJ, eU, gG, bJ, eL, eN, bY, fW, eZ, eJ, dH, cQ, dD, aY, bD, aL, fZ, aM, dA, eE, bB, cC, fK, dL, gC, fM, fG, fI, dS, aK, cH, cY, fY, fX, fH, dC, aV, dX, fU, cS, eT, fO, cD, bL, dR, aZ, dW, dQ, cM, eM, eK, bF, dF, bG, eD, dU, dZ, bN, cR, cN, dO, bS, cW, cV, fP, cB, eI, eP, gE, dY, dP, dM, dI, bH, bR, bW, bX, aU, cX, aW, e]
  exact ⟨⟨out, L, b, rfl, yW.lower ho hx.size, hpl, hbt, fun h => by omega, fun _ => h8⟩, hx'⟩
theorem azI {w : aEl} {bv : aEm} {B : List UInt8} {to lvl a0 : Nat} (hlv : lvl <= 9) (h0 : a0 <= to) (hto : to <= B.length) (hb : B.length <= 4294967295) (hbv : Bs w bv B) :
 jE pg Gm #[bv, .int .i64 a0, .int .i64 to, .int .i64 lvl] w (fun r w' => Found w w' B a0 to lvl r) := by
 refine ZV ?_
 obtain ⟨a, c, hv, hc⟩ := hbv.len
 simp only [aB6] at hv hc
 unfold abX Ly Lm
 have d1 : decide ((a0 : Int) < 0) = false := by simp
 have d2 : decide ((to : Int) < (a0 : Int)) = false := by simp; omega
 have d3 : decide ((B.length : Int) < (to : Int)) = false := by simp; omega
 have d4 : decide ((lvl : Int) < 0) = false := by simp
 have d5 : decide ((9 : Int) < (lvl : Int)) = false := by simp; omega
 subst hv
 have ln := fQ (ty := 3) a B.length c w
 by_cases hl : lvl = 0
 .subst hl
  have d6 : (((0 : Nat) : Int) == 0) = true := by simp
  have e : (to : Int) - (a0 : Int) = ((to - a0 : Nat) : Int) := by omega
  simp (disch := omega) only [gI, jD, dJ, stepR_skip, hJ, iC, iM, iP, iL, iN, jJ, iX, gM, iE, iG, iI, iH, gY, iO, hZ, iF, iV, iW, iJ, gR, iT, iQ, iD, jV, jW, kF, kD, kC, kG, kA, kB, kE, gD, Result.ok.injEq, Next.value.injEq, true_and, and_true, gX, iA, iU, iR, iS, jF, aB0, gV, gU, gW, gT, gO, gJ, gP, gN, gB, fV, if_true, if_false, aBZ, aB4, aB1, aB2, aB5, aB3, aBY, aBX, fQ, fL, fE, fR, cU, eS, eF, dK, bP, fS, eY, aP, dB, aX, bQ, bM, aO, cO, cJ, eQ, aE, gS, aJ, cK, aT, bU, fT, cI, cF, aD, gA, fD, aN, aF, bO, gQ, aI, eX, dT, dV, gF, dE, fB, cZ, eH, fF, fC, cG, dG, gK, dN, bZ, aS, bV, bT, fN, aG, aH, aQ, bA, bE, cP, bK, aA, fA, aR, cL, fJ, eU, gG, bJ, eL, eN, bY, fW, eZ, eJ, dH, cQ, dD, aY, bD, aL, fZ, aM, dA, eE, bB, cC, fK, dL, gC, fM, fG, fI, dS, aK, cH, cY, fY, fX, fH, dC, aV, dX, fU, cS, eT, fO, cD, bL, dR, aZ, dW, dQ, cM, eM, eK, bF, dF, bG, eD, dU, dZ, bN, cR, cN, dO, bS, cW, cV, fP, cB, eI, eP, gE, dY, dP, dM, dI, bH, bR, bW, bX, aU, cX, aW, ln, d1, d2, d3, d4, d5, d6, e]
  exact ⟨⟨_, [], a0, rfl, yW.nil _ _ _, rfl, h0, fun _ => rfl, fun h => by omega⟩, jN.refl _ _⟩
 .have d6 : ((lvl : Int) == 0) = false := by simpa using hl
  have e1 := awE lvl hlv
  have hbd := hbv.dr
  simp (disch := omega) only [gI, jD, dJ, stepR_skip, hJ, iC, iM, iP, iL, iN, jJ, iX, gM, iE, iG, iI, iH, gY, iO, hZ, iF, iV, iW, iJ, gR, iT, iQ, iD, jV, jW, kF, kD, kC, kG, kA, kB, kE, gD, Result.ok.injEq, Next.value.injEq, true_and, and_true, gX, iA, iU, iR, iS, jF, aB0, gV, gU, gW, gT, gO, gJ, gP, gN, gB, fV, if_true, if_false, aBZ, aB4, aB1, aB2, aB5, aB3, aBY, aBX, fQ, fL, fE, fR, cU, eS, eF, dK, bP, fS, eY, aP, dB, aX, bQ, bM, aO, cO, cJ, eQ, aE, gS, aJ, cK, aT, bU, fT, cI, cF, aD, gA, fD, aN, aF, bO, gQ, aI, eX, dT, dV, gF, dE, fB, cZ, eH, fF, fC, cG, dG, gK, dN, bZ, aS, bV, bT, fN, aG, aH, aQ, bA, bE, cP, bK, aA, fA, aR, cL, fJ, eU, gG, bJ, eL, eN, bY, fW, eZ, eJ, dH, cQ, dD, aY, bD, aL, fZ, aM, dA, eE, bB, cC, fK, dL, gC, fM, fG, fI, dS, aK, cH, cY, fY, fX, fH, dC, aV, dX, fU, cS, eT, fO, cD, bL, dR, aZ, dW, dQ, cM, eM, eK, bF, dF, bG, eD, dU, dZ, bN, cR, cN, dO, bS, cW, cV, fP, cB, eI, eP, gE, dY, dP, dM, dI, bH, bR, bW, bX, aU, cX, aW, ln, d1, d2, d3, d4, d5, d6]
  refine atD ?_ ?_
  .refine IV fun w1 m1 x1 s1 => ?_
   refine Yr (by omega) (by omega) fun w2 o2 x2 s2 => ?_
   simp (disch := omega) only [gI, jD, dJ, stepR_skip, hJ, iC, iM, iP, iL, iN, jJ, iX, gM, iE, iG, iI, iH, gY, iO, hZ, iF, iV, iW, iJ, gR, iT, iQ, iD, jV, jW, kF, kD, kC, kG, kA, kB, kE, gD, Result.ok.injEq, Next.value.injEq, true_and, and_true, gX, iA, iU, iR, iS, jF, aB0, gV, gU, gW, gT, gO, gJ, gP, gN, gB, fV, if_true, if_false, aBZ, aB4, aB1, aB2, aB5, aB3, aBY, aBX, fQ, fL, fE, fR, cU, eS, eF, dK, bP, fS, eY, aP, dB, aX, bQ, bM, aO, cO, cJ, eQ, aE, gS, aJ, cK, aT, bU, fT, cI, cF, aD, gA, fD, aN, aF, bO, gQ, aI, eX, dT, dV, gF, dE, fB, cZ, eH, fF, fC, cG, dG, gK, dN, bZ, aS, bV, bT, fN, aG, aH, aQ, bA, bE, cP, bK, aA, fA, aR, cL, fJ, eU, gG, bJ, eL, eN, bY, fW, eZ, eJ, dH, cQ, dD, aY, bD, aL, fZ, aM, dA, eE, bB, cC, fK, dL, gC, fM, fG, fI, dS, aK, cH, cY, fY, fX, fH, dC, aV, dX, fU, cS, eT, fO, cD, bL, dR, aZ, dW, dQ, cM, eM, eK, bF, dF, bG, eD, dU, dZ, bN, cR, cN, dO, bS, cW, cV, fP, cB, eI, eP, gE, dY, dP, dM, dI, bH, bR, bW, bX, aU, cX, aW, e1]
   refine Ah fun w3 o3 x3 s3 => ?_
   refine adS (w0 := w) (by omega) hlv h0 hto hb hbv ((((jN.dr w mC).seq x1).seq x2).seq x3) o3 ((m1.ext x2 fun h => h).ext x3 fun h => h) (o2.ext x3 fun h => h) ?_ ?_
   .have : (dr w).heap.size = w.heap.size := rfl
    refine ⟨?_, ?_, ?_⟩ <;> omega
   .have : (dr w).heap.size = w.heap.size := rfl
    refine ⟨?_, ?_, ?_⟩ <;> omega
  .refine Yr (by omega) (by omega) fun w1 o1 x1 s1 => ?_
   refine IV fun w2 m2 x2 s2 => ?_
   simp (disch := omega) only [gI, jD, dJ, stepR_skip, hJ, iC, iM, iP, iL, iN, jJ, iX, gM, iE, iG, iI, iH, gY, iO, hZ, iF, iV, iW, iJ, gR, iT, iQ, iD, jV, jW, kF, kD, kC, kG, kA, kB, kE, gD, Result.ok.injEq, Next.value.injEq, true_and, and_true, gX, iA, iU, iR, iS, jF, aB0, gV, gU, gW, gT, gO, gJ, gP, gN, gB, fV, if_true, if_false, aBZ, aB4, aB1, aB2, aB5, aB3, aBY, aBX, fQ, fL, fE, fR, cU, eS, eF, dK, bP, fS, eY, aP, dB, aX, bQ, bM, aO, cO, cJ, eQ, aE, gS, aJ, cK, aT, bU, fT, cI, cF, aD, gA, fD, aN, aF, bO, gQ, aI, eX, dT, dV, gF, dE, fB, cZ, eH, fF, fC, cG, dG, gK, dN, bZ, aS, bV, bT, fN, aG, aH, aQ, bA, bE, cP, bK, aA, fA, aR, cL, fJ, eU, gG, bJ, eL, eN, bY, fW, eZ, eJ, dH, cQ, dD, aY, bD, aL, fZ, aM, dA, eE, bB, cC, fK, dL, gC, fM, fG, fI, dS, aK, cH, cY, fY, fX, fH, dC, aV, dX, fU, cS, eT, fO, cD, bL, dR, aZ, dW, dQ, cM, eM, eK, bF, dF, bG, eD, dU, dZ, bN, cR, cN, dO, bS, cW, cV, fP, cB, eI, eP, gE, dY, dP, dM, dI, bH, bR, bW, bX, aU, cX, aW, e1]
   refine Ah fun w3 o3 x3 s3 => ?_
   refine adS (w0 := w) (by omega) hlv h0 hto hb hbv ((((jN.dr w mC).seq x1).seq x2).seq x3) o3 (m2.ext x3 fun h => h) ((o1.ext x2 fun h => h).ext x3 fun h => h) ?_ ?_
   .have : (dr w).heap.size = w.heap.size := rfl
    refine ⟨?_, ?_, ?_⟩ <;> omega
   .have : (dr w).heap.size = w.heap.size := rfl
    refine ⟨?_, ?_, ?_⟩ <;> omega
end Go.Proofs.YtoecppploooloaaGreatDoor
namespace Go.En
open Go
section
variable {P : Program} {w : aEl} {t e : TypeId}
theorem ahQ {S : Nat -> Prop} {sz n m : Nat} {i : TypeInfo} {z : aEm} {ty t2 : TypeId} {k : IntKind} (hu : P.underlying t = some (.slice e)) (hu2 : P.underlying t2 = some (.int k)) (hi : P.info? e = some i) (hsz : i.size = sz) (hz : i.zero = some z) (hzs : z.cells.size = sz)
 {v : aEm} {l : List aEm} (h : GX w S sz v n l) (hsz0 : 0 < sz) (hone : ∀ y ∈ z.cells.toList, one y = true) (hb : ∀ b, w.heap.size <= b -> S b)
 (hn : n + m <= 9223372036854775807) (hbytes : (n + m) * i.bytes <= 140737488355328) (hmb : m * i.bytes <= 140737488355328)
 {K : aEm -> aEl -> Prop} (hk : ∀ v' w', GX w' S sz v' (n + m) (l ++ (Builtin.zeroCells z.cells m).toList) -> jN w w' S -> K v' w') : gI P (nX .append #[t, t2] ty [v, .int k m]) w K := by
 generalize hnews : (Builtin.zeroCells z.cells m).toList = news at *
 have hnl : news.length = m * sz := by rw [<- hnews, aDt, xP, hzs]
 have hone' : ∀ y ∈ news, one y = true := by
  intro y hy
  rw [<- hnews] at hy
  simp only [Builtin.zeroCells, Array.toList_map, aCU] at hy
  obtain ⟨j, _, rfl⟩ := hy
  refine hone _ ?_
  have : j % z.cells.size < z.cells.size := aD6 _ (by omega)
  rw [getElem!_pos z.cells _ this]
  exact Array.getElem_mem_toList this
 have hmw : IntKind.i64.wrap ((m : Nat) : Int) = (m : Int) := gX (by omega) (by omega)
 have hm0 : ¬ ((m : Int) < 0) := by omega
 have hmx : ¬ ((m : Int) * (i.bytes : Nat) > 2 ^ 48) := by
  have : (m : Int) * (i.bytes : Nat) = ((m * i.bytes : Nat) : Int) := by simp
  rw [this]; omega
 have has : ∀ w, (asInt (.int k m)).run P w = .ok (m : Int) w := fun w => rfl
 have hz' : ∀ w, (zeroValue e).run P w = .ok z w := fun w => by simp [zeroValue, typeInfo, hi, hz]
 have hnw : ∀ w, (if m * sz = 0 then pure #[] else do pure (Builtin.zeroCells (<- zeroValue e).cells m) : Sem (Array aEm)).run P w = .ok news.toArray w := fun w => by
  by_cases h0 : m * sz = 0
  .rw [if_pos h0, Sem.run_pure]
   have : news = [] := aCK.1 (by omega)
   rw [this]
  .rw [if_neg h0, Sem.run_bind, hz', Result.andThen_ok, Sem.run_pure, <- hnews, Array.toArray_toList]
 have hmax : IntKind.i64.max = 9223372036854775807 := by decide
 have hnot : ¬ (((n + m : Nat) : Int) > IntKind.i64.max) := by rw [hmax]; omega
 have hlen := h.1
 rcases h.2 with ⟨rfl, rfl⟩ | ⟨b, c, rest, rfl, h2, h3, h4, h5⟩
 .have hl0 : l = [] := aCK.1 (by omega)
  subst hl0
  by_cases hm : m = 0
  .subst hm
   have hn0 : news = [] := aCK.1 (by omega)
   subst hn0
   have : (nX .append #[t, t2] ty [.slice none 0 0, .int k (0 : Nat)]).run P w = .ok (.value (.slice none 0 0)) w := by
    unfold nX builtin
    simp only [Builtin.append_, aCY, aBX, aBY]
    simp only [underlying, typeInfo, Sem.run_bind, run_program, Result.andThen_ok, hu, hu2, hi, Sem.run_pure, lI hi, hsz, has, hmw, hm0, hmx, if_true, if_false, aB0, aB5, aBZ, aCb, aCR, hnw]
   unfold gI
   rw [this]
   exact hk _ _ ⟨by simp, .inl ⟨rfl, by omega⟩⟩ (jN.refl _ _)
  .have hfit := growslice_fits (need := 0 + m) (old := 0) (bytes := i.bytes) (by omega) (by omega)
   have hfit' : ¬ (Builtin.nextslicecap (0 + m) 0 * i.bytes > 2 ^ 48) := by omega
   have hle : ¬ (0 + m <= 0) := by omega
   have hq : (Question.appendCap (0 + m) 0 e).forced = false := rfl
   obtain ⟨r, hr⟩ : ∃ r, (Question.appendCap (0 + m) 0 e).cut (w.tape w.drawn (.appendCap (0 + m) 0 e)) = m + r :=
    ⟨(w.tape w.drawn (.appendCap (0 + m) 0 e)) % (2 ^ 63 - (0 + m)), by simp only [Question.cut]; omega⟩
   have : (nX .append #[t, t2] ty [.slice none 0 0, .int k m]).run P w = .ok (.value (.slice (some ⟨w.heap.size, 0, none⟩) (0 + m) (m + r))) ((dr w).alloc (.cells (news ++ (Builtin.zeroCells z.cells (m + r - (0 + m))).toList).toArray e)) := by
    unfold nX builtin
    simp only [Builtin.append_, aCY, aBX, aBY]
    simp only [underlying, typeInfo, Sem.run_bind, run_program, Result.andThen_ok, hu, hu2, hi, Sem.run_pure, lI hi, hsz, has, hmw, hm0, hmx, if_true, if_false, aB0, aB5, aBZ, hle, hnot, false_and, hfit', run_choose, hq, hr, run_askRoom]
    change ((Sem.run P _ (dr w)).andThen _).andThen _ = _
    simp only [Sem.run_bind, hnw, run_firstCells_none, Result.andThen_ok, hz', Sem.run_pure, newRow, run_newObj]
    have e1 : (#[] ++ news.toArray ++ Builtin.zeroCells z.cells (m + r - (0 + m)) : Array aEm) = (news ++ (Builtin.zeroCells z.cells (m + r - (0 + m))).toList).toArray := by
     apply Array.ext'; simp
    rw [e1]
    rfl
   unfold gI
   rw [this]
   refine hk _ _ ⟨by simp only [aCT]; rw [hnl, aB4], .inr ⟨w.heap.size, m + r, (Builtin.zeroCells z.cells (m + r - (0 + m))).toList, by rw [aB4], hb _ (aCb _), lN.alloc (dr w) _ _, ?_, by omega⟩⟩ ((jN.dr w _).seq (jN.alloc _ _ _))
   simp only [aCT, aB7, aDt, xP, hzs, hnl]
   rw [show m + r - (0 + m) = r from by omega, aCQ]
 .by_cases hc : n + m <= c
  .have hroom : news.length <= rest.length := by
    rw [aB7, hlen] at h4
    have : (n + m) * sz <= c * sz := aCv _ hc
    rw [aCQ] at this; omega
   obtain ⟨w', s1, s2, s3, s4, _⟩ := GL (P := P) (M := S) h2 news w (n * sz) 0 (l ++ rest) h3 (by rw [aB7, hlen]; omega) hone'
   have : (nX .append #[t, t2] ty [.slice (some ⟨b, 0, none⟩) n c, .int k m]).run P w = .ok (.value (.slice (some ⟨b, 0, none⟩) (n + m) c)) w' := by
    unfold nX builtin
    simp only [Builtin.append_, aCY, aBX, aBY]
    simp only [underlying, typeInfo, Sem.run_bind, run_program, Result.andThen_ok, hu, hu2, hi, Sem.run_pure, lI hi, hsz, has, hmw, hm0, hmx, if_true, if_false, aB0, aB5, aBZ, hc, hnw, Iq, aB4, s1]
   unfold gI
   rw [this]
   rw [aCR, <- hlen, Vp _ _ _ hroom] at s2
   refine hk _ _ ⟨by rw [aB7, hlen, hnl, aCQ], .inr ⟨b, c, rest.drop news.length, rfl, h2, s2, ?_, hc⟩⟩ s3
   rw [<- h4]; simp; omega
  .have hfit := growslice_fits (need := n + m) (old := c) (bytes := i.bytes) (by omega) hbytes
   have hfit' : ¬ (Builtin.nextslicecap (n + m) c * i.bytes > 2 ^ 48) := by omega
   have hq : (Question.appendCap (n + m) c e).forced = false := rfl
   obtain ⟨r, hr⟩ : ∃ r, (Question.appendCap (n + m) c e).cut (w.tape w.drawn (.appendCap (n + m) c e)) = n + m + r :=
    ⟨(w.tape w.drawn (.appendCap (n + m) c e)) % (2 ^ 63 - (n + m)), by simp only [Question.cut]⟩
   have hold : Cl (dr w) sz (.slice (some ⟨b, 0, none⟩) n c) n l := ⟨_, _, rfl, hlen, fun _ => ⟨b, 0, rfl, fun i hi => by
    show w.cell? _ = _
    rw [h3.cell, aB4, aCm hi]⟩⟩
   have : (nX .append #[t, t2] ty [.slice (some ⟨b, 0, none⟩) n c, .int k m]).run P w = .ok (.value (.slice (some ⟨w.heap.size, 0, none⟩) (n + m) (n + m + r))) ((dr w).alloc (.cells (l ++ news ++ (Builtin.zeroCells z.cells (n + m + r - (n + m))).toList).toArray e)) := by
    have hfo := DW (P := P) hold
    unfold nX builtin
    simp only [Builtin.append_, aCY, aBX, aBY]
    simp only [underlying, typeInfo, Sem.run_bind, run_program, Result.andThen_ok, hu, hu2, hi, Sem.run_pure, lI hi, hsz, has, hmw, hm0, hmx, if_true, if_false, aB0, aB5, aBZ, hc, hnot, false_and, hfit', run_choose, hq, hr, run_askRoom]
    change ((Sem.run P _ (dr w)).andThen _).andThen _ = _
    simp only [Sem.run_bind, hnw, hfo, Result.andThen_ok, hz', Sem.run_pure, newRow, run_newObj]
    have e1 : (l.toArray ++ news.toArray ++ Builtin.zeroCells z.cells (n + m + r - (n + m)) : Array aEm) = (l ++ news ++ (Builtin.zeroCells z.cells (n + m + r - (n + m))).toList).toArray := by
     apply Array.ext'; simp
    rw [e1]
    rfl
   unfold gI
   rw [this]
   refine hk _ _ ⟨by rw [aB7, hlen, hnl, aCQ], .inr ⟨w.heap.size, n + m + r, _, rfl, hb _ (aCb _), lN.alloc (dr w) _ _, ?_, by omega⟩⟩ ((jN.dr w _).seq (jN.alloc _ _ _))
   simp only [aB7, aDt, xP, hzs, hnl, hlen]
   rw [show n + m + r - (n + m) = r from by omega, aCQ, aCQ]
end
end Go.En
namespace Go.En
open Go
theorem ayU {P : Program} {w : aEl} {t e ty : TypeId} (hu : P.underlying t = some (.slice e)) (x : Option Addr) (n c : Nat) : (nX .cap #[t] ty [.slice x n c]).run P w = .ok (.value (.int .i64 c)) w := by
 simp [nX, builtin, Builtin.cap_, underlying, hu, goInt]
end Go.En
namespace Go.Proofs.YtoecppploooloaaGreatDoor
open Go Go.En Go.Pu
set_option maxRecDepth 4000
set_option linter.unusedSimpArgs false
set_option linter.unusedVariables false
theorem arJ {y : aEm} (hy : y ∈ (Value.int .u8 0).cells.toList) : one y = true := by
 have : y = .int .u8 0 := by simpa [Value.cells] using hy
 subst this; rfl
theorem azM {n : Nat} {w : aEl} (h1 : 1 <= n) (hn : n <= 100000000) :
 jE pg zF #[.slice none 0 0, .int .i64 (n : Nat)] w (fun r w' => (∃ b c, r = .slice (some ⟨b, 0, none⟩) 0 c) /\ yW w' w.heap.size 1 r 0 [] /\ jN w w' mC) := by
 refine Rl ?_
 unfold OW Dc Dw De CT xC
 have d1 : decide (((n : Nat) : Int) < 0) = false := decide_eq_false (by omega)
 have hcap := fun (x : Option Addr) (n c : Nat) w => ayU (P := pg) (w := w) (ty := 3) Tryz.underlying22 x n c
 have e1 : ((0 : Nat) : Int) = 0 := rfl
 have e2 : ((n : Nat) : Int) - (0 - 0) = ((n : Nat) : Int) := by omega
 have d2 : decide ((0 : Int) < ((n : Nat) : Int)) = true := decide_eq_true (by omega)
 have z0 : (0 : Int).toNat = 0 := rfl
 have s0 : mY none 0 0 1 = none := rfl
 have e3 : ((0 : Int) - 0) = 0 := rfl
 have e4 : ((n : Nat) : Int) - 0 = ((n : Nat) : Int) := by omega
 simp (disch := omega) only [gI, jD, dJ, stepR_skip, hJ, iC, iM, iP, iL, iN, jJ, iX, gM, iE, iG, iI, iH, gY, iO, hZ, iF, iV, iW, iJ, gR, iT, iQ, iD, jV, jW, kF, kD, kC, kG, kA, kB, kE, gD, Result.ok.injEq, Next.value.injEq, true_and, and_true, gX, iA, iU, iR, iS, jF, aB0, gV, gU, gW, gT, gO, gJ, gP, gN, gB, fV, if_true, if_false, aBZ, aB4, aB1, aB2, aB5, aB3, aBY, aBX, fQ, fL, fE, fR, cU, eS, eF, dK, bP, fS, eY, aP, dB, aX, bQ, bM, aO, cO, cJ, eQ, aE, gS, aJ, cK, aT, bU, fT, cI, cF, aD, gA, fD, aN, aF, bO, gQ, aI, eX, dT, dV, gF, dE, fB, cZ, eH, fF, fC, cG, dG, gK, dN, bZ, aS, bV, bT, fN, aG, aH, aQ, bA, bE, cP, bK, aA, fA, aR, cL, fJ, eU, gG, bJ, eL, eN, bY, fW, eZ, eJ, dH, cQ, dD, aY, bD, aL, fZ, aM, dA, eE, bB, cC, fK, dL, gC, fM, fG, fI, dS, aK, cH, cY, fY, fX, fH, dC, aV, dX, fU, cS, eT, fO, cD, bL, dR, aZ, dW, dQ, cM, eM, eK, bF, dF, bG, eD, dU, dZ, bN, cR, cN, dO, bS, cW, cV, fP, cB, eI, eP, gE, dY, dP, dM, dI, bH, bR, bW, bX, aU, cX, aW, d1, hcap, e1, e2, e3, e4, d2, z0, s0, aDE]
 refine ahQ (m := n) (n := 0) (l := []) (S := fun y => w.heap.size <= y) (i := Tryz.t5) Tryz.underlying22 Tryz.underlying3 JX rfl rfl rfl ⟨rfl, .inl ⟨rfl, rfl⟩⟩ (by decide) (fun y hy => arJ hy) (fun b hb => hb) (by omega) (by rw [show Tryz.t5.bytes = 1 from rfl]; omega) (by rw [show Tryz.t5.bytes = 1 from rfl]; omega) fun v1 w1 o1 x1 => ?_
 rcases o1.2 with ⟨-, h0⟩ | ⟨b, c, rest, rfl, hb, ho, hc, hnc⟩
 .omega
 have hcn : ¬ c = 0 := by omega
 have s1 : mY (some ⟨b, 0, none⟩) c 0 1 = some ⟨b, 0, none⟩ := by unfold mY; rw [if_neg hcn, aCB] <;> rfl
 simp (disch := omega) only [gI, jD, dJ, stepR_skip, hJ, iC, iM, iP, iL, iN, jJ, iX, gM, iE, iG, iI, iH, gY, iO, hZ, iF, iV, iW, iJ, gR, iT, iQ, iD, jV, jW, kF, kD, kC, kG, kA, kB, kE, gD, Result.ok.injEq, Next.value.injEq, true_and, and_true, gX, iA, iU, iR, iS, jF, aB0, gV, gU, gW, gT, gO, gJ, gP, gN, gB, fV, if_true, if_false, aBZ, aB4, aB1, aB2, aB5, aB3, aBY, aBX, fQ, fL, fE, fR, cU, eS, eF, dK, bP, fS, eY, aP, dB, aX, bQ, bM, aO, cO, cJ, eQ, aE, gS, aJ, cK, aT, bU, fT, cI, cF, aD, gA, fD, aN, aF, bO, gQ, aI, eX, dT, dV, gF, dE, fB, cZ, eH, fF, fC, cG, dG, gK, dN, bZ, aS, bV, bT, fN, aG, aH, aQ, bA, bE, cP, bK, aA, fA, aR, cL, fJ, eU, gG, bJ, eL, eN, bY, fW, eZ, eJ, dH, cQ, dD, aY, bD, aL, fZ, aM, dA, eE, bB, cC, fK, dL, gC, fM, fG, fI, dS, aK, cH, cY, fY, fX, fH, dC, aV, dX, fU, cS, eT, fO, cD, bL, dR, aZ, dW, dQ, cM, eM, eK, bF, dF, bG, eD, dU, dZ, bN, cR, cN, dO, bS, cW, cV, fP, cB, eI, eP, gE, dY, dP, dM, dI, bH, bR, bW, bX, aU, cX, aW, e1, z0, s1, aDE]
 refine ⟨⟨b, c, rfl⟩, ⟨rfl, .inr ⟨b, c, _, rfl, hb, ho, hc, by omega⟩⟩, x1.mono fun y hy h => by omega⟩
theorem avF {b : Nat} {xv yv : aEm} {l m : List UInt8} {w : aEl} (o : lN w b [xv, yv]) (hx : Bs w xv l) (hy : Bs w yv m) (h1 : 1 <= l.length) (hl : l.length <= 10000000) (hm : m.length <= 10000000) :
 jE pg vX #[.slice (some ⟨b, 0, none⟩) 2 2] w (fun r w' => yW w' w.heap.size 1 r (l ++ m).length ((l ++ m).map nT) /\ jN w w' mC) := by
 refine OH ?_
 obtain ⟨RR, hRR⟩ : ∃ RR : aEm -> aEl -> Prop, RR = fun r w' => yW w' w.heap.size 1 r (l ++ m).length ((l ++ m).map nT) /\ jN w w' mC := ⟨_, rfl⟩
 rw [<- hRR]
 have hbx := hx
 have hby := hy
 obtain ⟨xa, xc, rfl, -⟩ := hx.len
 obtain ⟨ya, yc, rfl, -⟩ := hy.len
 rw [aB6] at hbx hby o
 rw [aB6] at o
 have z0 : (0 : Int).toNat = 0 := rfl
 have z1 : (1 : Int).toNat = 1 := rfl
 have n2 : ((2 : Nat) : Int) = 2 := rfl
 have c0 : ∀ {W}, jN w W mC -> W.cell? ⟨b, 0, none⟩ = some (.slice xa l.length xc) := fun x => (o.ext x (fun h => h)).cell (off := 0)
 have c1 : ∀ {W}, jN w W mC -> W.cell? ⟨b, 1, none⟩ = some (.slice ya m.length yc) := fun x => (o.ext x (fun h => h)).cell (off := 1)
 have c00 := c0 (jN.refl w mC)
 have c10 := c1 (jN.refl w mC)
 have d0 : decide ((0 : Int) < 2) = true := rfl
 have d1 : decide ((1 : Int) < 2) = true := rfl
 have d2 : decide ((2 : Int) < 2) = false := rfl
 have e01 : (0 : Int) + 1 = 1 := rfl
 have e12 : (1 : Int) + 1 = 2 := rfl
 unfold KQ Aq Al zY Ao zP zG Ai
 simp (disch := omega) only [gI, jD, dJ, stepR_skip, hJ, iC, iM, iP, iL, iN, jJ, iX, gM, iE, iG, iI, iH, gY, iO, hZ, iF, iV, iW, iJ, gR, iT, iQ, iD, jV, jW, kF, kD, kC, kG, kA, kB, kE, gD, Result.ok.injEq, Next.value.injEq, true_and, and_true, gX, iA, iU, iR, iS, jF, aB0, gV, gU, gW, gT, gO, gJ, gP, gN, gB, fV, if_true, if_false, aBZ, aB4, aB1, aB2, aB5, aB3, aBY, aBX, fQ, fL, fE, fR, cU, eS, eF, dK, bP, fS, eY, aP, dB, aX, bQ, bM, aO, cO, cJ, eQ, aE, gS, aJ, cK, aT, bU, fT, cI, cF, aD, gA, fD, aN, aF, bO, gQ, aI, eX, dT, dV, gF, dE, fB, cZ, eH, fF, fC, cG, dG, gK, dN, bZ, aS, bV, bT, fN, aG, aH, aQ, bA, bE, cP, bK, aA, fA, aR, cL, fJ, eU, gG, bJ, eL, eN, bY, fW, eZ, eJ, dH, cQ, dD, aY, bD, aL, fZ, aM, dA, eE, bB, cC, fK, dL, gC, fM, fG, fI, dS, aK, cH, cY, fY, fX, fH, dC, aV, dX, fU, cS, eT, fO, cD, bL, dR, aZ, dW, dQ, cM, eM, eK, bF, dF, bG, eD, dU, dZ, bN, cR, cN, dO, bS, cW, cV, fP, cB, eI, eP, gE, dY, dP, dM, dI, bH, bR, bW, bX, aU, cX, aW, n2]
 refine kP.rule (fun k (t : aEm × aEm) W => W = w /\ ((k = 2 /\ t = (.int .i64 0, .int .i64 0)) ∨ (k = 1 /\ t = (.int .i64 (l.length : Nat), .int .i64 1)) ∨ (k = 0 /\ t = (.int .i64 ((l.length + m.length : Nat) : Int), .int .i64 2)))) 2 ⟨rfl, .inl ⟨rfl, rfl⟩⟩ ?_
 rintro k t W ⟨rfl, ⟨rfl, rfl⟩ | ⟨rfl, rfl⟩ | ⟨rfl, rfl⟩⟩
 .unfold qF rJ rN
  have e1 : (0 : Int) + (l.length : Int) = (l.length : Int) := by omega
  have d3 : decide ((l.length : Int) < 0) = false := decide_eq_false (by omega)
  simp (disch := omega) only [gI, jD, dJ, stepR_skip, hJ, iC, iM, iP, iL, iN, jJ, iX, gM, iE, iG, iI, iH, gY, iO, hZ, iF, iV, iW, iJ, gR, iT, iQ, iD, jV, jW, kF, kD, kC, kG, kA, kB, kE, gD, Result.ok.injEq, Next.value.injEq, true_and, and_true, gX, iA, iU, iR, iS, jF, aB0, gV, gU, gW, gT, gO, gJ, gP, gN, gB, fV, if_true, if_false, aBZ, aB4, aB1, aB2, aB5, aB3, aBY, aBX, fQ, fL, fE, fR, cU, eS, eF, dK, bP, fS, eY, aP, dB, aX, bQ, bM, aO, cO, cJ, eQ, aE, gS, aJ, cK, aT, bU, fT, cI, cF, aD, gA, fD, aN, aF, bO, gQ, aI, eX, dT, dV, gF, dE, fB, cZ, eH, fF, fC, cG, dG, gK, dN, bZ, aS, bV, bT, fN, aG, aH, aQ, bA, bE, cP, bK, aA, fA, aR, cL, fJ, eU, gG, bJ, eL, eN, bY, fW, eZ, eJ, dH, cQ, dD, aY, bD, aL, fZ, aM, dA, eE, bB, cC, fK, dL, gC, fM, fG, fI, dS, aK, cH, cY, fY, fX, fH, dC, aV, dX, fU, cS, eT, fO, cD, bL, dR, aZ, dW, dQ, cM, eM, eK, bF, dF, bG, eD, dU, dZ, bN, cR, cN, dO, bS, cW, cV, fP, cB, eI, eP, gE, dY, dP, dM, dI, bH, bR, bW, bX, aU, cX, aW, d0, z0, n2, c00, e1, d3, e01, aDQ, aCR]
  first
   | exact ⟨1, by omega, rfl, .inr (.inl ⟨rfl, rfl⟩)⟩
   | exact ⟨1, by omega, .inr (.inl ⟨rfl, rfl⟩)⟩
   | exact ⟨1, by omega, .inr (.inl rfl)⟩
 .unfold qF rJ rN
  have e1 : (l.length : Int) + (m.length : Int) = ((l.length + m.length : Nat) : Int) := by omega
  have d3 : decide (((l.length + m.length : Nat) : Int) < 0) = false := decide_eq_false (by omega)
  simp (disch := omega) only [gI, jD, dJ, stepR_skip, hJ, iC, iM, iP, iL, iN, jJ, iX, gM, iE, iG, iI, iH, gY, iO, hZ, iF, iV, iW, iJ, gR, iT, iQ, iD, jV, jW, kF, kD, kC, kG, kA, kB, kE, gD, Result.ok.injEq, Next.value.injEq, true_and, and_true, gX, iA, iU, iR, iS, jF, aB0, gV, gU, gW, gT, gO, gJ, gP, gN, gB, fV, if_true, if_false, aBZ, aB4, aB1, aB2, aB5, aB3, aBY, aBX, fQ, fL, fE, fR, cU, eS, eF, dK, bP, fS, eY, aP, dB, aX, bQ, bM, aO, cO, cJ, eQ, aE, gS, aJ, cK, aT, bU, fT, cI, cF, aD, gA, fD, aN, aF, bO, gQ, aI, eX, dT, dV, gF, dE, fB, cZ, eH, fF, fC, cG, dG, gK, dN, bZ, aS, bV, bT, fN, aG, aH, aQ, bA, bE, cP, bK, aA, fA, aR, cL, fJ, eU, gG, bJ, eL, eN, bY, fW, eZ, eJ, dH, cQ, dD, aY, bD, aL, fZ, aM, dA, eE, bB, cC, fK, dL, gC, fM, fG, fI, dS, aK, cH, cY, fY, fX, fH, dC, aV, dX, fU, cS, eT, fO, cD, bL, dR, aZ, dW, dQ, cM, eM, eK, bF, dF, bG, eD, dU, dZ, bN, cR, cN, dO, bS, cW, cV, fP, cB, eI, eP, gE, dY, dP, dM, dI, bH, bR, bW, bX, aU, cX, aW, d1, z1, n2, c10, e1, d3, e12, Nat.one_mul, aC0, aB4]
  first
   | exact ⟨0, by omega, rfl, .inr (.inr ⟨rfl, rfl⟩)⟩
   | exact ⟨0, by omega, .inr (.inr ⟨rfl, rfl⟩)⟩
   | exact ⟨0, by omega, .inr (.inr rfl)⟩
 .unfold qF rJ Bj Bq
  simp (disch := omega) only [gI, jD, dJ, stepR_skip, hJ, iC, iM, iP, iL, iN, jJ, iX, gM, iE, iG, iI, iH, gY, iO, hZ, iF, iV, iW, iJ, gR, iT, iQ, iD, jV, jW, kF, kD, kC, kG, kA, kB, kE, gD, Result.ok.injEq, Next.value.injEq, true_and, and_true, gX, iA, iU, iR, iS, jF, aB0, gV, gU, gW, gT, gO, gJ, gP, gN, gB, fV, if_true, if_false, aBZ, aB4, aB1, aB2, aB5, aB3, aBY, aBX, fQ, fL, fE, fR, cU, eS, eF, dK, bP, fS, eY, aP, dB, aX, bQ, bM, aO, cO, cJ, eQ, aE, gS, aJ, cK, aT, bU, fT, cI, cF, aD, gA, fD, aN, aF, bO, gQ, aI, eX, dT, dV, gF, dE, fB, cZ, eH, fF, fC, cG, dG, gK, dN, bZ, aS, bV, bT, fN, aG, aH, aQ, bA, bE, cP, bK, aA, fA, aR, cL, fJ, eU, gG, bJ, eL, eN, bY, fW, eZ, eJ, dH, cQ, dD, aY, bD, aL, fZ, aM, dA, eE, bB, cC, fK, dL, gC, fM, fG, fI, dS, aK, cH, cY, fY, fX, fH, dC, aV, dX, fU, cS, eT, fO, cD, bL, dR, aZ, dW, dQ, cM, eM, eK, bF, dF, bG, eD, dU, dZ, bN, cR, cN, dO, bS, cW, cV, fP, cB, eI, eP, gE, dY, dP, dM, dI, bH, bR, bW, bX, aU, cX, aW, d2]
  refine (azM (n := l.length + m.length) (by omega) (by omega)).mono ?_
  rintro r w1 ⟨-, o1, x1⟩
  have s1 := x1.size
  unfold Bc A6 Bl A5 Bg
  simp (disch := omega) only [gI, jD, dJ, stepR_skip, hJ, iC, iM, iP, iL, iN, jJ, iX, gM, iE, iG, iI, iH, gY, iO, hZ, iF, iV, iW, iJ, gR, iT, iQ, iD, jV, jW, kF, kD, kC, kG, kA, kB, kE, gD, Result.ok.injEq, Next.value.injEq, true_and, and_true, gX, iA, iU, iR, iS, jF, aB0, gV, gU, gW, gT, gO, gJ, gP, gN, gB, fV, if_true, if_false, aBZ, aB4, aB1, aB2, aB5, aB3, aBY, aBX, fQ, fL, fE, fR, cU, eS, eF, dK, bP, fS, eY, aP, dB, aX, bQ, bM, aO, cO, cJ, eQ, aE, gS, aJ, cK, aT, bU, fT, cI, cF, aD, gA, fD, aN, aF, bO, gQ, aI, eX, dT, dV, gF, dE, fB, cZ, eH, fF, fC, cG, dG, gK, dN, bZ, aS, bV, bT, fN, aG, aH, aQ, bA, bE, cP, bK, aA, fA, aR, cL, fJ, eU, gG, bJ, eL, eN, bY, fW, eZ, eJ, dH, cQ, dD, aY, bD, aL, fZ, aM, dA, eE, bB, cC, fK, dL, gC, fM, fG, fI, dS, aK, cH, cY, fY, fX, fH, dC, aV, dX, fU, cS, eT, fO, cD, bL, dR, aZ, dW, dQ, cM, eM, eK, bF, dF, bG, eD, dU, dZ, bN, cR, cN, dO, bS, cW, cV, fP, cB, eI, eP, gE, dY, dP, dM, dI, bH, bR, bW, bX, aU, cX, aW, n2]
  obtain ⟨w0, hw0⟩ : ∃ w0, w0 = W.heap.size := ⟨_, rfl⟩
  rw [<- hw0] at o1
  refine kP.rule (fun k (t : aEm × aEm) W' => jN W W' mC /\ ((k = 2 /\ ∃ v, t = (v, .int .i64 0) /\ yW W' w0 1 v 0 []) ∨ (k = 1 /\ ∃ v, t = (v, .int .i64 1) /\ yW W' w0 1 v l.length (l.map nT)) ∨ (k = 0 /\ ∃ v, t = (v, .int .i64 2) /\ yW W' w0 1 v (l ++ m).length ((l ++ m).map nT)))) 2 ⟨x1, .inl ⟨rfl, _, rfl, o1⟩⟩ ?_
  rintro k t W' ⟨x, ⟨rfl, v, rfl, ov⟩ | ⟨rfl, v, rfl, ov⟩ | ⟨rfl, v, rfl, ov⟩⟩
  .unfold qK
   have cc := c0 x
   have hcl := (hbx.ext x (kJ _)).cl
   rw [aB6] at hcl
   have zz := x.size
   simp (disch := omega) only [gI, jD, dJ, stepR_skip, hJ, iC, iM, iP, iL, iN, jJ, iX, gM, iE, iG, iI, iH, gY, iO, hZ, iF, iV, iW, iJ, gR, iT, iQ, iD, jV, jW, kF, kD, kC, kG, kA, kB, kE, gD, Result.ok.injEq, Next.value.injEq, true_and, and_true, gX, iA, iU, iR, iS, jF, aB0, gV, gU, gW, gT, gO, gJ, gP, gN, gB, fV, if_true, if_false, aBZ, aB4, aB1, aB2, aB5, aB3, aBY, aBX, fQ, fL, fE, fR, cU, eS, eF, dK, bP, fS, eY, aP, dB, aX, bQ, bM, aO, cO, cJ, eQ, aE, gS, aJ, cK, aT, bU, fT, cI, cF, aD, gA, fD, aN, aF, bO, gQ, aI, eX, dT, dV, gF, dE, fB, cZ, eH, fF, fC, cG, dG, gK, dN, bZ, aS, bV, bT, fN, aG, aH, aQ, bA, bE, cP, bK, aA, fA, aR, cL, fJ, eU, gG, bJ, eL, eN, bY, fW, eZ, eJ, dH, cQ, dD, aY, bD, aL, fZ, aM, dA, eE, bB, cC, fK, dL, gC, fM, fG, fI, dS, aK, cH, cY, fY, fX, fH, dC, aV, dX, fU, cS, eT, fO, cD, bL, dR, aZ, dW, dQ, cM, eM, eK, bF, dF, bG, eD, dU, dZ, bN, cR, cN, dO, bS, cW, cV, fP, cB, eI, eP, gE, dY, dP, dM, dI, bH, bR, bW, bX, aU, cX, aW, d0, z0, n2, cc, aDQ, aCR]
   refine mU ov hcl (FT _) (by omega) (by omega) fun v2 w2 o2 x2 => ?_
   simp (disch := omega) only [gI, jD, dJ, stepR_skip, hJ, iC, iM, iP, iL, iN, jJ, iX, gM, iE, iG, iI, iH, gY, iO, hZ, iF, iV, iW, iJ, gR, iT, iQ, iD, jV, jW, kF, kD, kC, kG, kA, kB, kE, gD, Result.ok.injEq, Next.value.injEq, true_and, and_true, gX, iA, iU, iR, iS, jF, aB0, gV, gU, gW, gT, gO, gJ, gP, gN, gB, fV, if_true, if_false, aBZ, aB4, aB1, aB2, aB5, aB3, aBY, aBX, fQ, fL, fE, fR, cU, eS, eF, dK, bP, fS, eY, aP, dB, aX, bQ, bM, aO, cO, cJ, eQ, aE, gS, aJ, cK, aT, bU, fT, cI, cF, aD, gA, fD, aN, aF, bO, gQ, aI, eX, dT, dV, gF, dE, fB, cZ, eH, fF, fC, cG, dG, gK, dN, bZ, aS, bV, bT, fN, aG, aH, aQ, bA, bE, cP, bK, aA, fA, aR, cL, fJ, eU, gG, bJ, eL, eN, bY, fW, eZ, eJ, dH, cQ, dD, aY, bD, aL, fZ, aM, dA, eE, bB, cC, fK, dL, gC, fM, fG, fI, dS, aK, cH, cY, fY, fX, fH, dC, aV, dX, fU, cS, eT, fO, cD, bL, dR, aZ, dW, dQ, cM, eM, eK, bF, dF, bG, eD, dU, dZ, bN, cR, cN, dO, bS, cW, cV, fP, cB, eI, eP, gE, dY, dP, dM, dI, bH, bR, bW, bX, aU, cX, aW, e01]
   rw [aB4, aCT] at o2
   exact ⟨1, by omega, x.trans x2 fun y hy h => by omega, .inr (.inl ⟨rfl, _, rfl, o2⟩)⟩
  .unfold qK
   have cc := c1 x
   have hcl := (hby.ext x (kJ _)).cl
   rw [aB6] at hcl
   have zz := x.size
   simp (disch := omega) only [gI, jD, dJ, stepR_skip, hJ, iC, iM, iP, iL, iN, jJ, iX, gM, iE, iG, iI, iH, gY, iO, hZ, iF, iV, iW, iJ, gR, iT, iQ, iD, jV, jW, kF, kD, kC, kG, kA, kB, kE, gD, Result.ok.injEq, Next.value.injEq, true_and, and_true, gX, iA, iU, iR, iS, jF, aB0, gV, gU, gW, gT, gO, gJ, gP, gN, gB, fV, if_true, if_false, aBZ, aB4, aB1, aB2, aB5, aB3, aBY, aBX, fQ, fL, fE, fR, cU, eS, eF, dK, bP, fS, eY, aP, dB, aX, bQ, bM, aO, cO, cJ, eQ, aE, gS, aJ, cK, aT, bU, fT, cI, cF, aD, gA, fD, aN, aF, bO, gQ, aI, eX, dT, dV, gF, dE, fB, cZ, eH, fF, fC, cG, dG, gK, dN, bZ, aS, bV, bT, fN, aG, aH, aQ, bA, bE, cP, bK, aA, fA, aR, cL, fJ, eU, gG, bJ, eL, eN, bY, fW, eZ, eJ, dH, cQ, dD, aY, bD, aL, fZ, aM, dA, eE, bB, cC, fK, dL, gC, fM, fG, fI, dS, aK, cH, cY, fY, fX, fH, dC, aV, dX, fU, cS, eT, fO, cD, bL, dR, aZ, dW, dQ, cM, eM, eK, bF, dF, bG, eD, dU, dZ, bN, cR, cN, dO, bS, cW, cV, fP, cB, eI, eP, gE, dY, dP, dM, dI, bH, bR, bW, bX, aU, cX, aW, d1, z1, n2, cc, Nat.one_mul, aC0, aB4]
   refine mU ov hcl (FT _) (by omega) (by omega) fun v2 w2 o2 x2 => ?_
   simp (disch := omega) only [gI, jD, dJ, stepR_skip, hJ, iC, iM, iP, iL, iN, jJ, iX, gM, iE, iG, iI, iH, gY, iO, hZ, iF, iV, iW, iJ, gR, iT, iQ, iD, jV, jW, kF, kD, kC, kG, kA, kB, kE, gD, Result.ok.injEq, Next.value.injEq, true_and, and_true, gX, iA, iU, iR, iS, jF, aB0, gV, gU, gW, gT, gO, gJ, gP, gN, gB, fV, if_true, if_false, aBZ, aB4, aB1, aB2, aB5, aB3, aBY, aBX, fQ, fL, fE, fR, cU, eS, eF, dK, bP, fS, eY, aP, dB, aX, bQ, bM, aO, cO, cJ, eQ, aE, gS, aJ, cK, aT, bU, fT, cI, cF, aD, gA, fD, aN, aF, bO, gQ, aI, eX, dT, dV, gF, dE, fB, cZ, eH, fF, fC, cG, dG, gK, dN, bZ, aS, bV, bT, fN, aG, aH, aQ, bA, bE, cP, bK, aA, fA, aR, cL, fJ, eU, gG, bJ, eL, eN, bY, fW, eZ, eJ, dH, cQ, dD, aY, bD, aL, fZ, aM, dA, eE, bB, cC, fK, dL, gC, fM, fG, fI, dS, aK, cH, cY, fY, fX, fH, dC, aV, dX, fU, cS, eT, fO, cD, bL, dR, aZ, dW, dQ, cM, eM, eK, bF, dF, bG, eD, dU, dZ, bN, cR, cN, dO, bS, cW, cV, fP, cB, eI, eP, gE, dY, dP, dM, dI, bH, bR, bW, bX, aU, cX, aW, e12]
   rw [<- aCC, <- aB7] at o2
   exact ⟨0, by omega, x.trans x2 fun y hy h => by omega, .inr (.inr ⟨rfl, _, rfl, o2⟩)⟩
  .unfold qK uS
   simp (disch := omega) only [gI, jD, dJ, stepR_skip, hJ, iC, iM, iP, iL, iN, jJ, iX, gM, iE, iG, iI, iH, gY, iO, hZ, iF, iV, iW, iJ, gR, iT, iQ, iD, jV, jW, kF, kD, kC, kG, kA, kB, kE, gD, Result.ok.injEq, Next.value.injEq, true_and, and_true, gX, iA, iU, iR, iS, jF, aB0, gV, gU, gW, gT, gO, gJ, gP, gN, gB, fV, if_true, if_false, aBZ, aB4, aB1, aB2, aB5, aB3, aBY, aBX, fQ, fL, fE, fR, cU, eS, eF, dK, bP, fS, eY, aP, dB, aX, bQ, bM, aO, cO, cJ, eQ, aE, gS, aJ, cK, aT, bU, fT, cI, cF, aD, gA, fD, aN, aF, bO, gQ, aI, eX, dT, dV, gF, dE, fB, cZ, eH, fF, fC, cG, dG, gK, dN, bZ, aS, bV, bT, fN, aG, aH, aQ, bA, bE, cP, bK, aA, fA, aR, cL, fJ, eU, gG, bJ, eL, eN, bY, fW, eZ, eJ, dH, cQ, dD, aY, bD, aL, fZ, aM, dA, eE, bB, cC, fK, dL, gC, fM, fG, fI, dS, aK, cH, cY, fY, fX, fH, dC, aV, dX, fU, cS, eT, fO, cD, bL, dR, aZ, dW, dQ, cM, eM, eK, bF, dF, bG, eD, dU, dZ, bN, cR, cN, dO, bS, cW, cV, fP, cB, eI, eP, gE, dY, dP, dM, dI, bH, bR, bW, bX, aU, cX, aW, d2]
   rw [hRR, <- hw0]
   exact ⟨ov, x⟩
theorem ahI {a : Option Addr} {c : Nat} {w : aEl} :
 jE pg BE #[.slice a 0 c] w (fun r w' => ∃ v, r = .tuple #[v, .int .i64 0] /\ yW w' w.heap.size 1 v 1 (([0] : List UInt8).map nT) /\ jN w w' mC) := by
 refine S3 ?_
 unfold QS Dv C9
 refine (HK w).mono ?_
 rintro r w1 ⟨rfl, hlt, h1, x1⟩
 have d1 : decide ((98047 : Int) < ((0 : Nat) : Int)) = false := rfl
 have n1 : (((0 : Nat) : Int) == 0) = true := rfl
 simp (disch := omega) only [gI, jD, dJ, stepR_skip, hJ, iC, iM, iP, iL, iN, jJ, iX, gM, iE, iG, iI, iH, gY, iO, hZ, iF, iV, iW, iJ, gR, iT, iQ, iD, jV, jW, kF, kD, kC, kG, kA, kB, kE, gD, Result.ok.injEq, Next.value.injEq, true_and, and_true, gX, iA, iU, iR, iS, jF, aB0, gV, gU, gW, gT, gO, gJ, gP, gN, gB, fV, if_true, if_false, aBZ, aB4, aB1, aB2, aB5, aB3, aBY, aBX, fQ, fL, fE, fR, cU, eS, eF, dK, bP, fS, eY, aP, dB, aX, bQ, bM, aO, cO, cJ, eQ, aE, gS, aJ, cK, aT, bU, fT, cI, cF, aD, gA, fD, aN, aF, bO, gQ, aI, eX, dT, dV, gF, dE, fB, cZ, eH, fF, fC, cG, dG, gK, dN, bZ, aS, bV, bT, fN, aG, aH, aQ, bA, bE, cP, bK, aA, fA, aR, cL, fJ, eU, gG, bJ, eL, eN, bY, fW, eZ, eJ, dH, cQ, dD, aY, bD, aL, fZ, aM, dA, eE, bB, cC, fK, dL, gC, fM, fG, fI, dS, aK, cH, cY, fY, fX, fH, dC, aV, dX, fU, cS, eT, fO, cD, bL, dR, aZ, dW, dQ, cM, eM, eK, bF, dF, bG, eD, dU, dZ, bN, cR, cN, dO, bS, cW, cV, fP, cB, eI, eP, gE, dY, dP, dM, dI, bH, bR, bW, bX, aU, cX, aW, d1, n1]
 refine uD (cells := #[.int .u8 0]) (by decide) (by decide) (by kernel_rfl) fun w2 o2 x2 s2 => ?_
 have z1 := x1.size
 refine ⟨_, rfl, ?_⟩
 exact ⟨⟨rfl, .inr ⟨_, 1, [], rfl, by omega, o2, rfl, aCb _⟩⟩, x1.seq x2⟩
abbrev WD (a b c : Nat) : aEm := .agg #[.int .u32 (a : Nat), .int .u32 (b : Nat), .int .u32 (c : Nat)]
def PkO (w : aEl) (base : Nat) (r : aEm) : Prop :=
 (∃ (e : Int) (a b c : Nat), e ≠ 0 /\ r = .tuple #[.slice none 0 0, WD a b c, .int .i64 e]) ∨
 (∃ (x : aEm) (bytes : List UInt8) (a b c : Nat), r = .tuple #[x, WD a b c, .int .i64 0] /\ yW w base 1 x bytes.length (bytes.map nT) /\ 2 <= bytes.length)
theorem aoU {v : aEm} {l : List UInt8} {lvl a b c : Nat} {w : aEl} (h : Bs w v l) (hl : l.length <= 2) (hlv : lvl <= 9) :
 jE pg D7 #[v, .int .i64 0, .int .i64 (l.length : Nat), .int .i64 (lvl : Nat), WD a b c] w (fun r w' => PkO w' w.heap.size r /\ jN w w' mC) := by
 refine V0 ?_
 obtain ⟨RR, hRR⟩ : ∃ RR : aEm -> aEl -> Prop, RR = fun r w' => PkO w' w.heap.size r /\ jN w w' mC := ⟨_, rfl⟩
 rw [<- hRR]
 have hv := h
 obtain ⟨va, vc, rfl, hvc⟩ := h.len
 rw [aB6] at hv hvc ⊢
 unfold Ve HW H3
 refine Ah fun w1 o1 x1 s1 => ?_
 have o1 : lN w1 w.heap.size [.int .u32 (a : Nat), .int .u32 (b : Nat), .int .u32 (c : Nat)] := o1
 obtain ⟨p, hp⟩ : ∃ p, p = w.heap.size := ⟨_, rfl⟩
 rw [<- hp] at o1 ⊢
 refine tH fun w2 o2 x2 s2 => ?_
 obtain ⟨q, hq⟩ : ∃ q, q = w1.heap.size := ⟨_, rfl⟩
 rw [<- hq] at o2 ⊢
 have o2 : lN w2 q [.int .u32 0, .int .u32 0, .int .u32 0] := o2
 have x02 := x1.seq x2
 have hv2 := hv.ext x02 (kJ _)
 have hqp : q ≠ p := by omega
 have oP : ∀ {W}, jN w2 W mC -> lN W p [.int .u32 (a : Nat), .int .u32 (b : Nat), .int .u32 (c : Nat)] := fun x => (o1.ext x2 (fun h => h)).ext x (fun h => h)
 have oQ : ∀ {W}, jN w2 W mC -> lN W q [.int .u32 0, .int .u32 0, .int .u32 0] := fun x => o2.ext x (fun h => h)
 have ld : ∀ {W}, jN w2 W mC -> (jG 45 (.pointer (some ⟨p, 0, none⟩))).run pg W = .ok (.value (WD a b c)) W := fun x => CB (off := 0) (oP x) (by simp)
 have ldd : ∀ {W}, jN w2 W mC -> (jG 45 (.pointer (some ⟨p, 0, none⟩))).run pg (dr W) = .ok (.value (WD a b c)) (dr W) := fun x => ld (x.seq (jN.dr _ mC))
 have n0 : ((0 : Int) != 0) = false := rfl
 have told : ∀ (W : aEl) (K : aEm -> aEl -> Prop), jN w2 W mC -> (∀ W', jN w W' mC -> jN W W' (fun y => y = q) -> K (WD a b c) W') →
     gI pg (jQ 45 (.pointer (some ⟨q, 0, none⟩)) (WD a b c)) W fun _u w => Nq pg 45 (.pointer (some ⟨q, 0, none⟩)) w fun r1 => K r1 w := by
  intro W K x hK
  refine qW (oQ x) rfl (by simp [one]) (by simp) fun w4 o4 x4 s4 => ?_
  refine HA o4 (by simp [kW]) ?_
  exact hK w4 ((x02.seq x).trans x4 fun y hy h => by omega) x4
 refine (azI (a0 := 0) (to := l.length) (lvl := lvl) (B := l) hlv (by omega) (aCb _) (by omega) hv2).mono ?_
 rintro r w3 ⟨⟨fv, L, bg, rfl, oL, hpl, hbl, -, -⟩, x3⟩
 have hL0 : L = [] := by
  have := Z9 hpl (by omega)
  exact aCK.1 (by omega)
 subst hL0
 obtain ⟨fa, fc, rfl⟩ := oL.len
 unfold Hs H6 HG Hz Ia
 have e0 : ((([] : List Sq).length : Nat) : Int) = 0 := rfl
 have e00 : ([] : List Sq).length = 0 := rfl
 simp (disch := omega) only [gI, jD, dJ, stepR_skip, hJ, iC, iM, iP, iL, iN, jJ, iX, gM, iE, iG, iI, iH, gY, iO, hZ, iF, iV, iW, iJ, gR, iT, iQ, iD, jV, jW, kF, kD, kC, kG, kA, kB, kE, gD, Result.ok.injEq, Next.value.injEq, true_and, and_true, gX, iA, iU, iR, iS, jF, aB0, gV, gU, gW, gT, gO, gJ, gP, gN, gB, fV, if_true, if_false, aBZ, aB4, aB1, aB2, aB5, aB3, aBY, aBX, fQ, fL, fE, fR, cU, eS, eF, dK, bP, fS, eY, aP, dB, aX, bQ, bM, aO, cO, cJ, eQ, aE, gS, aJ, cK, aT, bU, fT, cI, cF, aD, gA, fD, aN, aF, bO, gQ, aI, eX, dT, dV, gF, dE, fB, cZ, eH, fF, fC, cG, dG, gK, dN, bZ, aS, bV, bT, fN, aG, aH, aQ, bA, bE, cP, bK, aA, fA, aR, cL, fJ, eU, gG, bJ, eL, eN, bY, fW, eZ, eJ, dH, cQ, dD, aY, bD, aL, fZ, aM, dA, eE, bB, cC, fK, dL, gC, fM, fG, fI, dS, aK, cH, cY, fY, fX, fH, dC, aV, dX, fU, cS, eT, fO, cD, bL, dR, aZ, dW, dQ, cM, eM, eK, bF, dF, bG, eD, dU, dZ, bN, cR, cN, dO, bS, cW, cV, fP, cB, eI, eP, gE, dY, dP, dM, dI, bH, bR, bW, bX, aU, cX, aW, n0, e0, e00]
 refine kP.rule (fun m (t : aEm × aEm × aEm) W => m = 0 /\ t = (.slice none 0 0, .int .i64 0, .int .i64 0) /\ W = w3) 0 ⟨rfl, rfl, rfl⟩ ?_
 rintro m t W ⟨rfl, rfl, rfl⟩
 unfold Ct
 have d0 : decide ((0 : Int) < ((0 : Nat) : Int)) = false := rfl
 have d0' : decide ((0 : Int) < 0) = false := rfl
 unfold CN
 have x23 : jN w2 W mC := x3
 have z23 := x23.size
 have hn : ((l.length : Nat) : Int).toNat = l.length := aB0 _
 have z0 : (0 : Int).toNat = 0 := rfl
 simp (disch := omega) only [gI, jD, dJ, stepR_skip, hJ, iC, iM, iP, iL, iN, jJ, iX, gM, iE, iG, iI, iH, gY, iO, hZ, iF, iV, iW, iJ, gR, iT, iQ, iD, jV, jW, kF, kD, kC, kG, kA, kB, kE, gD, Result.ok.injEq, Next.value.injEq, true_and, and_true, gX, iA, iU, iR, iS, jF, aB0, gV, gU, gW, gT, gO, gJ, gP, gN, gB, fV, if_true, if_false, aBZ, aB4, aB1, aB2, aB5, aB3, aBY, aBX, fQ, fL, fE, fR, cU, eS, eF, dK, bP, fS, eY, aP, dB, aX, bQ, bM, aO, cO, cJ, eQ, aE, gS, aJ, cK, aT, bU, fT, cI, cF, aD, gA, fD, aN, aF, bO, gQ, aI, eX, dT, dV, gF, dE, fB, cZ, eH, fF, fC, cG, dG, gK, dN, bZ, aS, bV, bT, fN, aG, aH, aQ, bA, bE, cP, bK, aA, fA, aR, cL, fJ, eU, gG, bJ, eL, eN, bY, fW, eZ, eJ, dH, cQ, dD, aY, bD, aL, fZ, aM, dA, eE, bB, cC, fK, dL, gC, fM, fG, fI, dS, aK, cH, cY, fY, fX, fH, dC, aV, dX, fU, cS, eT, fO, cD, bL, dR, aZ, dW, dQ, cM, eM, eK, bF, dF, bG, eD, dU, dZ, bN, cR, cN, dO, bS, cW, cV, fP, cB, eI, eP, gE, dY, dP, dM, dI, bH, bR, bW, bX, aU, cX, aW, d0, d0', hn, z0]
 have hsl : Bs W (.slice (mY va vc 0 1) (l.length - 0) (vc - 0)) l := by
  have := Sl.take' (hv.ext (x02.seq x23) (kJ _)) (k := l.length) (aCb _)
  rw [aCg (by rw [aB6]; omega)] at this
  exact this
 have hcl := hsl.cl
 rw [aB6] at hcl
 refine mU (yW.nil W W.heap.size 1) hcl (FT _) (aCb _) (by omega) fun v4 w4 o4 x4 => ?_
 rw [aB4, aCT] at o4
 have x24 : jN w2 w4 mC := x23.trans x4 fun y hy h => by omega
 refine (aqD (l := l) o4.sl (by omega)).mono ?_
 rintro r w5 ⟨⟨xv, bytes, rfl, o5, hb1, hb2⟩, x5⟩
 have x25 := x24.seq x5
 have z25 := x25.size
 simp (disch := omega) only [gI, jD, dJ, stepR_skip, hJ, iC, iM, iP, iL, iN, jJ, iX, gM, iE, iG, iI, iH, gY, iO, hZ, iF, iV, iW, iJ, gR, iT, iQ, iD, jV, jW, kF, kD, kC, kG, kA, kB, kE, gD, Result.ok.injEq, Next.value.injEq, true_and, and_true, gX, iA, iU, iR, iS, jF, aB0, gV, gU, gW, gT, gO, gJ, gP, gN, gB, fV, if_true, if_false, aBZ, aB4, aB1, aB2, aB5, aB3, aBY, aBX, fQ, fL, fE, fR, cU, eS, eF, dK, bP, fS, eY, aP, dB, aX, bQ, bM, aO, cO, cJ, eQ, aE, gS, aJ, cK, aT, bU, fT, cI, cF, aD, gA, fD, aN, aF, bO, gQ, aI, eX, dT, dV, gF, dE, fB, cZ, eH, fF, fC, cG, dG, gK, dN, bZ, aS, bV, bT, fN, aG, aH, aQ, bA, bE, cP, bK, aA, fA, aR, cL, fJ, eU, gG, bJ, eL, eN, bY, fW, eZ, eJ, dH, cQ, dD, aY, bD, aL, fZ, aM, dA, eE, bB, cC, fK, dL, gC, fM, fG, fI, dS, aK, cH, cY, fY, fX, fH, dC, aV, dX, fU, cS, eT, fO, cD, bL, dR, aZ, dW, dQ, cM, eM, eK, bF, dF, bG, eD, dU, dZ, bN, cR, cN, dO, bS, cW, cV, fP, cB, eI, eP, gE, dY, dP, dM, dI, bH, bR, bW, bX, aU, cX, aW, n0]
 refine (ahI).mono ?_
 rintro r w6 ⟨yv, rfl, o6, x6⟩
 have x26 := x25.seq x6
 have z26 := x26.size
 have hx6 : Bs w6 xv bytes := (o5.sl).ext x6 (kJ _)
 have hy6 : Bs w6 yv [0] := o6.sl
 have hx6' := hx6
 have hy6' := hy6
 obtain ⟨xa, xc, rfl, -⟩ := hx6.len
 obtain ⟨ya, yc, rfl, -⟩ := hy6.len
 rw [aB6] at hx6' hy6'
 rw [aB6, aB6]
 have l6 := ldd x26
 simp (disch := omega) only [gI, jD, dJ, stepR_skip, hJ, iC, iM, iP, iL, iN, jJ, iX, gM, iE, iG, iI, iH, gY, iO, hZ, iF, iV, iW, iJ, gR, iT, iQ, iD, jV, jW, kF, kD, kC, kG, kA, kB, kE, gD, Result.ok.injEq, Next.value.injEq, true_and, and_true, gX, iA, iU, iR, iS, jF, aB0, gV, gU, gW, gT, gO, gJ, gP, gN, gB, fV, if_true, if_false, aBZ, aB4, aB1, aB2, aB5, aB3, aBY, aBX, fQ, fL, fE, fR, cU, eS, eF, dK, bP, fS, eY, aP, dB, aX, bQ, bM, aO, cO, cJ, eQ, aE, gS, aJ, cK, aT, bU, fT, cI, cF, aD, gA, fD, aN, aF, bO, gQ, aI, eX, dT, dV, gF, dE, fB, cZ, eH, fF, fC, cG, dG, gK, dN, bZ, aS, bV, bT, fN, aG, aH, aQ, bA, bE, cP, bK, aA, fA, aR, cL, fJ, eU, gG, bJ, eL, eN, bY, fW, eZ, eJ, dH, cQ, dD, aY, bD, aL, fZ, aM, dA, eE, bB, cC, fK, dL, gC, fM, fG, fI, dS, aK, cH, cY, fY, fX, fH, dC, aV, dX, fU, cS, eT, fO, cD, bL, dR, aZ, dW, dQ, cM, eM, eK, bF, dF, bG, eD, dU, dZ, bN, cR, cN, dO, bS, cW, cV, fP, cB, eI, eP, gE, dY, dP, dM, dI, bH, bR, bW, bX, aU, cX, aW, n0]
 refine Tr (cells := #[.slice xa bytes.length xc, .slice ya [(0 : UInt8)].length yc]) (by decide) (by decide) (by kernel_rfl) fun w7 o7 x7 s7 => ?_
 have x6d : jN w2 (dr w6) mC := x26.seq (jN.dr _ mC)
 have x27 := x6d.seq x7
 have z27 := x27.size
 have hx7 : Bs w7 (.slice xa bytes.length xc) bytes := (hx6'.ext (jN.dr _ mC) (kJ _)).ext x7 (kJ _)
 have hy7 : Bs w7 (.slice ya [(0 : UInt8)].length yc) [0] := (hy6'.ext (jN.dr _ mC) (kJ _)).ext x7 (kJ _)
 refine (avF (l := bytes) (m := [0]) o7 hx7 hy7 hb1 (by omega) (by simp)).mono ?_
 rintro r w8 ⟨o8, x8⟩
 have x28 := x27.seq x8
 have l7 := ld x27
 have l8 := ld x28
 simp (disch := omega) only [gI, jD, dJ, stepR_skip, hJ, iC, iM, iP, iL, iN, jJ, iX, gM, iE, iG, iI, iH, gY, iO, hZ, iF, iV, iW, iJ, gR, iT, iQ, iD, jV, jW, kF, kD, kC, kG, kA, kB, kE, gD, Result.ok.injEq, Next.value.injEq, true_and, and_true, gX, iA, iU, iR, iS, jF, aB0, gV, gU, gW, gT, gO, gJ, gP, gN, gB, fV, if_true, if_false, aBZ, aB4, aB1, aB2, aB5, aB3, aBY, aBX, fQ, fL, fE, fR, cU, eS, eF, dK, bP, fS, eY, aP, dB, aX, bQ, bM, aO, cO, cJ, eQ, aE, gS, aJ, cK, aT, bU, fT, cI, cF, aD, gA, fD, aN, aF, bO, gQ, aI, eX, dT, dV, gF, dE, fB, cZ, eH, fF, fC, cG, dG, gK, dN, bZ, aS, bV, bT, fN, aG, aH, aQ, bA, bE, cP, bK, aA, fA, aR, cL, fJ, eU, gG, bJ, eL, eN, bY, fW, eZ, eJ, dH, cQ, dD, aY, bD, aL, fZ, aM, dA, eE, bB, cC, fK, dL, gC, fM, fG, fI, dS, aK, cH, cY, fY, fX, fH, dC, aV, dX, fU, cS, eT, fO, cD, bL, dR, aZ, dW, dQ, cM, eM, eK, bF, dF, bG, eD, dU, dZ, bN, cR, cN, dO, bS, cW, cV, fP, cB, eI, eP, gE, dY, dP, dM, dI, bH, bR, bW, bX, aU, cX, aW, l6, l7, l8]
 refine told w8 (fun r1 w => RR (.tuple #[r, r1, .int .i64 0]) w) x28 fun W' xw xq => ?_
 rw [hRR]
 refine ⟨.inr ⟨r, bytes ++ [0], a, b, c, rfl, ?_, by rw [aB7]; simp; omega⟩, xw⟩
 exact (o8.ext xq (fun y hy h => by omega)).lower (by omega)
end Go.Proofs.YtoecppploooloaaGreatDoor
namespace Go.Proofs.YtoecppploooloaaGreatDoor
open Go Go.En Go.Pu
set_option maxRecDepth 4000
def DG (l : List UInt8) : List UInt8 := if Dn l then Zd l.length (l.headD 0) true else aAh l
def aA1 (w : aEl) (base : Nat) (l : List UInt8) (r : aEm) : Prop := ∃ (v : aEm) (a b c : Nat), r = .tuple #[v, WD a b c, .int .i64 0] /\ yW w base 1 v (DG l).length ((DG l).map nT)
theorem avW {v : aEm} {l : List UInt8} {lvl a b c : Nat} {w : aEl} (h : Bs w v l) (h1 : 1 <= l.length) (hl : l.length <= 65536) (hs : Dn l = true ∨ l.length <= 2) (hlv : lvl <= 9) :
 jE pg Gu #[v, .int .i64 0, .int .i64 (l.length : Nat), .int .i64 (lvl : Nat), WD a b c] w (fun r w' => aA1 w' w.heap.size l r /\ jN w w' mC) := by
 refine Wv ?_
 obtain ⟨RR, hRR⟩ : ∃ RR : aEm -> aEl -> Prop, RR = fun r w' => aA1 w' w.heap.size l r /\ jN w w' mC := ⟨_, rfl⟩
 rw [<- hRR]
 have hv := h
 obtain ⟨va, vc, rfl, hvc⟩ := h.len
 rw [aB6] at hv hvc ⊢
 unfold Xw Jl Jt
 refine Ah fun w1 o1 x1 s1 => ?_
 have o1 : lN w1 w.heap.size [.int .u32 (a : Nat), .int .u32 (b : Nat), .int .u32 (c : Nat)] := o1
 obtain ⟨p, hp⟩ : ∃ p, p = w.heap.size := ⟨_, rfl⟩
 rw [<- hp] at o1 ⊢
 refine tH fun w2 o2 x2 s2 => ?_
 obtain ⟨q, hq⟩ : ∃ q, q = w1.heap.size := ⟨_, rfl⟩
 rw [<- hq] at o2 ⊢
 have o2 : lN w2 q [.int .u32 0, .int .u32 0, .int .u32 0] := o2
 have hn : ((l.length : Nat) : Int).toNat = l.length := aB0 _
 have z0 : (0 : Int).toNat = 0 := rfl
 have k1 : (((l.length : Nat) : Int) == ((l.length : Nat) : Int)) = true := beq_self_eq_true _
 have hs0 : l.length - 0 = l.length := rfl
 simp (disch := omega) only [gI, jD, dJ, stepR_skip, hJ, iC, iM, iP, iL, iN, jJ, iX, gM, iE, iG, iI, iH, gY, iO, hZ, iF, iV, iW, iJ, gR, iT, iQ, iD, jV, jW, kF, kD, kC, kG, kA, kB, kE, gD, Result.ok.injEq, Next.value.injEq, true_and, and_true, gX, iA, iU, iR, iS, jF, aB0, gV, gU, gW, gT, gO, gJ, gP, gN, gB, fV, if_true, if_false, aBZ, aB4, aB1, aB2, aB5, aB3, aBY, aBX, fQ, fL, fE, fR, cU, eS, eF, dK, bP, fS, eY, aP, dB, aX, bQ, bM, aO, cO, cJ, eQ, aE, gS, aJ, cK, aT, bU, fT, cI, cF, aD, gA, fD, aN, aF, bO, gQ, aI, eX, dT, dV, gF, dE, fB, cZ, eH, fF, fC, cG, dG, gK, dN, bZ, aS, bV, bT, fN, aG, aH, aQ, bA, bE, cP, bK, aA, fA, aR, cL, fJ, eU, gG, bJ, eL, eN, bY, fW, eZ, eJ, dH, cQ, dD, aY, bD, aL, fZ, aM, dA, eE, bB, cC, fK, dL, gC, fM, fG, fI, dS, aK, cH, cY, fY, fX, fH, dC, aV, dX, fU, cS, eT, fO, cD, bL, dR, aZ, dW, dQ, cM, eM, eK, bF, dF, bG, eD, dU, dZ, bN, cR, cN, dO, bS, cW, cV, fP, cB, eI, eP, gE, dY, dP, dM, dI, bH, bR, bW, bX, aU, cX, aW, hn, z0, k1, hs0]
 obtain ⟨na, hna⟩ : ∃ na, na = mY va vc 0 1 := ⟨_, rfl⟩
 rw [<- hna]
 refine F9 fun w3 o3 x3 s3 => ?_
 obtain ⟨x, hx⟩ : ∃ x, x = w2.heap.size := ⟨_, rfl⟩
 rw [<- hx] at o3 ⊢
 refine AH o3 rfl (by simp [one]) (by simp) fun w4 o4 x4 s4 => ?_
 have o4 : lN w4 x [.bool true, .int .i64 0, .int .i64 (l.length : Nat)] := o4
 have x24 : jN w2 w4 mC := x3.trans x4 fun y hy h => by omega
 have x04 : jN w w4 mC := (x1.seq x2).seq x24
 have hpq : p ≠ q := by omega
 have hxp : x ≠ p := by omega
 have hxq : x ≠ q := by omega
 have oP : ∀ {W} {M : Nat -> Prop}, jN w4 W M -> ¬ M p -> lN W p [.int .u32 (a : Nat), .int .u32 (b : Nat), .int .u32 (c : Nat)] := fun xx hm => ((o1.ext x2 (fun h => h)).ext x24 (fun h => h)).ext xx hm
 have oQ : ∀ {W} {M : Nat -> Prop}, jN w4 W M -> ¬ M q -> lN W q [.int .u32 0, .int .u32 0, .int .u32 0] := fun xx hm => (o2.ext x24 (fun h => h)).ext xx hm
 have ld : ∀ {W} {M : Nat -> Prop}, jN w4 W M -> ¬ M p -> (jG 45 (.pointer (some ⟨p, 0, none⟩))).run pg W = .ok (.value (WD a b c)) W := fun xx hm => CB (off := 0) (oP xx hm) (by simp)
 have lt4 : x < w4.heap.size := o4.lt
 have hold : ¬ MO (.slice na l.length (vc - 0)) (fun y => w2.heap.size <= y) := by
  have := Sl.take' (hv.ext (x1.seq x2) (kJ _)) (k := l.length) (aCb _)
  rw [<- hna] at this
  exact this.old
 have hsl : Bs w4 (.slice na l.length (vc - 0)) l := by
  have := Sl.take' (hv.ext x04 (kJ _)) (k := l.length) (aCb _)
  rw [aCg (by rw [aB6]; omega), <- hna] at this
  exact this
 obtain ⟨nc, hnc⟩ : ∃ nc, nc = vc - 0 := ⟨_, rfl⟩
 rw [<- hnc] at hsl hold ⊢
 have n0 : ((0 : Int) != 0) = false := rfl
 have told : ∀ (W : aEl) (K : aEm -> aEl -> Prop) (M : Nat -> Prop), jN w4 W M -> ¬ M q -> jN w W mC -> (∀ W', jN w W' mC -> jN W W' (fun y => y = q) -> K (WD a b c) W') →
     gI pg (jQ 45 (.pointer (some ⟨q, 0, none⟩)) (WD a b c)) W fun _u w => Nq pg 45 (.pointer (some ⟨q, 0, none⟩)) w fun r1 => K r1 w := by
  intro W K M xx hm x0 hK
  refine qW (oQ xx hm) rfl (by simp [one]) (by simp) fun w5 o5 x5 s5 => ?_
  refine HA o5 (by simp [kW]) ?_
  exact hK w5 (x0.trans x5 fun y hy h => by omega) x5
 have tail : ∀ (W : aEl) (k : Nat) (ba : Option Addr) (bc : Nat) (bl : List UInt8), k <= 2 -> lN W x [.bool true, .int .i64 (k : Nat), .int .i64 (l.length : Nat)] -> jN w4 W (fun y => y = x) -> Bs W (.slice ba bl.length bc) bl -> bl.length <= 65536 -> b3 (8 * l.length + 2 * k + 1) ++ bl = DG l →
     vK RR (.pointer (some ⟨p, 0, none⟩)) (.pointer (some ⟨q, 0, none⟩)) (.pointer (some ⟨x, 0, none⟩)) (.slice ba bl.length bc) W := by
  intro W k ba bc bl hk oX xW hb hbl he
  unfold vK
  have ldx : (jG 65 (.pointer (some ⟨x, 0, none⟩))).run pg W = .ok (.value (.agg #[.bool true, .int .i64 (k : Nat), .int .i64 (l.length : Nat)])) W := ZL (off := 0) oX (by simp)
  have x0W : jN w W mC := x04.trans xW fun y hy h => by omega
  simp (disch := omega) only [gI, jD, dJ, stepR_skip, hJ, iC, iM, iP, iL, iN, jJ, iX, gM, iE, iG, iI, iH, gY, iO, hZ, iF, iV, iW, iJ, gR, iT, iQ, iD, jV, jW, kF, kD, kC, kG, kA, kB, kE, gD, Result.ok.injEq, Next.value.injEq, true_and, and_true, gX, iA, iU, iR, iS, jF, aB0, gV, gU, gW, gT, gO, gJ, gP, gN, gB, fV, if_true, if_false, aBZ, aB4, aB1, aB2, aB5, aB3, aBY, aBX, fQ, fL, fE, fR, cU, eS, eF, dK, bP, fS, eY, aP, dB, aX, bQ, bM, aO, cO, cJ, eQ, aE, gS, aJ, cK, aT, bU, fT, cI, cF, aD, gA, fD, aN, aF, bO, gQ, aI, eX, dT, dV, gF, dE, fB, cZ, eH, fF, fC, cG, dG, gK, dN, bZ, aS, bV, bT, fN, aG, aH, aQ, bA, bE, cP, bK, aA, fA, aR, cL, fJ, eU, gG, bJ, eL, eN, bY, fW, eZ, eJ, dH, cQ, dD, aY, bD, aL, fZ, aM, dA, eE, bB, cC, fK, dL, gC, fM, fG, fI, dS, aK, cH, cY, fY, fX, fH, dC, aV, dX, fU, cS, eT, fO, cD, bL, dR, aZ, dW, dQ, cM, eM, eK, bF, dF, bG, eD, dU, dZ, bN, cR, cN, dO, bS, cW, cV, fP, cB, eI, eP, gE, dY, dP, dM, dI, bH, bR, bW, bX, aU, cX, aW, ldx]
  refine (afL hk (by omega)).mono ?_
  rintro r w5 ⟨hv5, rfl, o5, x5⟩
  have he1 : (8 * l.length + 2 * k + if true = true then 1 else 0) = 8 * l.length + 2 * k + 1 := by simp
  rw [he1] at o5
  have x45 : jN w4 w5 (fun y => y = x) := xW.seq (x5.mono fun _ _ h => h.elim)
  have l5 := ld x45 (fun h => hxp h.symm)
  have x4d : jN w4 (dr w5) (fun y => y = x) := x45.seq (jN.dr _ _)
  have l5d := ld x4d (fun h => hxp h.symm)
  have z5 := x5.size
  simp (disch := omega) only [gI, jD, dJ, stepR_skip, hJ, iC, iM, iP, iL, iN, jJ, iX, gM, iE, iG, iI, iH, gY, iO, hZ, iF, iV, iW, iJ, gR, iT, iQ, iD, jV, jW, kF, kD, kC, kG, kA, kB, kE, gD, Result.ok.injEq, Next.value.injEq, true_and, and_true, gX, iA, iU, iR, iS, jF, aB0, gV, gU, gW, gT, gO, gJ, gP, gN, gB, fV, if_true, if_false, aBZ, aB4, aB1, aB2, aB5, aB3, aBY, aBX, fQ, fL, fE, fR, cU, eS, eF, dK, bP, fS, eY, aP, dB, aX, bQ, bM, aO, cO, cJ, eQ, aE, gS, aJ, cK, aT, bU, fT, cI, cF, aD, gA, fD, aN, aF, bO, gQ, aI, eX, dT, dV, gF, dE, fB, cZ, eH, fF, fC, cG, dG, gK, dN, bZ, aS, bV, bT, fN, aG, aH, aQ, bA, bE, cP, bK, aA, fA, aR, cL, fJ, eU, gG, bJ, eL, eN, bY, fW, eZ, eJ, dH, cQ, dD, aY, bD, aL, fZ, aM, dA, eE, bB, cC, fK, dL, gC, fM, fG, fI, dS, aK, cH, cY, fY, fX, fH, dC, aV, dX, fU, cS, eT, fO, cD, bL, dR, aZ, dW, dQ, cM, eM, eK, bF, dF, bG, eD, dU, dZ, bN, cR, cN, dO, bS, cW, cV, fP, cB, eI, eP, gE, dY, dP, dM, dI, bH, bR, bW, bX, aU, cX, aW, n0, l5d]
  have hb5 := (hb.ext x5 (kJ _)).ext (jN.dr _ mC) (kJ _)
  have hcl := hb5.cl
  rw [aB6] at hcl
  refine mU (o5.ext (jN.dr _ mC) (fun _ _ h => h)) hcl (FT _) (by show W.heap.size <= (dr w5).heap.size; exact z5) (by omega) fun v6 w6 o6 x6 => ?_
  have o6 : yW w6 W.heap.size 1 v6 (DG l).length ((DG l).map nT) := by
   rw [<- he, aB7, aCC]
   exact o6
  have zW := xW.size
  have x46 : jN w4 w6 (fun y => y = x) := x4d.trans x6 fun y hy h => by omega
  have l6 := ld x46 (fun h => hxp h.symm)
  have x06 : jN w w6 mC := ((x0W.seq x5).seq (jN.dr _ mC)).trans x6 fun y hy h => by omega
  simp (disch := omega) only [gI, jD, dJ, stepR_skip, hJ, iC, iM, iP, iL, iN, jJ, iX, gM, iE, iG, iI, iH, gY, iO, hZ, iF, iV, iW, iJ, gR, iT, iQ, iD, jV, jW, kF, kD, kC, kG, kA, kB, kE, gD, Result.ok.injEq, Next.value.injEq, true_and, and_true, gX, iA, iU, iR, iS, jF, aB0, gV, gU, gW, gT, gO, gJ, gP, gN, gB, fV, if_true, if_false, aBZ, aB4, aB1, aB2, aB5, aB3, aBY, aBX, fQ, fL, fE, fR, cU, eS, eF, dK, bP, fS, eY, aP, dB, aX, bQ, bM, aO, cO, cJ, eQ, aE, gS, aJ, cK, aT, bU, fT, cI, cF, aD, gA, fD, aN, aF, bO, gQ, aI, eX, dT, dV, gF, dE, fB, cZ, eH, fF, fC, cG, dG, gK, dN, bZ, aS, bV, bT, fN, aG, aH, aQ, bA, bE, cP, bK, aA, fA, aR, cL, fJ, eU, gG, bJ, eL, eN, bY, fW, eZ, eJ, dH, cQ, dD, aY, bD, aL, fZ, aM, dA, eE, bB, cC, fK, dL, gC, fM, fG, fI, dS, aK, cH, cY, fY, fX, fH, dC, aV, dX, fU, cS, eT, fO, cD, bL, dR, aZ, dW, dQ, cM, eM, eK, bF, dF, bG, eD, dU, dZ, bN, cR, cN, dO, bS, cW, cV, fP, cB, eI, eP, gE, dY, dP, dM, dI, bH, bR, bW, bX, aU, cX, aW, l6, l5d]
  refine told w6 (fun r1 w => RR (.tuple #[v6, r1, .int .i64 0]) w) _ x46 (fun h => hxq h.symm) x06 fun W' xw xq => ?_
  rw [hRR]
  refine ⟨⟨v6, a, b, c, rfl, ?_⟩, xw⟩
  refine (o6.ext xq fun y hy h => by omega).lower (by omega)
 refine (amF hsl (by omega)).mono ?_
 rintro r w5 ⟨rfl, x5⟩
 have o5 := o4.ext x5 (fun h => h)
 cases hal : Dn l with
 | true =>
   have hblk : DG l = Zd l.length (l.headD 0) true := by unfold DG; rw [if_pos hal]
   have z1 : (1 : Int).toNat = 1 := rfl
   have d1 : (1 : Int) <= (nc : Int) := by
    have := hsl.len
    obtain ⟨a', c', he, hc'⟩ := this
    simp only [Value.slice.injEq] at he
    rw [aB6] at hc'
    omega
   have hn10 : 1 - 0 = 1 := rfl
   simp (disch := omega) only [gI, jD, dJ, stepR_skip, hJ, iC, iM, iP, iL, iN, jJ, iX, gM, iE, iG, iI, iH, gY, iO, hZ, iF, iV, iW, iJ, gR, iT, iQ, iD, jV, jW, kF, kD, kC, kG, kA, kB, kE, gD, Result.ok.injEq, Next.value.injEq, true_and, and_true, gX, iA, iU, iR, iS, jF, aB0, gV, gU, gW, gT, gO, gJ, gP, gN, gB, fV, if_true, if_false, aBZ, aB4, aB1, aB2, aB5, aB3, aBY, aBX, fQ, fL, fE, fR, cU, eS, eF, dK, bP, fS, eY, aP, dB, aX, bQ, bM, aO, cO, cJ, eQ, aE, gS, aJ, cK, aT, bU, fT, cI, cF, aD, gA, fD, aN, aF, bO, gQ, aI, eX, dT, dV, gF, dE, fB, cZ, eH, fF, fC, cG, dG, gK, dN, bZ, aS, bV, bT, fN, aG, aH, aQ, bA, bE, cP, bK, aA, fA, aR, cL, fJ, eU, gG, bJ, eL, eN, bY, fW, eZ, eJ, dH, cQ, dD, aY, bD, aL, fZ, aM, dA, eE, bB, cC, fK, dL, gC, fM, fG, fI, dS, aK, cH, cY, fY, fX, fH, dC, aV, dX, fU, cS, eT, fO, cD, bL, dR, aZ, dW, dQ, cM, eM, eK, bF, dF, bG, eD, dU, dZ, bN, cR, cN, dO, bS, cW, cV, fP, cB, eI, eP, gE, dY, dP, dM, dI, bH, bR, bW, bX, aU, cX, aW, z1, hn10]
   obtain ⟨ma, hma⟩ : ∃ ma, ma = mY na nc 0 1 := ⟨_, rfl⟩
   rw [<- hma]
   have s5d := fun (W : aEl) => eF (k := .i64) (hi := (1 : Int)) na l.length nc W (by omega) (by omega)
   rw [<- hma] at s5d
   refine LC (off := 1) (o5.ext (jN.dr _ mC) (fun h => h)) rfl (by simp) fun w6 o6 x6 s6 => ?_
   simp only [aCa, aCc] at o6
   have x46 : jN w4 w6 (fun y => y = x) := (x5.mono fun _ _ h => h.elim).seq ((jN.dr _ _).seq x6)
   have hb6 : Bs w6 (.slice ma 1 (nc - 0)) [l.headD 0] := by
    have := Sl.take' (hsl.ext x46 fun hi => ?_) (k := 1) (by omega)
    .rw [<- hma] at this
     have e : (l.map nT).take 1 = ([l.headD 0] : List UInt8).map nT := by
      cases l with
      | nil => cases h1
      | cons c r => rfl
     rw [e] at this
     exact this
    .exact hold (DC hi fun y hy => by omega)
   have t6 := tail w6 1 ma (nc - 0) [l.headD 0] (by omega) o6 x46 hb6 (by simp) (by rw [hblk]; unfold Zd smX; simp)
   first
    | exact t6
    | (simp (disch := omega) only [gI, jD, dJ, stepR_skip, hJ, iC, iM, iP, iL, iN, jJ, iX, gM, iE, iG, iI, iH, gY, iO, hZ, iF, iV, iW, iJ, gR, iT, iQ, iD, jV, jW, kF, kD, kC, kG, kA, kB, kE, gD, Result.ok.injEq, Next.value.injEq, true_and, and_true, gX, iA, iU, iR, iS, jF, aB0, gV, gU, gW, gT, gO, gJ, gP, gN, gB, fV, if_true, if_false, aBZ, aB4, aB1, aB2, aB5, aB3, aBY, aBX, fQ, fL, fE, fR, cU, eS, eF, dK, bP, fS, eY, aP, dB, aX, bQ, bM, aO, cO, cJ, eQ, aE, gS, aJ, cK, aT, bU, fT, cI, cF, aD, gA, fD, aN, aF, bO, gQ, aI, eX, dT, dV, gF, dE, fB, cZ, eH, fF, fC, cG, dG, gK, dN, bZ, aS, bV, bT, fN, aG, aH, aQ, bA, bE, cP, bK, aA, fA, aR, cL, fJ, eU, gG, bJ, eL, eN, bY, fW, eZ, eJ, dH, cQ, dD, aY, bD, aL, fZ, aM, dA, eE, bB, cC, fK, dL, gC, fM, fG, fI, dS, aK, cH, cY, fY, fX, fH, dC, aV, dX, fU, cS, eT, fO, cD, bL, dR, aZ, dW, dQ, cM, eM, eK, bF, dF, bG, eD, dU, dZ, bN, cR, cN, dO, bS, cW, cV, fP, cB, eI, eP, gE, dY, dP, dM, dI, bH, bR, bW, bX, aU, cX, aW, s5d, z1, hn10]
       exact t6)
    | (simp (disch := omega) only [gI, jD, dJ, stepR_skip, hJ, iC, iM, iP, iL, iN, jJ, iX, gM, iE, iG, iI, iH, gY, iO, hZ, iF, iV, iW, iJ, gR, iT, iQ, iD, jV, jW, kF, kD, kC, kG, kA, kB, kE, gD, Result.ok.injEq, Next.value.injEq, true_and, and_true, gX, iA, iU, iR, iS, jF, aB0, gV, gU, gW, gT, gO, gJ, gP, gN, gB, fV, if_true, if_false, aBZ, aB4, aB1, aB2, aB5, aB3, aBY, aBX, fQ, fL, fE, fR, cU, eS, eF, dK, bP, fS, eY, aP, dB, aX, bQ, bM, aO, cO, cJ, eQ, aE, gS, aJ, cK, aT, bU, fT, cI, cF, aD, gA, fD, aN, aF, bO, gQ, aI, eX, dT, dV, gF, dE, fB, cZ, eH, fF, fC, cG, dG, gK, dN, bZ, aS, bV, bT, fN, aG, aH, aQ, bA, bE, cP, bK, aA, fA, aR, cL, fJ, eU, gG, bJ, eL, eN, bY, fW, eZ, eJ, dH, cQ, dD, aY, bD, aL, fZ, aM, dA, eE, bB, cC, fK, dL, gC, fM, fG, fI, dS, aK, cH, cY, fY, fX, fH, dC, aV, dX, fU, cS, eT, fO, cD, bL, dR, aZ, dW, dQ, cM, eM, eK, bF, dF, bG, eD, dU, dZ, bN, cR, cN, dO, bS, cW, cV, fP, cB, eI, eP, gE, dY, dP, dM, dI, bH, bR, bW, bX, aU, cX, aW, s5d, z1, hn10])
 | false =>
   have hl2 : l.length <= 2 := by
    rcases hs with h | h
    .rw [hal] at h; cases h
    .exact h
   have x45 : jN w4 w5 (fun y => y = x) := x5.mono fun _ _ h => h.elim
   have hblk : DG l = aAh l := by unfold DG; rw [if_neg (by rw [hal]; decide)]
   have l5 := ld x45 (fun h => hxp h.symm)
   try simp (disch := omega) only [gI, jD, dJ, stepR_skip, hJ, iC, iM, iP, iL, iN, jJ, iX, gM, iE, iG, iI, iH, gY, iO, hZ, iF, iV, iW, iJ, gR, iT, iQ, iD, jV, jW, kF, kD, kC, kG, kA, kB, kE, gD, Result.ok.injEq, Next.value.injEq, true_and, and_true, gX, iA, iU, iR, iS, jF, aB0, gV, gU, gW, gT, gO, gJ, gP, gN, gB, fV, if_true, if_false, aBZ, aB4, aB1, aB2, aB5, aB3, aBY, aBX, fQ, fL, fE, fR, cU, eS, eF, dK, bP, fS, eY, aP, dB, aX, bQ, bM, aO, cO, cJ, eQ, aE, gS, aJ, cK, aT, bU, fT, cI, cF, aD, gA, fD, aN, aF, bO, gQ, aI, eX, dT, dV, gF, dE, fB, cZ, eH, fF, fC, cG, dG, gK, dN, bZ, aS, bV, bT, fN, aG, aH, aQ, bA, bE, cP, bK, aA, fA, aR, cL, fJ, eU, gG, bJ, eL, eN, bY, fW, eZ, eJ, dH, cQ, dD, aY, bD, aL, fZ, aM, dA, eE, bB, cC, fK, dL, gC, fM, fG, fI, dS, aK, cH, cY, fY, fX, fH, dC, aV, dX, fU, cS, eT, fO, cD, bL, dR, aZ, dW, dQ, cM, eM, eK, bF, dF, bG, eD, dU, dZ, bN, cR, cN, dO, bS, cW, cV, fP, cB, eI, eP, gE, dY, dP, dM, dI, bH, bR, bW, bX, aU, cX, aW, l5]
   refine (aoU (l := l) (lvl := lvl) (hv.ext (x04.seq x5) (kJ _)) hl2 hlv).mono ?_
   rintro r w6 ⟨ho, x6⟩
   have hb6 := (hsl.ext x5 (kJ _)).ext x6 (kJ _)
   have fin : ∀ W, jN w6 W mC -> vK RR (.pointer (some ⟨p, 0, none⟩)) (.pointer (some ⟨q, 0, none⟩)) (.pointer (some ⟨x, 0, none⟩)) (.slice na l.length nc) W := fun W xx =>
    tail W 0 na nc l (by omega) ((o5.ext x6 (fun h => h)).ext xx (fun h => h)) ((x45.seq (x6.mono fun _ _ h => h.elim)).seq (xx.mono fun _ _ h => h.elim)) (hb6.ext xx (kJ _)) hl (by rw [hblk] <;> rfl)
   rcases ho with ⟨e, a', b', c', he, rfl⟩ | ⟨xv, bytes, a', b', c', rfl, ox, hb2⟩
   .have e0 : (e == 0) = false := beq_eq_false_iff_ne.2 he
    simp (disch := omega) only [gI, jD, dJ, stepR_skip, hJ, iC, iM, iP, iL, iN, jJ, iX, gM, iE, iG, iI, iH, gY, iO, hZ, iF, iV, iW, iJ, gR, iT, iQ, iD, jV, jW, kF, kD, kC, kG, kA, kB, kE, gD, Result.ok.injEq, Next.value.injEq, true_and, and_true, gX, iA, iU, iR, iS, jF, aB0, gV, gU, gW, gT, gO, gJ, gP, gN, gB, fV, if_true, if_false, aBZ, aB4, aB1, aB2, aB5, aB3, aBY, aBX, fQ, fL, fE, fR, cU, eS, eF, dK, bP, fS, eY, aP, dB, aX, bQ, bM, aO, cO, cJ, eQ, aE, gS, aJ, cK, aT, bU, fT, cI, cF, aD, gA, fD, aN, aF, bO, gQ, aI, eX, dT, dV, gF, dE, fB, cZ, eH, fF, fC, cG, dG, gK, dN, bZ, aS, bV, bT, fN, aG, aH, aQ, bA, bE, cP, bK, aA, fA, aR, cL, fJ, eU, gG, bJ, eL, eN, bY, fW, eZ, eJ, dH, cQ, dD, aY, bD, aL, fZ, aM, dA, eE, bB, cC, fK, dL, gC, fM, fG, fI, dS, aK, cH, cY, fY, fX, fH, dC, aV, dX, fU, cS, eT, fO, cD, bL, dR, aZ, dW, dQ, cM, eM, eK, bF, dF, bG, eD, dU, dZ, bN, cR, cN, dO, bS, cW, cV, fP, cB, eI, eP, gE, dY, dP, dM, dI, bH, bR, bW, bX, aU, cX, aW]
    refine tH fun w7 o7 x7 s7 => ?_
    refine qW o7 rfl (by simp [one]) (by simp) fun w8 o8 x8 s8 => ?_
    simp (disch := omega) only [gI, jD, dJ, stepR_skip, hJ, iC, iM, iP, iL, iN, jJ, iX, gM, iE, iG, iI, iH, gY, iO, hZ, iF, iV, iW, iJ, gR, iT, iQ, iD, jV, jW, kF, kD, kC, kG, kA, kB, kE, gD, Result.ok.injEq, Next.value.injEq, true_and, and_true, gX, iA, iU, iR, iS, jF, aB0, gV, gU, gW, gT, gO, gJ, gP, gN, gB, fV, if_true, if_false, aBZ, aB4, aB1, aB2, aB5, aB3, aBY, aBX, fQ, fL, fE, fR, cU, eS, eF, dK, bP, fS, eY, aP, dB, aX, bQ, bM, aO, cO, cJ, eQ, aE, gS, aJ, cK, aT, bU, fT, cI, cF, aD, gA, fD, aN, aF, bO, gQ, aI, eX, dT, dV, gF, dE, fB, cZ, eH, fF, fC, cG, dG, gK, dN, bZ, aS, bV, bT, fN, aG, aH, aQ, bA, bE, cP, bK, aA, fA, aR, cL, fJ, eU, gG, bJ, eL, eN, bY, fW, eZ, eJ, dH, cQ, dD, aY, bD, aL, fZ, aM, dA, eE, bB, cC, fK, dL, gC, fM, fG, fI, dS, aK, cH, cY, fY, fX, fH, dC, aV, dX, fU, cS, eT, fO, cD, bL, dR, aZ, dW, dQ, cM, eM, eK, bF, dF, bG, eD, dU, dZ, bN, cR, cN, dO, bS, cW, cV, fP, cB, eI, eP, gE, dY, dP, dM, dI, bH, bR, bW, bX, aU, cX, aW, e0]
    exact fin w8 (x7.trans x8 fun y hy h => by omega)
   .have e0 : ((0 : Int) == 0) = true := rfl
    obtain ⟨xa, xc, rfl⟩ := ox.len
    have d1 : decide ((bytes.length : Int) < (l.length : Int)) = false := decide_eq_false (by omega)
    simp (disch := omega) only [gI, jD, dJ, stepR_skip, hJ, iC, iM, iP, iL, iN, jJ, iX, gM, iE, iG, iI, iH, gY, iO, hZ, iF, iV, iW, iJ, gR, iT, iQ, iD, jV, jW, kF, kD, kC, kG, kA, kB, kE, gD, Result.ok.injEq, Next.value.injEq, true_and, and_true, gX, iA, iU, iR, iS, jF, aB0, gV, gU, gW, gT, gO, gJ, gP, gN, gB, fV, if_true, if_false, aBZ, aB4, aB1, aB2, aB5, aB3, aBY, aBX, fQ, fL, fE, fR, cU, eS, eF, dK, bP, fS, eY, aP, dB, aX, bQ, bM, aO, cO, cJ, eQ, aE, gS, aJ, cK, aT, bU, fT, cI, cF, aD, gA, fD, aN, aF, bO, gQ, aI, eX, dT, dV, gF, dE, fB, cZ, eH, fF, fC, cG, dG, gK, dN, bZ, aS, bV, bT, fN, aG, aH, aQ, bA, bE, cP, bK, aA, fA, aR, cL, fJ, eU, gG, bJ, eL, eN, bY, fW, eZ, eJ, dH, cQ, dD, aY, bD, aL, fZ, aM, dA, eE, bB, cC, fK, dL, gC, fM, fG, fI, dS, aK, cH, cY, fY, fX, fH, dC, aV, dX, fU, cS, eT, fO, cD, bL, dR, aZ, dW, dQ, cM, eM, eK, bF, dF, bG, eD, dU, dZ, bN, cR, cN, dO, bS, cW, cV, fP, cB, eI, eP, gE, dY, dP, dM, dI, bH, bR, bW, bX, aU, cX, aW]
    refine tH fun w7 o7 x7 s7 => ?_
    refine qW o7 rfl (by simp [one]) (by simp) fun w8 o8 x8 s8 => ?_
    simp (disch := omega) only [gI, jD, dJ, stepR_skip, hJ, iC, iM, iP, iL, iN, jJ, iX, gM, iE, iG, iI, iH, gY, iO, hZ, iF, iV, iW, iJ, gR, iT, iQ, iD, jV, jW, kF, kD, kC, kG, kA, kB, kE, gD, Result.ok.injEq, Next.value.injEq, true_and, and_true, gX, iA, iU, iR, iS, jF, aB0, gV, gU, gW, gT, gO, gJ, gP, gN, gB, fV, if_true, if_false, aBZ, aB4, aB1, aB2, aB5, aB3, aBY, aBX, fQ, fL, fE, fR, cU, eS, eF, dK, bP, fS, eY, aP, dB, aX, bQ, bM, aO, cO, cJ, eQ, aE, gS, aJ, cK, aT, bU, fT, cI, cF, aD, gA, fD, aN, aF, bO, gQ, aI, eX, dT, dV, gF, dE, fB, cZ, eH, fF, fC, cG, dG, gK, dN, bZ, aS, bV, bT, fN, aG, aH, aQ, bA, bE, cP, bK, aA, fA, aR, cL, fJ, eU, gG, bJ, eL, eN, bY, fW, eZ, eJ, dH, cQ, dD, aY, bD, aL, fZ, aM, dA, eE, bB, cC, fK, dL, gC, fM, fG, fI, dS, aK, cH, cY, fY, fX, fH, dC, aV, dX, fU, cS, eT, fO, cD, bL, dR, aZ, dW, dQ, cM, eM, eK, bF, dF, bG, eD, dU, dZ, bN, cR, cN, dO, bS, cW, cV, fP, cB, eI, eP, gE, dY, dP, dM, dI, bH, bR, bW, bX, aU, cX, aW, e0, d1]
    exact fin w8 (x7.trans x8 fun y hy h => by omega)
theorem atW {R : aEm -> aEl -> Prop} {S : Nat -> Prop} {base : Nat} {v0 vo : aEm} {b out : List UInt8} {s : Bool} {w : aEl} (h0 : Bs w v0 b) (hb : b.length <= 1000000) (ho : GX w S 1 vo out.length (out.map nT)) (hout : out.length <= 1000000) (hS : ∀ b, w.heap.size <= b -> S b)
 (hk : ∀ w' vr, GX w' S 1 vr (out ++ enT b s).length ((out ++ enT b s).map nT) -> jN w w' S -> R (.tuple #[vr, .int .i64 0]) w') :
 Cy R v0 (.bool s) vo w := by
 unfold Cy HP
 cases s with
 | false =>
   unfold enT at hk
   simp only [aBZ, if_false, aCM] at hk
   simp (disch := omega) only [gI, jD, dJ, stepR_skip, hJ, iC, iM, iP, iL, iN, jJ, iX, gM, iE, iG, iI, iH, gY, iO, hZ, iF, iV, iW, iJ, gR, iT, iQ, iD, jV, jW, kF, kD, kC, kG, kA, kB, kE, gD, Result.ok.injEq, Next.value.injEq, true_and, and_true, gX, iA, iU, iR, iS, jF, aB0, gV, gU, gW, gT, gO, gJ, gP, gN, gB, fV, if_true, if_false, aBZ, aB4, aB1, aB2, aB5, aB3, aBY, aBX, fQ, fL, fE, fR, cU, eS, eF, dK, bP, fS, eY, aP, dB, aX, bQ, bM, aO, cO, cJ, eQ, aE, gS, aJ, cK, aT, bU, fT, cI, cF, aD, gA, fD, aN, aF, bO, gQ, aI, eX, dT, dV, gF, dE, fB, cZ, eH, fF, fC, cG, dG, gK, dN, bZ, aS, bV, bT, fN, aG, aH, aQ, bA, bE, cP, bK, aA, fA, aR, cL, fJ, eU, gG, bJ, eL, eN, bY, fW, eZ, eJ, dH, cQ, dD, aY, bD, aL, fZ, aM, dA, eE, bB, cC, fK, dL, gC, fM, fG, fI, dS, aK, cH, cY, fY, fX, fH, dC, aV, dX, fU, cS, eT, fO, cD, bL, dR, aZ, dW, dQ, cM, eM, eK, bF, dF, bG, eD, dU, dZ, bN, cR, cN, dO, bS, cW, cV, fP, cB, eI, eP, gE, dY, dP, dM, dI, bH, bR, bW, bX, aU, cX, aW]
   unfold yS
   exact hk w vo ho (jN.refl _ _)
 | true =>
   unfold enT at hk
   simp only [if_true] at hk
   simp (disch := omega) only [gI, jD, dJ, stepR_skip, hJ, iC, iM, iP, iL, iN, jJ, iX, gM, iE, iG, iI, iH, gY, iO, hZ, iF, iV, iW, iJ, gR, iT, iQ, iD, jV, jW, kF, kD, kC, kG, kA, kB, kE, gD, Result.ok.injEq, Next.value.injEq, true_and, and_true, gX, iA, iU, iR, iS, jF, aB0, gV, gU, gW, gT, gO, gJ, gP, gN, gB, fV, if_true, if_false, aBZ, aB4, aB1, aB2, aB5, aB3, aBY, aBX, fQ, fL, fE, fR, cU, eS, eF, dK, bP, fS, eY, aP, dB, aX, bQ, bM, aO, cO, cJ, eQ, aE, gS, aJ, cK, aT, bU, fT, cI, cF, aD, gA, fD, aN, aF, bO, gQ, aI, eX, dT, dV, gF, dE, fB, cZ, eH, fF, fC, cG, dG, gK, dN, bZ, aS, bV, bT, fN, aG, aH, aQ, bA, bE, cP, bK, aA, fA, aR, cL, fJ, eU, gG, bJ, eL, eN, bY, fW, eZ, eJ, dH, cQ, dD, aY, bD, aL, fZ, aM, dA, eE, bB, cC, fK, dL, gC, fM, fG, fI, dS, aK, cH, cY, fY, fX, fH, dC, aV, dX, fU, cS, eT, fO, cD, bL, dR, aZ, dW, dQ, cM, eM, eK, bF, dF, bG, eD, dU, dZ, bN, cR, cN, dO, bS, cW, cV, fP, cB, eI, eP, gE, dY, dP, dM, dI, bH, bR, bW, bX, aU, cX, aW]
   refine (arF b (by omega) v0 w h0).mono ?_
   rintro r w1 ⟨rfl, x1⟩
   rw [ayH]
   obtain ⟨X, hX⟩ : ∃ X, X = XN b := ⟨_, rfl⟩
   have hXl := ayK b
   rw [<- hX] at hXl hk ⊢
   have q1 : (X : Int).fdiv (2 ^ min (Int.toNat 8) IntKind.u64.bits) = ((X / 256 : Nat) : Int) := by
    have : (2 : Int) ^ min (Int.toNat 8) IntKind.u64.bits = 256 := by decide
    rw [this, aCD _ (by omega)]; omega
   have q2 : (X : Int).fdiv (2 ^ min (Int.toNat 16) IntKind.u64.bits) = ((X / 65536 : Nat) : Int) := by
    have : (2 : Int) ^ min (Int.toNat 16) IntKind.u64.bits = 65536 := by decide
    rw [this, aCD _ (by omega)]; omega
   have q3 : (X : Int).fdiv (2 ^ min (Int.toNat 24) IntKind.u64.bits) = ((X / 16777216 : Nat) : Int) := by
    have : (2 : Int) ^ min (Int.toNat 24) IntKind.u64.bits = 16777216 := by decide
    rw [this, aCD _ (by omega)]; omega
   simp (disch := omega) only [gI, jD, dJ, stepR_skip, hJ, iC, iM, iP, iL, iN, jJ, iX, gM, iE, iG, iI, iH, gY, iO, hZ, iF, iV, iW, iJ, gR, iT, iQ, iD, jV, jW, kF, kD, kC, kG, kA, kB, kE, gD, Result.ok.injEq, Next.value.injEq, true_and, and_true, gX, iA, iU, iR, iS, jF, aB0, gV, gU, gW, gT, gO, gJ, gP, gN, gB, fV, if_true, if_false, aBZ, aB4, aB1, aB2, aB5, aB3, aBY, aBX, fQ, fL, fE, fR, cU, eS, eF, dK, bP, fS, eY, aP, dB, aX, bQ, bM, aO, cO, cJ, eQ, aE, gS, aJ, cK, aT, bU, fT, cI, cF, aD, gA, fD, aN, aF, bO, gQ, aI, eX, dT, dV, gF, dE, fB, cZ, eH, fF, fC, cG, dG, gK, dN, bZ, aS, bV, bT, fN, aG, aH, aQ, bA, bE, cP, bK, aA, fA, aR, cL, fJ, eU, gG, bJ, eL, eN, bY, fW, eZ, eJ, dH, cQ, dD, aY, bD, aL, fZ, aM, dA, eE, bB, cC, fK, dL, gC, fM, fG, fI, dS, aK, cH, cY, fY, fX, fH, dC, aV, dX, fU, cS, eT, fO, cD, bL, dR, aZ, dW, dQ, cM, eM, eK, bF, dF, bG, eD, dU, dZ, bN, cR, cN, dO, bS, cW, cV, fP, cB, eI, eP, gE, dY, dP, dM, dI, bH, bR, bW, bX, aU, cX, aW, q1, q2, q3, wu8]
   refine uD (cells := #[.int .u8 ((X : Int) % 256), .int .u8 (((X / 256 : Nat) : Int) % 256), .int .u8 (((X / 65536 : Nat) : Int) % 256), .int .u8 (((X / 16777216 : Nat) : Int) % 256)]) (by decide) (by decide) (by kernel_rfl) fun w2 o2 x2 s2 => ?_
   have hc : (#[.int .u8 ((X : Int) % 256), .int .u8 (((X / 256 : Nat) : Int) % 256), .int .u8 (((X / 65536 : Nat) : Int) % 256), .int .u8 (((X / 16777216 : Nat) : Int) % 256)] : Array aEm).toList = (nM X 4).map nT := by
    simp only [nM, aCz, aEj, nT]
    rw [ofN (by omega), ofN (by omega), ofN (by omega), ofN (by omega), aDi, aDi]
    rfl
   rw [hc] at o2
   have hb2 := asF o2
   rw [lA] at hb2
   have z1 := x1.size
   have z2 := x2.size
   refine apB ((ho.ext x1 fun _ _ h => h).ext x2 fun _ _ h => h) hb2 (fun y hy => hS y (by omega)) (by rw [lA]; omega) fun v3 w3 o3 x3 => ?_
   unfold yS
   exact hk w3 v3 o3 ((((x1.seq x2).mono fun _ _ h => h.elim).seq x3))
theorem alI {v : aEm} {l : List UInt8} {lvl : Nat} {s : Bool} {w : aEl} (h : Bs w v l) (h1 : 1 <= l.length) (hl : l.length <= 65536) (hs : Dn l = true ∨ l.length <= 2) (hlv : lvl <= 9) :
 jE pg D4 #[v, .int .i64 (lvl : Nat), .bool s] w (fun r w' => (∃ x, r = .tuple #[x, .int .i64 0] /\ yW w' w.heap.size 1 x (enF l (DG l) s).length ((enF l (DG l) s).map nT)) /\ jN w w' mC) := by
 refine VB ?_
 obtain ⟨RR, hRR⟩ : ∃ RR : aEm -> aEl -> Prop, RR = fun r w' => (∃ x, r = .tuple #[x, .int .i64 0] /\ yW w' w.heap.size 1 x (enF l (DG l) s).length ((enF l (DG l) s).map nT)) /\ jN w w' mC := ⟨_, rfl⟩
 rw [<- hRR]
 have hv := h
 obtain ⟨va, vc, rfl, hvc⟩ := h.len
 rw [aB6] at hv hvc ⊢
 have d1 : decide ((lvl : Int) < 0) = false := decide_eq_false (by omega)
 have d2 : decide ((9 : Int) < (lvl : Int)) = false := decide_eq_false (by omega)
 have d3 : decide ((4194304 : Int) < (l.length : Int)) = false := decide_eq_false (by omega)
 have e1 : IntKind.u64.wrap ((l.length : Nat) : Int) = ((l.length : Nat) : Int) := iA (by omega) (by omega)
 unfold Vo FG Gg
 simp (disch := omega) only [gI, jD, dJ, stepR_skip, hJ, iC, iM, iP, iL, iN, jJ, iX, gM, iE, iG, iI, iH, gY, iO, hZ, iF, iV, iW, iJ, gR, iT, iQ, iD, jV, jW, kF, kD, kC, kG, kA, kB, kE, gD, Result.ok.injEq, Next.value.injEq, true_and, and_true, gX, iA, iU, iR, iS, jF, aB0, gV, gU, gW, gT, gO, gJ, gP, gN, gB, fV, if_true, if_false, aBZ, aB4, aB1, aB2, aB5, aB3, aBY, aBX, fQ, fL, fE, fR, cU, eS, eF, dK, bP, fS, eY, aP, dB, aX, bQ, bM, aO, cO, cJ, eQ, aE, gS, aJ, cK, aT, bU, fT, cI, cF, aD, gA, fD, aN, aF, bO, gQ, aI, eX, dT, dV, gF, dE, fB, cZ, eH, fF, fC, cG, dG, gK, dN, bZ, aS, bV, bT, fN, aG, aH, aQ, bA, bE, cP, bK, aA, fA, aR, cL, fJ, eU, gG, bJ, eL, eN, bY, fW, eZ, eJ, dH, cQ, dD, aY, bD, aL, fZ, aM, dA, eE, bB, cC, fK, dL, gC, fM, fG, fI, dS, aK, cH, cY, fY, fX, fH, dC, aV, dX, fU, cS, eT, fO, cD, bL, dR, aZ, dW, dQ, cM, eM, eK, bF, dF, bG, eD, dU, dZ, bN, cR, cN, dO, bS, cW, cV, fP, cB, eI, eP, gE, dY, dP, dM, dI, bH, bR, bW, bX, aU, cX, aW, d1, d2, d3, e1]
 refine (afV (n := l.length) (by omega)).mono ?_
 rintro r w1 ⟨o1, x1⟩
 refine amX.mono ?_
 rintro r1 w2 ⟨rfl, x2⟩
 refine tH fun w3 o3 x3 s3 => ?_
 obtain ⟨p, hp⟩ : ∃ p, p = w2.heap.size := ⟨_, rfl⟩
 rw [<- hp] at o3 ⊢
 refine qW o3 rfl (by simp [one]) (by simp) fun w4 o4 x4 s4 => ?_
 have o4 : lN w4 p [.int .u32 (1 : Nat), .int .u32 (4 : Nat), .int .u32 (8 : Nat)] := o4
 have z1 := x1.size
 have z2 := x2.size
 have x24 : jN w2 w4 mC := x3.trans x4 fun y hy h => by omega
 have x04 : jN w w4 mC := (x1.seq x2).seq x24
 have z4 := x04.size
 let S : Nat -> Prop := fun y => w.heap.size <= y /\ y ≠ p
 have S4 : GX w4 S 1 r (FZ l.length s).length ((FZ l.length s).map nT) := (((yW.ne o1 (by omega)).ext x2 (fun _ _ h => h)).ext x24 (fun _ _ h => h))
 have hpl := aaC l.length s
 have lt4 : p < w4.heap.size := o4.lt
 unfold Ho Hp HV HI Hr
 have hbl : (DG l).length <= 65540 := by
  unfold DG; split
  .simp [Zd, b3]
  .simp [aAh, b3]; omega
 refine kP.rule (fun m (t : aEm × aEm) W => (m = 1 /\ t = (r, .int .i64 0) /\ W = w4) ∨ (m = 0 /\ ∃ vo, t = (vo, .int .i64 65536) /\ GX W S 1 vo (FZ l.length s ++ DG l).length ((FZ l.length s ++ DG l).map nT) /\ jN w W mC /\ p < W.heap.size)) 1 (.inl ⟨rfl, rfl, rfl⟩) ?_
 rintro m t W (⟨rfl, rfl, rfl⟩ | ⟨rfl, vo, rfl, oW, xW, ltW⟩)
 .unfold yE
  have k1 : ((0 : Int) == 0) = true := rfl
  have k3 : (0 : Int) + 65536 = 65536 := rfl
  have k4 : (if ((l.length : Nat) : Int) < (65536 : Int) then ((l.length : Nat) : Int) else (65536 : Int)) = ((l.length : Nat) : Int) := by split <;> omega
  have ld : (jG 45 (.pointer (some ⟨p, 0, none⟩))).run pg W = .ok (.value (WD 1 4 8)) W := CB (off := 0) o4 (by simp)
  simp (disch := omega) only [gI, jD, dJ, stepR_skip, hJ, iC, iM, iP, iL, iN, jJ, iX, gM, iE, iG, iI, iH, gY, iO, hZ, iF, iV, iW, iJ, gR, iT, iQ, iD, jV, jW, kF, kD, kC, kG, kA, kB, kE, gD, Result.ok.injEq, Next.value.injEq, true_and, and_true, gX, iA, iU, iR, iS, jF, aB0, gV, gU, gW, gT, gO, gJ, gP, gN, gB, fV, if_true, if_false, aBZ, aB4, aB1, aB2, aB5, aB3, aBY, aBX, fQ, fL, fE, fR, cU, eS, eF, dK, bP, fS, eY, aP, dB, aX, bQ, bM, aO, cO, cJ, eQ, aE, gS, aJ, cK, aT, bU, fT, cI, cF, aD, gA, fD, aN, aF, bO, gQ, aI, eX, dT, dV, gF, dE, fB, cZ, eH, fF, fC, cG, dG, gK, dN, bZ, aS, bV, bT, fN, aG, aH, aQ, bA, bE, cP, bK, aA, fA, aR, cL, fJ, eU, gG, bJ, eL, eN, bY, fW, eZ, eJ, dH, cQ, dD, aY, bD, aL, fZ, aM, dA, eE, bB, cC, fK, dL, gC, fM, fG, fI, dS, aK, cH, cY, fY, fX, fH, dC, aV, dX, fU, cS, eT, fO, cD, bL, dR, aZ, dW, dQ, cM, eM, eK, bF, dF, bG, eD, dU, dZ, bN, cR, cN, dO, bS, cW, cV, fP, cB, eI, eP, gE, dY, dP, dM, dI, bH, bR, bW, bX, aU, cX, aW, k1, k3, k4, ld]
  have hv4 := hv.ext x04 (kJ _)
  have hb := avW (lvl := lvl) (a := 1) (b := 4) (c := 8) hv4 h1 hl hs hlv
  refine hb.mono ?_
  rintro r5 w5 ⟨⟨bv, a', b', c', rfl, o5⟩, x5⟩
  have n0 : ((0 : Int) != 0) = false := rfl
  simp (disch := omega) only [gI, jD, dJ, stepR_skip, hJ, iC, iM, iP, iL, iN, jJ, iX, gM, iE, iG, iI, iH, gY, iO, hZ, iF, iV, iW, iJ, gR, iT, iQ, iD, jV, jW, kF, kD, kC, kG, kA, kB, kE, gD, Result.ok.injEq, Next.value.injEq, true_and, and_true, gX, iA, iU, iR, iS, jF, aB0, gV, gU, gW, gT, gO, gJ, gP, gN, gB, fV, if_true, if_false, aBZ, aB4, aB1, aB2, aB5, aB3, aBY, aBX, fQ, fL, fE, fR, cU, eS, eF, dK, bP, fS, eY, aP, dB, aX, bQ, bM, aO, cO, cJ, eQ, aE, gS, aJ, cK, aT, bU, fT, cI, cF, aD, gA, fD, aN, aF, bO, gQ, aI, eX, dT, dV, gF, dE, fB, cZ, eH, fF, fC, cG, dG, gK, dN, bZ, aS, bV, bT, fN, aG, aH, aQ, bA, bE, cP, bK, aA, fA, aR, cL, fJ, eU, gG, bJ, eL, eN, bY, fW, eZ, eJ, dH, cQ, dD, aY, bD, aL, fZ, aM, dA, eE, bB, cC, fK, dL, gC, fM, fG, fI, dS, aK, cH, cY, fY, fX, fH, dC, aV, dX, fU, cS, eT, fO, cD, bL, dR, aZ, dW, dQ, cM, eM, eK, bF, dF, bG, eD, dU, dZ, bN, cR, cN, dO, bS, cW, cV, fP, cB, eI, eP, gE, dY, dP, dM, dI, bH, bR, bW, bX, aU, cX, aW]
  refine tH fun w6 o6 x6 s6 => ?_
  obtain ⟨q, hq⟩ : ∃ q, q = w5.heap.size := ⟨_, rfl⟩
  rw [<- hq] at o6 ⊢
  refine qW o6 rfl (by simp [one]) (by simp) fun w7 o7 x7 s7 => ?_
  have o7 : lN w7 q [.int .u32 (a' : Nat), .int .u32 (b' : Nat), .int .u32 (c' : Nat)] := o7
  have z5 := x5.size
  have x57 : jN w5 w7 mC := x6.trans x7 fun y hy h => by omega
  have x47 := x5.seq x57
  have xd : jN w5 (dr w7) mC := x57.seq (jN.dr _ mC)
  have ldq : ∀ {W'}, jN w7 W' (fun y => S y /\ y ≠ q) -> (jG 45 (.pointer (some ⟨q, 0, none⟩))).run pg W' = .ok (.value (WD a' b' c')) W' := fun xx => CB (off := 0) (o7.ext xx fun hh => hh.2 rfl) (by simp)
  have l7 := ldq (jN.dr w7 _)
  simp (disch := omega) only [gI, jD, dJ, stepR_skip, hJ, iC, iM, iP, iL, iN, jJ, iX, gM, iE, iG, iI, iH, gY, iO, hZ, iF, iV, iW, iJ, gR, iT, iQ, iD, jV, jW, kF, kD, kC, kG, kA, kB, kE, gD, Result.ok.injEq, Next.value.injEq, true_and, and_true, gX, iA, iU, iR, iS, jF, aB0, gV, gU, gW, gT, gO, gJ, gP, gN, gB, fV, if_true, if_false, aBZ, aB4, aB1, aB2, aB5, aB3, aBY, aBX, fQ, fL, fE, fR, cU, eS, eF, dK, bP, fS, eY, aP, dB, aX, bQ, bM, aO, cO, cJ, eQ, aE, gS, aJ, cK, aT, bU, fT, cI, cF, aD, gA, fD, aN, aF, bO, gQ, aI, eX, dT, dV, gF, dE, fB, cZ, eH, fF, fC, cG, dG, gK, dN, bZ, aS, bV, bT, fN, aG, aH, aQ, bA, bE, cP, bK, aA, fA, aR, cL, fJ, eU, gG, bJ, eL, eN, bY, fW, eZ, eJ, dH, cQ, dD, aY, bD, aL, fZ, aM, dA, eE, bB, cC, fK, dL, gC, fM, fG, fI, dS, aK, cH, cY, fY, fX, fH, dC, aV, dX, fU, cS, eT, fO, cD, bL, dR, aZ, dW, dQ, cM, eM, eK, bF, dF, bG, eD, dU, dZ, bN, cR, cN, dO, bS, cW, cV, fP, cB, eI, eP, gE, dY, dP, dM, dI, bH, bR, bW, bX, aU, cX, aW, n0, l7]
  have hpq : p ≠ q := by omega
  have hb5 : Bs w5 bv (DG l) := o5.sl
  have hb7 : Bs (dr w7) bv (DG l) := hb5.ext xd (kJ _)
  let S2 : Nat -> Prop := fun y => S y /\ y ≠ q
  have S7 : GX (dr w7) S2 1 r (FZ l.length s).length ((FZ l.length s).map nT) := by
   have hS := S4
   have := hS.2
   refine ⟨hS.1, ?_⟩
   have S7' := ((S4.ext x47 (fun _ _ h => h)).ext (jN.dr _ mC) (fun _ _ h => h)).2
   rcases this with ⟨h, h0⟩ | ⟨b1, c1, rest, h1, h2, h3, h4⟩
   .exact .inl ⟨h, h0⟩
   .have hlt := h3.lt
    exact .inr ⟨b1, c1, rest, h1, ⟨h2, by omega⟩, (h3.ext x47 (fun h => h)).ext (jN.dr _ mC) (fun h => h), h4⟩
  have zd : (dr w7).heap.size = w7.heap.size := rfl
  have lt7 : q < w7.heap.size := o7.lt
  refine apB S7 hb7 (fun y hy => ⟨⟨by omega, by omega⟩, by omega⟩) (by omega) fun v8 w8 o8 x8 => ?_
  have l8 := ldq ((jN.dr w7 _).seq x8)
  have zz8 := x8.size
  simp (disch := omega) only [gI, jD, dJ, stepR_skip, hJ, iC, iM, iP, iL, iN, jJ, iX, gM, iE, iG, iI, iH, gY, iO, hZ, iF, iV, iW, iJ, gR, iT, iQ, iD, jV, jW, kF, kD, kC, kG, kA, kB, kE, gD, Result.ok.injEq, Next.value.injEq, true_and, and_true, gX, iA, iU, iR, iS, jF, aB0, gV, gU, gW, gT, gO, gJ, gP, gN, gB, fV, if_true, if_false, aBZ, aB4, aB1, aB2, aB5, aB3, aBY, aBX, fQ, fL, fE, fR, cU, eS, eF, dK, bP, fS, eY, aP, dB, aX, bQ, bM, aO, cO, cJ, eQ, aE, gS, aJ, cK, aT, bU, fT, cI, cF, aD, gA, fD, aN, aF, bO, gQ, aI, eX, dT, dV, gF, dE, fB, cZ, eH, fF, fC, cG, dG, gK, dN, bZ, aS, bV, bT, fN, aG, aH, aQ, bA, bE, cP, bK, aA, fA, aR, cL, fJ, eU, gG, bJ, eL, eN, bY, fW, eZ, eJ, dH, cQ, dD, aY, bD, aL, fZ, aM, dA, eE, bB, cC, fK, dL, gC, fM, fG, fI, dS, aK, cH, cY, fY, fX, fH, dC, aV, dX, fU, cS, eT, fO, cD, bL, dR, aZ, dW, dQ, cM, eM, eK, bF, dF, bG, eD, dU, dZ, bN, cR, cN, dO, bS, cW, cV, fP, cB, eI, eP, gE, dY, dP, dM, dI, bH, bR, bW, bX, aU, cX, aW, l7, l8]
  have oP8 : lN w8 p [.int .u32 (1 : Nat), .int .u32 (4 : Nat), .int .u32 (8 : Nat)] := ((o4.ext x47 (fun h => h)).ext (jN.dr _ mC) (fun h => h)).ext x8 (fun hh => hh.1.2 rfl)
  refine qW oP8 rfl (by simp [one]) (by simp) fun w9 o9 x9 s9 => ?_
  refine ⟨0, by omega, .inr ⟨rfl, v8, rfl, ?_, ?_, by have := x47.size; omega⟩⟩
  .have := o8.ext x9 (fun y hy hh => by rw [hh] at hy; exact hy.1.2 rfl)
   refine ⟨this.1, ?_⟩
   rcases this.2 with h | ⟨b1, c1, rest, h1, h2, h3⟩
   .exact .inl h
   .exact .inr ⟨b1, c1, rest, h1, h2.1, h3⟩
  .exact (((x04.seq x47).seq (jN.dr _ mC)).trans x8 fun y hy h => by have := h.1.1; omega).trans x9 fun y hy h => by omega
 .unfold yE
  have k1 : ((65536 : Int) == 0) = false := rfl
  have d4 : decide ((65536 : Int) < ((l.length : Nat) : Int)) = false := decide_eq_false (by omega)
  simp (disch := omega) only [gI, jD, dJ, stepR_skip, hJ, iC, iM, iP, iL, iN, jJ, iX, gM, iE, iG, iI, iH, gY, iO, hZ, iF, iV, iW, iJ, gR, iT, iQ, iD, jV, jW, kF, kD, kC, kG, kA, kB, kE, gD, Result.ok.injEq, Next.value.injEq, true_and, and_true, gX, iA, iU, iR, iS, jF, aB0, gV, gU, gW, gT, gO, gJ, gP, gN, gB, fV, if_true, if_false, aBZ, aB4, aB1, aB2, aB5, aB3, aBY, aBX, fQ, fL, fE, fR, cU, eS, eF, dK, bP, fS, eY, aP, dB, aX, bQ, bM, aO, cO, cJ, eQ, aE, gS, aJ, cK, aT, bU, fT, cI, cF, aD, gA, fD, aN, aF, bO, gQ, aI, eX, dT, dV, gF, dE, fB, cZ, eH, fF, fC, cG, dG, gK, dN, bZ, aS, bV, bT, fN, aG, aH, aQ, bA, bE, cP, bK, aA, fA, aR, cL, fJ, eU, gG, bJ, eL, eN, bY, fW, eZ, eJ, dH, cQ, dD, aY, bD, aL, fZ, aM, dA, eE, bB, cC, fK, dL, gC, fM, fG, fI, dS, aK, cH, cY, fY, fX, fH, dC, aV, dX, fU, cS, eT, fO, cD, bL, dR, aZ, dW, dQ, cM, eM, eK, bF, dF, bG, eD, dU, dZ, bN, cR, cN, dO, bS, cW, cV, fP, cB, eI, eP, gE, dY, dP, dM, dI, bH, bR, bW, bX, aU, cX, aW, k1, d4]
  refine atW (S := S) (b := l) (out := FZ l.length s ++ DG l) (base := 0) (hv.ext xW (kJ _)) (by omega) oW (by rw [aB7]; omega) (fun y hy => ⟨by have := xW.size; omega, by omega⟩) fun w' vr ov xv => ?_
  rw [aCr] at ov
  have ov : GX w' S 1 vr (enF l (DG l) s).length ((enF l (DG l) s).map nT) := ov
  rw [hRR]
  refine ⟨⟨vr, rfl, ov.1, ?_⟩, xW.trans xv fun y hy h => by have := h.1; omega⟩
  rcases ov.2 with h | ⟨b1, c1, rest, h1, h2, h3⟩
  .exact .inl h
  .exact .inr ⟨b1, c1, rest, h1, h2.1, h3⟩
theorem atU (l : List UInt8) : ((⟨l.toArray⟩ : ByteArray).toList == (⟨l.toArray⟩ : ByteArray).toList) = true := beq_self_eq_true _
theorem asC {i k : Nat} {c : aEm} (h : i < k) : (List.replicate i c ++ List.replicate (k - i) (Value.int .u8 0)).set i c = List.replicate (i + 1) c ++ List.replicate (k - (i + 1)) (Value.int .u8 0) := by
 obtain ⟨m, hm⟩ : ∃ m, k - i = m + 1 := ⟨k - i - 1, by omega⟩
 have hm2 : k - (i + 1) = m := by omega
 rw [hm, hm2, aCI _ _ (by simp), aCZ, aDh, aC9, aCa, List.replicate_succ']
 simp
end Go.Proofs.YtoecppploooloaaGreatDoor
namespace Go.Pu
section
variable {κ β : Type} [DecidableEq κ]
end
def over (old : List UInt8) (a : Nat) (b : List UInt8) : List UInt8 := (old ++ List.replicate (max old.length (a + b.length) - old.length) 0).take a ++ b ++ (old ++ List.replicate (max old.length (a + b.length) - old.length) 0).drop (a + b.length)
section
variable (cf : List UInt8 -> Nat)
end
def aeR (L k : Nat) : Nat := if 0 < L % k then L / k + 1 else L / k
theorem axO {L k i : Nat} (hk : 0 < k) : i < aeR L k ↔ k * i < L := by
 unfold aeR
 have h1 := Nat.div_add_mod L k
 have h2 := aD6 L hk
 generalize L / k = q at *
 generalize L % k = r at *
 split
 .constructor
  .intro h
   have : k * i <= k * q := aDZ _ (by omega)
   omega
  .intro h
   by_cases h3 : i < q + 1
   .exact h3
   .have : k * (q + 1) <= k * i := aDZ _ (by omega)
    rw [aDL] at this; omega
 .constructor
  .intro h
   have : k * (i + 1) <= k * q := aDZ _ (by omega)
   rw [aDL] at this; omega
  .intro h
   by_cases h3 : i < q
   .exact h3
   .have : k * q <= k * i := aDZ _ (by omega)
    omega
def spN (L k i : Nat) : Nat := min (L - k * i) k
end Go.Pu
namespace Go.Proofs.YtoecppploooloaaGreatDoor
open Go Go.En Go.Pu
set_option maxRecDepth 4000
def Nv (L : Nat) (k : Int) : Nat × Int := if k < 1 ∨ 65536 < k then (0, 1) else if 1024 < aeR L k.toNat then (0, 12) else (aeR L k.toNat, 0)
abbrev aoE (L : Nat) (k : Int) : aEm := .tuple #[.int .i64 ((Nv L k).1 : Nat), .int .i64 (Nv L k).2]
def akD (L : Nat) (k i : Int) : Nat × Nat × Int := if (Nv L k).2 ≠ 0 then (0, 0, (Nv L k).2) else if i < 0 ∨ ((Nv L k).1 : Int) <= i then (0, 0, 17) else (k.toNat * i.toNat, spN L k.toNat i.toNat, 0)
abbrev asT (L : Nat) (k i : Int) : aEm := .tuple #[.int .u64 ((akD L k i).1 : Nat), .int .i64 ((akD L k i).2.1 : Nat), .int .i64 (akD L k i).2.2]
theorem amS {L : Nat} {k : Int} (h : k < 1 ∨ 65536 < k) : Nv L k = (0, 1) := by unfold Nv; rw [if_pos h]
theorem axD {L k : Nat} (h1 : 1 <= k) (h2 : k <= 65536) : Nv L (k : Nat) = if 1024 < aeR L k then (0, 12) else (aeR L k, 0) := by
 unfold Nv
 rw [if_neg (by omega), aB0]
theorem awZ {L : Nat} {k : Int} (h : (Nv L k).2 = 0) : 1 <= k /\ k <= 65536 /\ aeR L k.toNat <= 1024 /\ (Nv L k).1 = aeR L k.toNat := by
 unfold Nv at *
 split at h
 .cases h
 .rename_i h1
  split at h
  .cases h
  .rename_i h2
   rw [if_neg h1, if_neg h2]
   exact ⟨by omega, by omega, by omega, rfl⟩
theorem aiM {L : Nat} {k : Int} {w : aEl} (hL : L < 2 ^ 64) (hk : -9223372036854775808 <= k /\ k <= 9223372036854775807) :
 jE pg DV #[.int .u64 (L : Nat), .int .i64 k] w (fun r w' => r = aoE L k /\ w' = w) := by
 refine Yw ?_
 obtain ⟨RR, hRR⟩ : ∃ RR : aEm -> aEl -> Prop, RR = fun r w' => r = aoE L k /\ w' = w := ⟨_, rfl⟩
 rw [<- hRR]
 unfold ZG LO KA
 by_cases hb : k < 1
 .have d1 : decide (k < 1) = true := by simpa using hb
  simp (disch := omega) only [gI, jD, dJ, stepR_skip, hJ, iC, iM, iP, iL, iN, jJ, iX, gM, iE, iG, iI, iH, gY, iO, hZ, iF, iV, iW, iJ, gR, iT, iQ, iD, jV, jW, kF, kD, kC, kG, kA, kB, kE, gD, Result.ok.injEq, Next.value.injEq, true_and, and_true, gX, iA, iU, iR, iS, jF, aB0, gV, gU, gW, gT, gO, gJ, gP, gN, gB, fV, if_true, if_false, aBZ, aB4, aB1, aB2, aB5, aB3, aBY, aBX, fQ, fL, fE, fR, cU, eS, eF, dK, bP, fS, eY, aP, dB, aX, bQ, bM, aO, cO, cJ, eQ, aE, gS, aJ, cK, aT, bU, fT, cI, cF, aD, gA, fD, aN, aF, bO, gQ, aI, eX, dT, dV, gF, dE, fB, cZ, eH, fF, fC, cG, dG, gK, dN, bZ, aS, bV, bT, fN, aG, aH, aQ, bA, bE, cP, bK, aA, fA, aR, cL, fJ, eU, gG, bJ, eL, eN, bY, fW, eZ, eJ, dH, cQ, dD, aY, bD, aL, fZ, aM, dA, eE, bB, cC, fK, dL, gC, fM, fG, fI, dS, aK, cH, cY, fY, fX, fH, dC, aV, dX, fU, cS, eT, fO, cD, bL, dR, aZ, dW, dQ, cM, eM, eK, bF, dF, bG, eD, dU, dZ, bN, cR, cN, dO, bS, cW, cV, fP, cB, eI, eP, gE, dY, dP, dM, dI, bH, bR, bW, bX, aU, cX, aW, d1]
  rw [hRR]
  unfold aoE
  rw [amS (.inl hb)]
  exact ⟨rfl, rfl⟩
 have d1 : decide (k < 1) = false := by simpa using hb
 by_cases hb2 : 65536 < k
 .have d2 : decide ((65536 : Int) < k) = true := by simpa using hb2
  simp (disch := omega) only [gI, jD, dJ, stepR_skip, hJ, iC, iM, iP, iL, iN, jJ, iX, gM, iE, iG, iI, iH, gY, iO, hZ, iF, iV, iW, iJ, gR, iT, iQ, iD, jV, jW, kF, kD, kC, kG, kA, kB, kE, gD, Result.ok.injEq, Next.value.injEq, true_and, and_true, gX, iA, iU, iR, iS, jF, aB0, gV, gU, gW, gT, gO, gJ, gP, gN, gB, fV, if_true, if_false, aBZ, aB4, aB1, aB2, aB5, aB3, aBY, aBX, fQ, fL, fE, fR, cU, eS, eF, dK, bP, fS, eY, aP, dB, aX, bQ, bM, aO, cO, cJ, eQ, aE, gS, aJ, cK, aT, bU, fT, cI, cF, aD, gA, fD, aN, aF, bO, gQ, aI, eX, dT, dV, gF, dE, fB, cZ, eH, fF, fC, cG, dG, gK, dN, bZ, aS, bV, bT, fN, aG, aH, aQ, bA, bE, cP, bK, aA, fA, aR, cL, fJ, eU, gG, bJ, eL, eN, bY, fW, eZ, eJ, dH, cQ, dD, aY, bD, aL, fZ, aM, dA, eE, bB, cC, fK, dL, gC, fM, fG, fI, dS, aK, cH, cY, fY, fX, fH, dC, aV, dX, fU, cS, eT, fO, cD, bL, dR, aZ, dW, dQ, cM, eM, eK, bF, dF, bG, eD, dU, dZ, bN, cR, cN, dO, bS, cW, cV, fP, cB, eI, eP, gE, dY, dP, dM, dI, bH, bR, bW, bX, aU, cX, aW, d1, d2]
  rw [hRR]
  unfold aoE
  rw [amS (.inr hb2)]
  exact ⟨rfl, rfl⟩
 have d2 : decide ((65536 : Int) < k) = false := by simpa using hb2
 obtain ⟨k, rfl⟩ : ∃ n : Nat, k = n := ⟨k.toNat, by omega⟩
 have e1 : (L : Int).tdiv (k : Int) = ((L / k : Nat) : Int) := rfl
 have e2 : (L : Int).tmod (k : Int) = ((L % k : Nat) : Int) := rfl
 have hq : L / k <= L := aD2 _ _
 have hm := aD6 L (show 0 < k by omega)
 have hc : aeR L k = if 0 < L % k then L / k + 1 else L / k := rfl
 have hE := axD (L := L) (k := k) (by omega) (by omega)
 have hdm := Nat.div_add_mod L k
 have hbig : 0 < L % k -> L / k + 1 < 2 ^ 64 := fun h => by
  have : 2 * (L / k) <= k * (L / k) := aCv _ (by omega)
  omega
 unfold aoE at hRR
 generalize Nv L k = E at *
 generalize L / k = q at *
 generalize L % k = r at *
 by_cases hr : 0 < r
 .rw [if_pos hr] at hc
  have hbig := hbig hr
  have d3 : decide ((0 : Int) < (r : Int)) = true := by simp only [decide_eq_true_eq]; omega
  have e3 : (q : Int) + 1 = ((q + 1 : Nat) : Int) := by omega
  rw [hc] at hE
  by_cases hb : 1024 < q + 1
  .have d4 : decide ((1024 : Int) < ((q + 1 : Nat) : Int)) = true := by simp only [decide_eq_true_eq]; omega
   rw [if_pos hb] at hE
   unfold uM
   simp (disch := omega) only [gI, jD, dJ, stepR_skip, hJ, iC, iM, iP, iL, iN, jJ, iX, gM, iE, iG, iI, iH, gY, iO, hZ, iF, iV, iW, iJ, gR, iT, iQ, iD, jV, jW, kF, kD, kC, kG, kA, kB, kE, gD, Result.ok.injEq, Next.value.injEq, true_and, and_true, gX, iA, iU, iR, iS, jF, aB0, gV, gU, gW, gT, gO, gJ, gP, gN, gB, fV, if_true, if_false, aBZ, aB4, aB1, aB2, aB5, aB3, aBY, aBX, fQ, fL, fE, fR, cU, eS, eF, dK, bP, fS, eY, aP, dB, aX, bQ, bM, aO, cO, cJ, eQ, aE, gS, aJ, cK, aT, bU, fT, cI, cF, aD, gA, fD, aN, aF, bO, gQ, aI, eX, dT, dV, gF, dE, fB, cZ, eH, fF, fC, cG, dG, gK, dN, bZ, aS, bV, bT, fN, aG, aH, aQ, bA, bE, cP, bK, aA, fA, aR, cL, fJ, eU, gG, bJ, eL, eN, bY, fW, eZ, eJ, dH, cQ, dD, aY, bD, aL, fZ, aM, dA, eE, bB, cC, fK, dL, gC, fM, fG, fI, dS, aK, cH, cY, fY, fX, fH, dC, aV, dX, fU, cS, eT, fO, cD, bL, dR, aZ, dW, dQ, cM, eM, eK, bF, dF, bG, eD, dU, dZ, bN, cR, cN, dO, bS, cW, cV, fP, cB, eI, eP, gE, dY, dP, dM, dI, bH, bR, bW, bX, aU, cX, aW, d1, d2, e1, e2, d3, e3, d4]
   rw [hRR, hE]
   exact ⟨rfl, rfl⟩
  .have d4 : decide ((1024 : Int) < ((q + 1 : Nat) : Int)) = false := by simp only [decide_eq_false_iff_not]; omega
   rw [if_neg hb] at hE
   unfold uM
   simp (disch := omega) only [gI, jD, dJ, stepR_skip, hJ, iC, iM, iP, iL, iN, jJ, iX, gM, iE, iG, iI, iH, gY, iO, hZ, iF, iV, iW, iJ, gR, iT, iQ, iD, jV, jW, kF, kD, kC, kG, kA, kB, kE, gD, Result.ok.injEq, Next.value.injEq, true_and, and_true, gX, iA, iU, iR, iS, jF, aB0, gV, gU, gW, gT, gO, gJ, gP, gN, gB, fV, if_true, if_false, aBZ, aB4, aB1, aB2, aB5, aB3, aBY, aBX, fQ, fL, fE, fR, cU, eS, eF, dK, bP, fS, eY, aP, dB, aX, bQ, bM, aO, cO, cJ, eQ, aE, gS, aJ, cK, aT, bU, fT, cI, cF, aD, gA, fD, aN, aF, bO, gQ, aI, eX, dT, dV, gF, dE, fB, cZ, eH, fF, fC, cG, dG, gK, dN, bZ, aS, bV, bT, fN, aG, aH, aQ, bA, bE, cP, bK, aA, fA, aR, cL, fJ, eU, gG, bJ, eL, eN, bY, fW, eZ, eJ, dH, cQ, dD, aY, bD, aL, fZ, aM, dA, eE, bB, cC, fK, dL, gC, fM, fG, fI, dS, aK, cH, cY, fY, fX, fH, dC, aV, dX, fU, cS, eT, fO, cD, bL, dR, aZ, dW, dQ, cM, eM, eK, bF, dF, bG, eD, dU, dZ, bN, cR, cN, dO, bS, cW, cV, fP, cB, eI, eP, gE, dY, dP, dM, dI, bH, bR, bW, bX, aU, cX, aW, d1, d2, e1, e2, d3, e3, d4]
   rw [hRR, hE]
   exact ⟨rfl, rfl⟩
 .rw [if_neg hr] at hc
  have d3 : decide ((0 : Int) < (r : Int)) = false := by simp only [decide_eq_false_iff_not]; omega
  rw [hc] at hE
  by_cases hb : 1024 < q
  .have d4 : decide ((1024 : Int) < (q : Int)) = true := by simp only [decide_eq_true_eq]; omega
   rw [if_pos hb] at hE
   unfold uM
   simp (disch := omega) only [gI, jD, dJ, stepR_skip, hJ, iC, iM, iP, iL, iN, jJ, iX, gM, iE, iG, iI, iH, gY, iO, hZ, iF, iV, iW, iJ, gR, iT, iQ, iD, jV, jW, kF, kD, kC, kG, kA, kB, kE, gD, Result.ok.injEq, Next.value.injEq, true_and, and_true, gX, iA, iU, iR, iS, jF, aB0, gV, gU, gW, gT, gO, gJ, gP, gN, gB, fV, if_true, if_false, aBZ, aB4, aB1, aB2, aB5, aB3, aBY, aBX, fQ, fL, fE, fR, cU, eS, eF, dK, bP, fS, eY, aP, dB, aX, bQ, bM, aO, cO, cJ, eQ, aE, gS, aJ, cK, aT, bU, fT, cI, cF, aD, gA, fD, aN, aF, bO, gQ, aI, eX, dT, dV, gF, dE, fB, cZ, eH, fF, fC, cG, dG, gK, dN, bZ, aS, bV, bT, fN, aG, aH, aQ, bA, bE, cP, bK, aA, fA, aR, cL, fJ, eU, gG, bJ, eL, eN, bY, fW, eZ, eJ, dH, cQ, dD, aY, bD, aL, fZ, aM, dA, eE, bB, cC, fK, dL, gC, fM, fG, fI, dS, aK, cH, cY, fY, fX, fH, dC, aV, dX, fU, cS, eT, fO, cD, bL, dR, aZ, dW, dQ, cM, eM, eK, bF, dF, bG, eD, dU, dZ, bN, cR, cN, dO, bS, cW, cV, fP, cB, eI, eP, gE, dY, dP, dM, dI, bH, bR, bW, bX, aU, cX, aW, d1, d2, e1, e2, d3, d4]
   rw [hRR, hE]
   exact ⟨rfl, rfl⟩
  .have d4 : decide ((1024 : Int) < (q : Int)) = false := by simp only [decide_eq_false_iff_not]; omega
   rw [if_neg hb] at hE
   unfold uM
   simp (disch := omega) only [gI, jD, dJ, stepR_skip, hJ, iC, iM, iP, iL, iN, jJ, iX, gM, iE, iG, iI, iH, gY, iO, hZ, iF, iV, iW, iJ, gR, iT, iQ, iD, jV, jW, kF, kD, kC, kG, kA, kB, kE, gD, Result.ok.injEq, Next.value.injEq, true_and, and_true, gX, iA, iU, iR, iS, jF, aB0, gV, gU, gW, gT, gO, gJ, gP, gN, gB, fV, if_true, if_false, aBZ, aB4, aB1, aB2, aB5, aB3, aBY, aBX, fQ, fL, fE, fR, cU, eS, eF, dK, bP, fS, eY, aP, dB, aX, bQ, bM, aO, cO, cJ, eQ, aE, gS, aJ, cK, aT, bU, fT, cI, cF, aD, gA, fD, aN, aF, bO, gQ, aI, eX, dT, dV, gF, dE, fB, cZ, eH, fF, fC, cG, dG, gK, dN, bZ, aS, bV, bT, fN, aG, aH, aQ, bA, bE, cP, bK, aA, fA, aR, cL, fJ, eU, gG, bJ, eL, eN, bY, fW, eZ, eJ, dH, cQ, dD, aY, bD, aL, fZ, aM, dA, eE, bB, cC, fK, dL, gC, fM, fG, fI, dS, aK, cH, cY, fY, fX, fH, dC, aV, dX, fU, cS, eT, fO, cD, bL, dR, aZ, dW, dQ, cM, eM, eK, bF, dF, bG, eD, dU, dZ, bN, cR, cN, dO, bS, cW, cV, fP, cB, eI, eP, gE, dY, dP, dM, dI, bH, bR, bW, bX, aU, cX, aW, d1, d2, e1, e2, d3, d4]
   rw [hRR, hE]
   exact ⟨rfl, rfl⟩
theorem awU {L : Nat} {k i : Int} {w : aEl} (hL : L < 2 ^ 64) (hk : -9223372036854775808 <= k /\ k <= 9223372036854775807) (hi : -9223372036854775808 <= i /\ i <= 9223372036854775807) :
 jE pg JS #[.int .u64 (L : Nat), .int .i64 k, .int .i64 i] w (fun r w' => r = asT L k i /\ w' = w) := by
 refine ZJ ?_
 obtain ⟨RR, hRR⟩ : ∃ RR : aEm -> aEl -> Prop, RR = fun r w' => r = asT L k i /\ w' = w := ⟨_, rfl⟩
 rw [<- hRR]
 unfold abK NX
 refine (aiM hL hk).mono ?_
 rintro r w1 ⟨rfl, hw⟩
 rw [hw]; clear hw w1
 by_cases h0 : (Nv L k).2 = 0
 rotate_left
 .have n0 : ((Nv L k).2 != 0) = true := bne_iff_ne.2 h0
  simp (disch := omega) only [gI, jD, dJ, stepR_skip, hJ, iC, iM, iP, iL, iN, jJ, iX, gM, iE, iG, iI, iH, gY, iO, hZ, iF, iV, iW, iJ, gR, iT, iQ, iD, jV, jW, kF, kD, kC, kG, kA, kB, kE, gD, Result.ok.injEq, Next.value.injEq, true_and, and_true, gX, iA, iU, iR, iS, jF, aB0, gV, gU, gW, gT, gO, gJ, gP, gN, gB, fV, if_true, if_false, aBZ, aB4, aB1, aB2, aB5, aB3, aBY, aBX, fQ, fL, fE, fR, cU, eS, eF, dK, bP, fS, eY, aP, dB, aX, bQ, bM, aO, cO, cJ, eQ, aE, gS, aJ, cK, aT, bU, fT, cI, cF, aD, gA, fD, aN, aF, bO, gQ, aI, eX, dT, dV, gF, dE, fB, cZ, eH, fF, fC, cG, dG, gK, dN, bZ, aS, bV, bT, fN, aG, aH, aQ, bA, bE, cP, bK, aA, fA, aR, cL, fJ, eU, gG, bJ, eL, eN, bY, fW, eZ, eJ, dH, cQ, dD, aY, bD, aL, fZ, aM, dA, eE, bB, cC, fK, dL, gC, fM, fG, fI, dS, aK, cH, cY, fY, fX, fH, dC, aV, dX, fU, cS, eT, fO, cD, bL, dR, aZ, dW, dQ, cM, eM, eK, bF, dF, bG, eD, dU, dZ, bN, cR, cN, dO, bS, cW, cV, fP, cB, eI, eP, gE, dY, dP, dM, dI, bH, bR, bW, bX, aU, cX, aW, n0]
  rw [hRR]
  unfold asT akD
  rw [if_pos h0]
  exact ⟨rfl, rfl⟩
 have n0 : ((Nv L k).2 != 0) = false := by rw [h0] <;> rfl
 have hS : akD L k i = if i < 0 ∨ ((Nv L k).1 : Int) <= i then (0, 0, 17) else (k.toNat * i.toNat, spN L k.toNat i.toNat, 0) := by unfold akD; rw [if_neg (by omega)]
 obtain ⟨k1, k2, k3, k4⟩ := awZ h0
 unfold asT at hRR
 by_cases h1 : i < 0
 .have d1 : decide (i < 0) = true := by simpa using h1
  simp (disch := omega) only [gI, jD, dJ, stepR_skip, hJ, iC, iM, iP, iL, iN, jJ, iX, gM, iE, iG, iI, iH, gY, iO, hZ, iF, iV, iW, iJ, gR, iT, iQ, iD, jV, jW, kF, kD, kC, kG, kA, kB, kE, gD, Result.ok.injEq, Next.value.injEq, true_and, and_true, gX, iA, iU, iR, iS, jF, aB0, gV, gU, gW, gT, gO, gJ, gP, gN, gB, fV, if_true, if_false, aBZ, aB4, aB1, aB2, aB5, aB3, aBY, aBX, fQ, fL, fE, fR, cU, eS, eF, dK, bP, fS, eY, aP, dB, aX, bQ, bM, aO, cO, cJ, eQ, aE, gS, aJ, cK, aT, bU, fT, cI, cF, aD, gA, fD, aN, aF, bO, gQ, aI, eX, dT, dV, gF, dE, fB, cZ, eH, fF, fC, cG, dG, gK, dN, bZ, aS, bV, bT, fN, aG, aH, aQ, bA, bE, cP, bK, aA, fA, aR, cL, fJ, eU, gG, bJ, eL, eN, bY, fW, eZ, eJ, dH, cQ, dD, aY, bD, aL, fZ, aM, dA, eE, bB, cC, fK, dL, gC, fM, fG, fI, dS, aK, cH, cY, fY, fX, fH, dC, aV, dX, fU, cS, eT, fO, cD, bL, dR, aZ, dW, dQ, cM, eM, eK, bF, dF, bG, eD, dU, dZ, bN, cR, cN, dO, bS, cW, cV, fP, cB, eI, eP, gE, dY, dP, dM, dI, bH, bR, bW, bX, aU, cX, aW, n0, d1]
  rw [hRR, hS, if_pos (.inl h1)]
  exact ⟨rfl, rfl⟩
 have d1 : decide (i < 0) = false := by simpa using h1
 by_cases h2 : ((Nv L k).1 : Int) <= i
 .have d2 : decide (((Nv L k).1 : Int) <= i) = true := by simpa using h2
  simp (disch := omega) only [gI, jD, dJ, stepR_skip, hJ, iC, iM, iP, iL, iN, jJ, iX, gM, iE, iG, iI, iH, gY, iO, hZ, iF, iV, iW, iJ, gR, iT, iQ, iD, jV, jW, kF, kD, kC, kG, kA, kB, kE, gD, Result.ok.injEq, Next.value.injEq, true_and, and_true, gX, iA, iU, iR, iS, jF, aB0, gV, gU, gW, gT, gO, gJ, gP, gN, gB, fV, if_true, if_false, aBZ, aB4, aB1, aB2, aB5, aB3, aBY, aBX, fQ, fL, fE, fR, cU, eS, eF, dK, bP, fS, eY, aP, dB, aX, bQ, bM, aO, cO, cJ, eQ, aE, gS, aJ, cK, aT, bU, fT, cI, cF, aD, gA, fD, aN, aF, bO, gQ, aI, eX, dT, dV, gF, dE, fB, cZ, eH, fF, fC, cG, dG, gK, dN, bZ, aS, bV, bT, fN, aG, aH, aQ, bA, bE, cP, bK, aA, fA, aR, cL, fJ, eU, gG, bJ, eL, eN, bY, fW, eZ, eJ, dH, cQ, dD, aY, bD, aL, fZ, aM, dA, eE, bB, cC, fK, dL, gC, fM, fG, fI, dS, aK, cH, cY, fY, fX, fH, dC, aV, dX, fU, cS, eT, fO, cD, bL, dR, aZ, dW, dQ, cM, eM, eK, bF, dF, bG, eD, dU, dZ, bN, cR, cN, dO, bS, cW, cV, fP, cB, eI, eP, gE, dY, dP, dM, dI, bH, bR, bW, bX, aU, cX, aW, n0, d1, d2]
  rw [hRR, hS, if_pos (.inr h2)]
  exact ⟨rfl, rfl⟩
 have d2 : decide (((Nv L k).1 : Int) <= i) = false := by simpa using h2
 rw [if_neg (by omega)] at hS
 obtain ⟨k, rfl⟩ : ∃ n : Nat, k = n := ⟨k.toNat, by omega⟩
 obtain ⟨i, rfl⟩ : ∃ n : Nat, i = n := ⟨i.toNat, by omega⟩
 simp only [aB0] at hS k3 k4
 have hlt := (axO (L := L) (k := k) (i := i) (by omega)).1 (by omega)
 have e1 : (k : Int) * (i : Int) = ((k * i : Nat) : Int) := by simp
 obtain ⟨q, hq⟩ : ∃ q, q = k * i := ⟨_, rfl⟩
 have e2 : (L : Int) - ((q : Nat) : Int) = ((L - q : Nat) : Int) := by omega
 have e3 : (if ((k : Nat) : Int) < ((L - q : Nat) : Int) then ((k : Nat) : Int) else ((L - q : Nat) : Int)) = ((spN L k i : Nat) : Int) := by
  unfold spN
  rw [<- hq]
  split <;> omega
 have hsp : spN L k i <= k := by unfold spN; omega
 rw [hS] at hRR
 rw [<- hq] at e1 hlt hRR
 simp (disch := omega) only [gI, jD, dJ, stepR_skip, hJ, iC, iM, iP, iL, iN, jJ, iX, gM, iE, iG, iI, iH, gY, iO, hZ, iF, iV, iW, iJ, gR, iT, iQ, iD, jV, jW, kF, kD, kC, kG, kA, kB, kE, gD, Result.ok.injEq, Next.value.injEq, true_and, and_true, gX, iA, iU, iR, iS, jF, aB0, gV, gU, gW, gT, gO, gJ, gP, gN, gB, fV, if_true, if_false, aBZ, aB4, aB1, aB2, aB5, aB3, aBY, aBX, fQ, fL, fE, fR, cU, eS, eF, dK, bP, fS, eY, aP, dB, aX, bQ, bM, aO, cO, cJ, eQ, aE, gS, aJ, cK, aT, bU, fT, cI, cF, aD, gA, fD, aN, aF, bO, gQ, aI, eX, dT, dV, gF, dE, fB, cZ, eH, fF, fC, cG, dG, gK, dN, bZ, aS, bV, bT, fN, aG, aH, aQ, bA, bE, cP, bK, aA, fA, aR, cL, fJ, eU, gG, bJ, eL, eN, bY, fW, eZ, eJ, dH, cQ, dD, aY, bD, aL, fZ, aM, dA, eE, bB, cC, fK, dL, gC, fM, fG, fI, dS, aK, cH, cY, fY, fX, fH, dC, aV, dX, fU, cS, eT, fO, cD, bL, dR, aZ, dW, dQ, cM, eM, eK, bF, dF, bG, eD, dU, dZ, bN, cR, cN, dO, bS, cW, cV, fP, cB, eI, eP, gE, dY, dP, dM, dI, bH, bR, bW, bX, aU, cX, aW, n0, d1, d2, e1, e2, e3]
 rw [hRR]
 exact ⟨rfl, rfl⟩
end Go.Proofs.YtoecppploooloaaGreatDoor
