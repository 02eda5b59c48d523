/- Parts of the proof of SequencesCut: merged and given short names by a program of ours. -/
import Derived.Laws.Strings
import Derived.Test.YtaggdjhhmbnhoaaDoorScC
set_option linter.unusedVariables false
set_option linter.unusedSimpArgs false
open Array renaming length_toList → aIZ
open Bool renaming false_eq_true → aHP, not_false → aI7, not_true → aIt
open Int renaming toNat_natCast → aHH, tmod_eq_emod_of_nonneg → aIa, tdiv_eq_ediv_of_nonneg → aId, fdiv_eq_ediv_of_nonneg → aJn
open List renaming mem_cons_of_mem → aH0, getElem_mem → aH1, getElem?_eq_none → aH3, length_cons → aH5, getElem?_map → aH9, take_succ_cons → aHG, getElem?_cons_zero → aHJ, getElem?_cons_succ → aHK, set_cons_zero → aHL, drop_zero → aHM, set_cons_succ → aHN, take_zero → aHO, getElem?_eq_getElem → aHQ, length_append → aHR, length_map → aHU, append_assoc → aHV, getElem?_append_left → aHW, getD_eq_getElem?_getD → aHX, length_take → aHZ, mem_append → aI2, length_singleton → aI3, length_replicate → aI4, sum_cons → aI6, map_congr_left → aI8, toList_toArray → aI9, getElem_range → aIC, ext_getElem → aIG, replicate_succ → aIH, length_pos_iff → aII, mem_cons_self → aIL, cons_append → aIP, drop_of_length_le → aIQ, count_append → aIR, getElem?_toArray → aIS, getElem?_drop → aIV, mem_singleton → aIW, mem_of_getElem? → aIX, length_drop → aIb, take_of_length_le → aIe, getElem_of_mem → aIf, drop_eq_getElem_cons → aIh, length_eq_zero_iff → aIk, getElem?_take_of_lt → aIl, getElem_map → aIm, getElem?_append_right → aIn, map_append → aIo, take_add_one → aIr, drop_succ_cons → aIs, nil_append → aIv, mem_range → aIw, mem_map → aIx, append_nil → aIy, mem_cons → aIz, mem_of_mem_drop → aJ0, count_le_length → aJ1, getElem_set_self → aJB, getElem_set → aJF, range_succ → aJH, exists_mem_of_ne_nil → aJJ, sum_append → aJK, map_replicate → aJO, drop_left → aJQ, getElem_cons_succ → aJS, getElem_replicate → aJT, takeWhile_sublist → aJV, map_drop → aJW, countP_cons → aJa, take_append_drop → aJb, count_cons → aJe, set_append_left → aJf, map_cons → aJh, take_length → aJi, getElem_cons_zero → aJj, map_set → aJl, length_range → aJp, getLast?_eq_getElem? → aJq, count_singleton → aJr, eq_of_mem_replicate → aJs, getElem?_replicate → aJt, map_take → aJu, length_set → aJv
open Nat renaming lt_or_ge → aH6, pow_succ → aH8, zero_add → aHI, le_refl → aHS, pow_le_pow_right → aHT, mod_lt → aI1, add_assoc → aI5, min_eq_left → aIA, add_zero → aIB, add_sub_cancel → aID, add_mul → aIJ, le_trans → aIM, eq_zero_or_pos → aIN, mul_comm → aIO, zero_le → aIT, testBit_eq_decide_div_mod_eq → aIY, mod_eq_of_lt → aIg, two_pow_pos → aIj, mul_le_mul_right → aIp, le_div_iff_mul_le → aJC, div_mul_le_self → aJG, div_le_self → aJI, succ_mul → aJM, sub_zero → aJN, div_lt_iff_lt_mul → aJc, lt_trichotomy → aJg
open Option renaming isNone_some → aH7, map_some → aIu
open Option.some renaming inj → aH2
open Prod.mk renaming inj → aJU
open UInt8 renaming toNat_lt → aIc
namespace Go.Proofs.YtaggdjhhmbnhoaaDoor
open Go Go.En Go.Pu
set_option maxRecDepth 4000
theorem aEQ (x : Nat) (hx : x < 4294967296) (w : aJ2) : aR pg sJ #[.int .u32 x] w (fun r w' => r = .int .i64 (bl x : Nat) /\ w' = w) := by
 refine Ui ?_
 unfold R0 Bz Cf
 have last : ∀ (y n : Nat), y < 256 -> n <= 64 -> n + bl y = bl x -> qU (fun r w' => r = .int .i64 (bl x : Nat) /\ w' = w) (.int .u32 y) (.int .i64 n) w := by
  intro y n hy hn e
  have hg := aoB y hy
  have hs := Pw
  have hb : bl y <= 8 := rE (n := 8) (by omega)
  unfold qU
  change aC pg _ w fun t21 w => aC pg (HM 9 (.string auJ) t21) w _
  simp (disch := omega) only [aC, G9, QN, aA, tQ, aHH, hg, nY, aT, bM, and_true]
  rw [<- e] <;> rfl
 have step8 : ∀ (y n : Nat), y < 65536 -> n <= 32 -> n + bl y = bl x -> vA (fun r w' => r = .int .i64 (bl x : Nat) /\ w' = w) (.int .u32 y) (.int .i64 n) w := by
  intro y n hy hn e
  unfold vA Cj
  by_cases h : 256 <= y
  .have d : decide ((256 : Int) <= (y : Int)) = true := by simp; omega
   have sh : ((y : Int)).fdiv (2 ^ (min 8 IntKind.u32.bits)) = ((y / 2 ^ 8 : Nat) : Int) := by
    rw [show min 8 IntKind.u32.bits = 8 from rfl, <- TU]; simp
   have hq : y / 2 ^ 8 < 256 := by omega
   have := Ua (x := y) (j := 8) (by omega)
   have e2 : (n : Int) + 8 = ((n + 8 : Nat) : Int) := by omega
   simp (disch := omega) only [aC, pG, d, xL, bM, e2, aT, aA, aF]
   rw [show (8 : Int).toNat = 8 from rfl, sh]
   exact last _ _ hq (by omega) (by rw [<- e, this]; omega)
  .have d : decide ((256 : Int) <= (y : Int)) = false := by simp; omega
   simp (disch := omega) only [aC, pG, d, xL, bM, aT, aA, aE]
   exact last _ _ (by omega) (by omega) e
 by_cases h : 65536 <= x
 .have d : decide ((65536 : Int) <= (x : Int)) = true := by simp; omega
  have sh : ((x : Int)).fdiv (2 ^ (min 16 IntKind.u32.bits)) = ((x / 2 ^ 16 : Nat) : Int) := by
   rw [show min 16 IntKind.u32.bits = 16 from rfl, <- TU]; simp
  have hq : x / 2 ^ 16 < 65536 := by omega
  have := Ua (x := x) (j := 16) (by omega)
  simp (disch := omega) only [aC, pG, d, xL, aA, aF]
  rw [show (16 : Int).toNat = 16 from rfl, sh]
  exact step8 _ 16 hq (by omega) (by rw [this]; omega)
 .have d : decide ((65536 : Int) <= (x : Int)) = false := by simp; omega
  simp (disch := omega) only [aC, pG, d, xL, aA, aE]
  exact step8 _ 0 (by omega) (by omega) (by omega)
theorem arN {k : Nat} (h : k = 0 ∨ k = 2) : avW (k : Int) = Ai k /\ aGc (k : Int) = Aw k /\ (aqD (k : Int)).length = lC k - Ai k := by
 rcases h with rfl | rfl <;> exact ⟨rfl, rfl, rfl⟩
theorem ayF {k : Nat} (h : k = 0 ∨ k = 2) {i : Nat} (hi : Ai k + i < lC k) : (aqD (k : Int))[i]? = some (((kQ k).getD (Ai k + i) 0 : Nat) : Int) := by
 have h0 : ∀ i, i < 53 -> Ai 0 + i < lC 0 -> (aqD ((0 : Nat) : Int))[i]? = some (((kQ 0).getD (Ai 0 + i) 0 : Nat) : Int) := by decide +kernel
 have h2 : ∀ i, i < 53 -> Ai 2 + i < lC 2 -> (aqD ((2 : Nat) : Int))[i]? = some (((kQ 2).getD (Ai 2 + i) 0 : Nat) : Int) := by decide +kernel
 have := (XE h).2
 rcases h with rfl | rfl
 .exact h0 i (by omega) hi
 .exact h2 i (by omega) hi
theorem axS {k : Nat} (h : k < 3) : mW (k : Int) = ((lC k : Nat) : Int) - 1 := by
 rcases (show k = 0 ∨ k = 1 ∨ k = 2 by omega) with rfl | rfl | rfl <;> rfl
theorem alX {n : Nat} (hn : n <= 31) : IntKind.u32.wrap (1 * 2 ^ (min n IntKind.u32.bits)) = ((2 ^ n : Nat) : Int) := by
 have hb : min n IntKind.u32.bits = n := aIA (by have : IntKind.u32.bits = 32 := rfl
                                                 omega)
 have hp : 2 ^ n <= 2 ^ 31 := aHT (by omega) hn
 rw [hb, Int.one_mul]
 have e : (2 : Int) ^ n = ((2 ^ n : Nat) : Int) := by simp
 rw [e]
 generalize 2 ^ n = y at *
 rw [show IntKind.u32.wrap (y : Int) = (y : Int) % 4294967296 from rfl]
 omega
theorem aEo {k c : Nat} {w : aJ2} (hg : tR w) (hk : k < 3) (hc : c < lC k) :
 aR pg Di #[.int .i64 k, .int .i64 c] w (fun r w' => r = .tuple #[.int .u32 ((rO k).getD c 0 : Nat), .int .i64 ((kQ k).getD c 0 : Nat), .int .i64 0] /\ aS w w' cM) := by
 refine alC ?_
 have hl53 : lC k <= 53 := by rcases (show k = 0 ∨ k = 1 ∨ k = 2 by omega) with rfl | rfl | rfl <;> decide
 unfold amW NY NM
 simp (disch := omega) only [aC, aX, cR, mN, aHH, aA, wP, Z2, bN]
 refine (atU hg).mono ?_
 rintro r w1 ⟨rfl, x1⟩
 rw [axS hk]
 have d1 : decide (((lC k : Nat) : Int) - 1 < 0) = false := by simp; omega
 have d2 : decide ((c : Int) < 0) = false := by simp
 have d3 : decide (((lC k : Nat) : Int) - 1 < (c : Int)) = false := by simp; omega
 by_cases h1 : k = 1
 .subst h1
  have n1 : (((1 : Nat) : Int) == 1) = true := rfl
  have hc32 : c < 32 := hc
  have hs := alX (n := c) (by omega)
  have ho := aEU hc32
  rw [ho.1, ho.2]
  simp (disch := omega) only [aX, d1, d2, dB, aHP, if_false, n1, hs, true_and, aF, bP, dM, d3, aA, aE]
  first | exact x1 | exact ⟨rfl, x1⟩
 have n1 : ((k : Int) == 1) = false := beq_eq_false_iff_ne.2 (by omega)
 have h02 : k = 0 ∨ k = 2 := by omega
 simp (disch := omega) only [aX, d1, d2, dB, aHP, if_false, n1, aE, bP, dM, d3, aA]
 refine (aEf (hg.ext x1)).mono ?_
 rintro r w2 ⟨mv, rfl, hs, x2⟩
 obtain ⟨rp, ra, rl⟩ := arN h02
 rw [rp, ra]
 have hpl := XE h02
 have hlow : Aw k <= 3 := by unfold Aw; split <;> omega
 have x12 := x1.seq x2
 by_cases hcp : c < Ai k
 .have d4 : decide ((c : Int) < ((Ai k : Nat) : Int)) = true := by simp; omega
  have hp := atN h02 hcp
  have e1 : IntKind.u32.wrap (c : Int) = c := by rw [show IntKind.u32.wrap (c : Int) = (c : Int) % 4294967296 from rfl]; omega
  have e2 : IntKind.u32.wrap (((Aw k : Nat) : Int) + (c : Int)) = ((Aw k + c : Nat) : Int) := by rw [show IntKind.u32.wrap (((Aw k : Nat) : Int) + (c : Int)) = (((Aw k : Nat) : Int) + (c : Int)) % 4294967296 from rfl]; omega
  rw [hp.1, hp.2]
  simp (disch := omega) only [RQ, Sd, RN, aA, bM, e2, aX, d4, wP, Z2, aF]
  first | exact x12 | exact ⟨rfl, x12⟩
 .have d4 : decide ((c : Int) < ((Ai k : Nat) : Int)) = false := by simp; omega
  obtain ⟨j, hj⟩ : ∃ j, c = Ai k + j := ⟨c - Ai k, by omega⟩
  have e1 : IntKind.u32.wrap ((Ai k : Nat) : Int) = ((Ai k : Nat) : Int) := by rw [show IntKind.u32.wrap ((Ai k : Nat) : Int) = ((Ai k : Nat) : Int) % 4294967296 from rfl]; omega
  have e2 : IntKind.u32.wrap (((Aw k : Nat) : Int) + ((Ai k : Nat) : Int)) = ((eS k 0 : Nat) : Int) := by
   rw [eS, aFL h02, show IntKind.u32.wrap (((Aw k : Nat) : Int) + ((Ai k : Nat) : Int)) = (((Aw k : Nat) : Int) + ((Ai k : Nat) : Int)) % 4294967296 from rfl]; omega
  have e3 : (c : Int) - ((Ai k : Nat) : Int) = (j : Int) := by omega
  simp (disch := omega) only [RQ, Sd, RN, aA, bM, Z2, aX, d4, wP, e1, e2, aE]
  unfold NA M5 NI
  obtain ⟨av, cv, rfl, hcv⟩ := hs.lenI
  have hs0 := hs
  obtain ⟨b, off, c', hv, hcc, hcell⟩ := hs.openI (by omega)
  cases hv
  have hget : ∀ i, Ai k + i < lC k -> w2.cell? ⟨b, off + i, none⟩ = some (.int .i64 ((kQ k).getD (Ai k + i) 0 : Nat)) := by
   intro i hi
   have h1 := hcell i (by omega)
   have h2 := ayF h02 hi
   rw [aHQ (by omega)] at h2
   rw [h1, aH2 h2]
  have hsh : iH (some ⟨b, off, none⟩) cv 0 1 = some ⟨b, off, none⟩ := by unfold iH; split <;> simp [Addr.add]
  simp (disch := omega) only [aC, eA, e3, aT, rl, aA, QZ, hsh, aHH, aJN, eB]
  unfold MS MF
  refine cG.rule (fun m (t : aJ3 × aJ3) w' => ∃ i : Nat, m = j - i /\ i <= j /\ t = (.int .u32 (eS k i : Nat), .int .i64 i) /\ w' = w2) j ⟨0, rfl, by omega, rfl, rfl⟩ ?_
  rintro m t w3 ⟨i, rfl, hi, rfl, hw⟩
  rw [hw]; clear hw w3
  unfold Gb
  by_cases hlt : i < j
  .have d5 : decide ((i : Int) < (j : Int)) = true := by simp; omega
   have g1 := hget i (by omega)
   have ha := aFo h02 (c := Ai k + i) (by omega)
   have hsl := alX (n := (kQ k).getD (Ai k + i) 0) (by omega)
   have hle := aGJ h02 (i := i + 1) (by omega)
   have hes : eS k (i + 1) = eS k i + 2 ^ ((kQ k).getD (Ai k + i) 0) := rfl
   have e5 : IntKind.u32.wrap (((eS k i : Nat) : Int) + ((2 ^ ((kQ k).getD (Ai k + i) 0) : Nat) : Int)) = ((eS k (i + 1) : Nat) : Int) := by
    rw [show IntKind.u32.wrap (((eS k i : Nat) : Int) + ((2 ^ ((kQ k).getD (Ai k + i) 0) : Nat) : Int)) = (((eS k i : Nat) : Int) + ((2 ^ ((kQ k).getD (Ai k + i) 0) : Nat) : Int)) % 4294967296 from rfl]
    omega
   generalize (kQ k).getD (Ai k + i) 0 = nn at *
   simp (disch := omega) only [aC, aX, d5, dJ, aHH, bM, aT, aA, cA, g1, aI, mN, hsl, e5, and_true, aF]
   exact ⟨j - (i + 1), by omega, i + 1, rfl, by omega, rfl⟩
  .have d5 : decide ((i : Int) < (j : Int)) = false := by simp; omega
   obtain rfl : i = j := by omega
   have g1 := hget i (by omega)
   have g2 : (dr w2).cell? ⟨b, off + i, none⟩ = some (.int .i64 ((kQ k).getD (Ai k + i) 0 : Nat)) := g1
   simp (disch := omega) only [aC, aX, d5, bM, aT, aA, aE]
   unfold FW
   have hat := arL hk i (by omega)
   rw [<- hj] at hat g2
   simp (disch := omega) only [aC, eA, e3, aT, true_and, aA, dJ, aHH, cA, g2, aI]
   exact ⟨by rw [hat], x12.seq (aS.dr _ _)⟩
def OfR (k v : Nat) (r : aJ3) : Prop :=
 (∃ c, uK k v c /\ r = .tuple #[.int .i64 c, .int .u32 (v - (rO k).getD c 0 : Nat), .int .i64 0]) ∨ ((∀ c, ¬ uK k v c) /\ r = .tuple #[.int .i64 0, .int .u32 0, .int .i64 17])
theorem w32 {x : Int} (h0 : 0 <= x) (h1 : x < 4294967296) : IntKind.u32.wrap x = x := by
 rw [show IntKind.u32.wrap x = x % 4294967296 from rfl]; omega
theorem aHi {k v : Nat} {w : aJ2} (hg : tR w) (hk : k < 3) (hv : v < 4294967296) :
 aR pg QS #[.int .i64 k, .int .u32 v] w (fun r w' => OfR k v r /\ aS w w' cM) := by
 refine aqE ?_
 obtain ⟨RR, hRR⟩ : ∃ RR : aJ3 -> aJ2 -> Prop, RR = fun r w' => OfR k v r /\ aS w w' cM := ⟨_, rfl⟩
 rw [<- hRR]
 have hl53 : lC k <= 53 := by rcases (show k = 0 ∨ k = 1 ∨ k = 2 by omega) with rfl | rfl | rfl <;> decide
 have hl1 : 1 <= lC k := by rcases (show k = 0 ∨ k = 1 ∨ k = 2 by omega) with rfl | rfl | rfl <;> decide
 unfold axK Tf TW
 refine (aEf hg).mono ?_
 rintro r w1 ⟨mv, rfl, hs, x1⟩
 simp (disch := omega) only [aC, RQ, Sd, RN, cR, true_and, aA, bN, aX, eA, Nw, wP]
 refine (atU (hg.ext x1)).mono ?_
 rintro r w2 ⟨rfl, x2⟩
 have x12 := x1.seq x2
 have hs := hs.ext x2 (cB _)
 rw [axS hk]
 have d1 : decide (((lC k : Nat) : Int) - 1 < 0) = false := by simp; omega
 by_cases h1 : k = 1
 .subst h1
  have n1 : (((1 : Nat) : Int) == 1) = true := rfl
  by_cases hv0 : v = 0
  .subst hv0
   have n2 : (((0 : Nat) : Int) == 0) = true := rfl
   simp (disch := omega) only [aX, d1, n1, sX, if_true, aF, bP, cR, n2, aA, aE]
   rw [hRR]
   exact ⟨.inr ⟨awI, rfl⟩, x12⟩
  .have n2 : ((v : Int) == 0) = false := beq_eq_false_iff_ne.2 (by omega)
   simp (disch := omega) only [aX, d1, n1, sX, if_true, aF, bP, cR, n2, aA, aE]
   refine (aEQ v hv w2).mono ?_
   rintro r w3 ⟨rfl, hw⟩
   rw [hw]; clear hw w3
   have hc := axA (by omega) hv
   have hb1 := Hx (k := v) hv0
   have hb4 : bl v <= 32 := rE (n := 32) hv
   have hbl := Tx (k := v) hv0
   obtain ⟨j, hj⟩ : ∃ j, j = bl v - 1 := ⟨_, rfl⟩
   rw [<- hj] at hc hbl
   have e1 : ((bl v : Nat) : Int) - 1 = (j : Int) := by omega
   have hsl := alX (n := j) (by omega)
   have ho := aEU (c := j) (by omega)
   have e2 : IntKind.u32.wrap ((v : Int) - ((2 ^ j : Nat) : Int)) = ((v - (rO 1).getD j 0 : Nat) : Int) := by
    rw [ho.1]
    generalize 2 ^ j = y at *
    rw [w32 (by omega) (by omega)]; omega
   simp (disch := omega) only [eA, e1, aT, aA, mN, aHH, hsl, e2, true_and]
   rw [hRR]
   exact ⟨.inl ⟨j, hc, rfl⟩, x12.seq (aS.dr _ _)⟩
 have n1 : ((k : Int) == 1) = false := beq_eq_false_iff_ne.2 (by omega)
 have h02 : k = 0 ∨ k = 2 := by omega
 obtain ⟨rp, ra, rl⟩ := arN h02
 rw [rp, ra]
 have hpl := XE h02
 have hlow : Aw k <= 3 := by unfold Aw; split <;> omega
 have htop := aFL h02
 by_cases hvl : v < Aw k
 .have d2 : decide ((v : Int) < ((Aw k : Nat) : Int)) = true := by simp; omega
  simp (disch := omega) only [aX, d1, n1, Fm, aHP, if_false, d2, Z2, aF, aE, dV, aA]
  rw [hRR]
  exact ⟨.inr ⟨azT h02 hvl, rfl⟩, x12⟩
 have d2 : decide ((v : Int) < ((Aw k : Nat) : Int)) = false := by simp; omega
 have e1 : IntKind.u32.wrap ((v : Int) - ((Aw k : Nat) : Int)) = ((v - Aw k : Nat) : Int) := by rw [w32 (by omega) (by omega)]; omega
 have e2 : IntKind.u32.wrap ((Ai k : Nat) : Int) = ((Ai k : Nat) : Int) := w32 (by omega) (by omega)
 by_cases hvp : v - Aw k < Ai k
 .have d3 : decide (((v - Aw k : Nat) : Int) < ((Ai k : Nat) : Int)) = true := by simp; omega
  have hc := apY h02 (by omega) hvp
  have hp := atN h02 hvp
  simp (disch := omega) only [aX, d1, n1, Fm, aHP, if_false, d2, e1, e2, d3, aT, aF, aE, dV, aA]
  rw [hRR]
  refine ⟨.inl ⟨_, hc, ?_⟩, x12⟩
  rw [hp.1, show v - (Aw k + (v - Aw k)) = 0 by omega]
  rfl
 have d3 : decide (((v - Aw k : Nat) : Int) < ((Ai k : Nat) : Int)) = false := by simp; omega
 have e3 : IntKind.u32.wrap (((v - Aw k : Nat) : Int) - ((Ai k : Nat) : Int)) = ((v - eS k 0 : Nat) : Int) := by
  rw [eS, htop, w32 (by omega) (by omega)]; omega
 have hv0 : eS k 0 <= v := by rw [eS, htop]; omega
 simp (disch := omega) only [aX, d1, n1, Fm, aHP, if_false, d2, e1, e2, d3, aT, e3, aE, dV, aA]
 unfold Uk Tg Uo
 obtain ⟨av, cv, rfl, hcv⟩ := hs.lenI
 obtain ⟨b, off, c', hv', hcc, hcell⟩ := hs.openI (by omega)
 cases hv'
 have hget : ∀ i, Ai k + i < lC k -> w2.cell? ⟨b, off + i, none⟩ = some (.int .i64 ((kQ k).getD (Ai k + i) 0 : Nat)) := by
  intro i hi
  have h1 := hcell i (by omega)
  have h2 := ayF h02 hi
  rw [aHQ (by omega)] at h2
  rw [h1, aH2 h2]
 simp (disch := omega) only [aC, rl, eB, aA]
 unfold TN UM
 obtain ⟨n, hn⟩ : ∃ n, n = lC k - Ai k := ⟨_, rfl⟩
 rw [<- hn]
 refine cG.rule (fun m (t : aJ3 × aJ3) w' => ∃ i : Nat, m = n - i /\ i <= n /\ t = (.int .u32 (v - eS k i : Nat), .int .i64 i) /\ eS k i <= v /\ w' = w2) n ⟨0, rfl, by omega, rfl, hv0, rfl⟩ ?_
 rintro m t w3 ⟨i, rfl, hi, rfl, hle, hw⟩
 rw [hw]; clear hw w3
 unfold Mf
 by_cases hlt : i < n
 .have d5 : decide ((i : Int) < (n : Int)) = true := by simp; omega
  have g1 := hget i (by omega)
  have ha := aFo h02 (c := Ai k + i) (by omega)
  have hsl := alX (n := (kQ k).getD (Ai k + i) 0) (by omega)
  have hes : eS k (i + 1) = eS k i + 2 ^ ((kQ k).getD (Ai k + i) 0) := rfl
  have hmore := arG (v := v) h02 (i := i) (by omega) hle
  have hat := arL hk i (by omega)
  generalize (kQ k).getD (Ai k + i) 0 = nn at *
  generalize 2 ^ nn = pp at *
  by_cases hin : v < eS k i + pp
  .have d6 : decide (((v - eS k i : Nat) : Int) < (pp : Int)) = true := by simp; omega
   have e6 : ((Ai k : Nat) : Int) + (i : Int) = ((Ai k + i : Nat) : Int) := by omega
   simp (disch := omega) only [aC, aX, d5, dJ, aHH, bM, e6, aT, aA, cA, g1, aI, mN, hsl, eA, d6, and_true, aF]
   rw [hRR]
   exact ⟨.inl ⟨_, hmore hin, by rw [<- hat]⟩, x12⟩
  .have d6 : decide (((v - eS k i : Nat) : Int) < (pp : Int)) = false := by simp; omega
   have e6 : IntKind.u32.wrap (((v - eS k i : Nat) : Int) - (pp : Int)) = ((v - eS k (i + 1) : Nat) : Int) := by
    rw [w32 (by omega) (by omega)]; omega
   simp (disch := omega) only [aC, aX, d5, dJ, aHH, bM, aT, aA, cA, g1, aI, mN, hsl, eA, e6, d6, and_true, aE, aF]
   exact ⟨n - (i + 1), by omega, i + 1, rfl, by omega, rfl, by omega⟩
 .have d5 : decide ((i : Int) < (n : Int)) = false := by simp; omega
  obtain rfl : i = n := by omega
  simp (disch := omega) only [aC, aX, d5, bM, aT, aA, aE]
  unfold Mx
  rw [hRR]
  exact ⟨.inr ⟨awA h02 (hn ▸ hle), rfl⟩, x12⟩
def Za (a : Int) : Nat := if a = 1 then 5 else if a = 0 ∨ a = 2 then 6 else 0
def gvP (a : Int) : List Int := if a = 0 then zTL else if a = 1 then zTO else if a = 2 then zTM else []
theorem aoL {a : Int} (h : a = 0 ∨ a = 1 ∨ a = 2) : Sk (Za a) (gvP a) := by
 rcases h with rfl | rfl | rfl
 .exact ⟨by decide, by decide, by decide, by decide, by decide, by decide, by decide +kernel⟩
 .exact ⟨by decide, by decide, by decide, by decide, by decide, by decide, by decide +kernel⟩
 .exact ⟨by decide, by decide, by decide, by decide, by decide, by decide, by decide +kernel⟩
theorem aAL {a : Int} {w : aJ2} (hg : tR w) :
 aR pg yN #[.int .i64 a] w (fun r w' => ∃ v, r = .agg #[.int .i64 (Za a : Nat), v] /\ Sl w' v ((gvP a).map (Value.int .i64)) /\ aS w w' cM) := by
 refine ZG ?_
 unfold ZK Ho
 refine iT fun w1 o1 x1 s1 => ?_
 have hg1 := hg.ext x1
 have z1 := o1.lt
 by_cases h0 : a = 0
 .subst h0
  have n1 : ((0 : Int) == 0) = true := rfl
  have l1 := atF (b := 0) (off := 0) (l := zTL.map (Value.int .i64)) rfl hg1.tl.ld
  simp (disch := omega) only [aC, cR, n1, dY, aA, l1, aF]
  refine avK fun w2 o2 x2 s2 => ?_
  refine atP o2 rfl (T8 _) (by simp) fun w3 o3 x3 s3 => ?_
  have o3 : cJ w3 w1.heap.size (zTL.map (Value.int .i64)) := by
   rw [aI9, Ln zTL 36 rfl] at o3
   .exact o3
   .rfl
  have hsh : uX ⟨w1.heap.size, 0, none⟩ 36 0 1 = ⟨w1.heap.size, 0, none⟩ := EB (by decide)
  have x13 : aS w1 w3 cM := x2.new x3 (by omega)
  simp (disch := omega) only [GR, hsh, aA, mH]
  refine fB (o1.ext x13 (fun h => h)) rfl (by simp [one]) (by simp) fun w4 o4 x4 s4 => ?_
  refine lI o4 (by simp [aV]) ?_
  simp only [aV, aHL, aHN, aHM, aHG, aHO]
  exact ⟨_, rfl, Tt (o3.ext x4 (by omega)) rfl, (x1.seq x13).new x4 (by omega)⟩
 have n1 : (a == 0) = false := beq_eq_false_iff_ne.2 h0
 by_cases h1 : a = 1
 .subst h1
  have n2 : ((1 : Int) == 1) = true := rfl
  have l1 := asT (b := 1) (off := 0) (l := zTO.map (Value.int .i64)) rfl hg1.to.ld
  simp (disch := omega) only [aC, cR, n1, n2, dY, aA, aF, l1, aE]
  refine avB fun w2 o2 x2 s2 => ?_
  refine atX o2 rfl (T8 _) (by simp) fun w3 o3 x3 s3 => ?_
  have o3 : cJ w3 w1.heap.size (zTO.map (Value.int .i64)) := by
   rw [aI9, Ln zTO 29 rfl] at o3
   .exact o3
   .rfl
  have hsh : uX ⟨w1.heap.size, 0, none⟩ 29 0 1 = ⟨w1.heap.size, 0, none⟩ := EB (by decide)
  have x13 : aS w1 w3 cM := x2.new x3 (by omega)
  simp (disch := omega) only [It, hsh, aA, mH]
  refine fB (o1.ext x13 (fun h => h)) rfl (by simp [one]) (by simp) fun w4 o4 x4 s4 => ?_
  refine lI o4 (by simp [aV]) ?_
  simp only [aV, aHL, aHN, aHM, aHG, aHO]
  exact ⟨_, rfl, Tt (o3.ext x4 (by omega)) rfl, (x1.seq x13).new x4 (by omega)⟩
 have n2 : (a == 1) = false := beq_eq_false_iff_ne.2 h1
 by_cases h2 : a = 2
 .subst h2
  have n3 : ((2 : Int) == 2) = true := rfl
  have l1 := atJ (b := 2) (off := 0) (l := zTM.map (Value.int .i64)) rfl hg1.tm.ld
  simp (disch := omega) only [aC, cR, n1, n2, n3, dY, aA, aF, aE, l1]
  refine awW fun w2 o2 x2 s2 => ?_
  refine asX o2 rfl (T8 _) (by simp) fun w3 o3 x3 s3 => ?_
  have o3 : cJ w3 w1.heap.size (zTM.map (Value.int .i64)) := by
   rw [aI9, Ln zTM 53 rfl] at o3
   .exact o3
   .rfl
  have hsh : uX ⟨w1.heap.size, 0, none⟩ 53 0 1 = ⟨w1.heap.size, 0, none⟩ := EB (by decide)
  have x13 : aS w1 w3 cM := x2.new x3 (by omega)
  simp (disch := omega) only [Ir, hsh, aA, mH]
  refine fB (o1.ext x13 (fun h => h)) rfl (by simp [one]) (by simp) fun w4 o4 x4 s4 => ?_
  refine lI o4 (by simp [aV]) ?_
  simp only [aV, aHL, aHN, aHM, aHG, aHO]
  exact ⟨_, rfl, Tt (o3.ext x4 (by omega)) rfl, (x1.seq x13).new x4 (by omega)⟩
 have n3 : (a == 2) = false := beq_eq_false_iff_ne.2 h2
 simp (disch := omega) only [aC, cR, n1, n2, n3, dY, aA, aE]
 refine fB o1 rfl (by simp [one]) (by simp) fun w4 o4 x4 s4 => ?_
 refine lI o4 (by simp [aV]) ?_
 simp only [aV, aHL, aHN, aHM, aHG, aHO]
 unfold Za gvP
 rw [if_neg h1, if_neg (by omega), if_neg h0, if_neg h1, if_neg h2]
 exact ⟨_, rfl, Sl.nil _, x1.new x4 (by omega)⟩
def OX (w : aJ2) (base : Nat) (o : Except Int (Nat × List T3)) (t : aJ3) (e : Int) : Prop := match o with
 | .error e' => t = .agg #[.int .i64 0, .slice none 0 0] /\ e = e'
 | .ok (lg, L) => (∃ b, Tbl w base b lg L t) /\ e = 0
def wE (a : Int) : Except Int (Nat × List T3) := if a = 0 ∨ a = 1 ∨ a = 2 then .ok (Za a, kD (Za a) (gvP a)) else .error 1
theorem OX.form {w : aJ2} {base : Nat} {o : Except Int (Nat × List T3)} {t : aJ3} {e : Int} (h : OX w base o t e) : ∃ (x : Int) (a : Option Addr) (n c : Nat), t = .agg #[.int .i64 x, .slice a n c] := by
 unfold OX at h
 split at h
 .exact ⟨_, _, _, _, h.1⟩
 .obtain ⟨⟨b, h, _⟩, _⟩ := h
  exact ⟨_, _, _, _, h⟩
theorem OX.ext {w w' : aJ2} {base : Nat} {o : Except Int (Nat × List T3)} {t : aJ3} {e : Int} {M : Nat -> Prop} (h : OX w base o t e) (x : aS w w' M) (hM : ∀ b, base <= b -> b < w.heap.size -> ¬ M b) : OX w' base o t e := by
 unfold OX at *
 split at h
 .exact h
 .obtain ⟨⟨b, ht⟩, he⟩ := h
  have hb := ht.2.1
  have hl := ht.2.2.lt
  exact ⟨⟨b, ht.ext x (hM b hb hl)⟩, he⟩
theorem OX.lower {w : aJ2} {base base' : Nat} {o : Except Int (Nat × List T3)} {t : aJ3} {e : Int} (h : OX w base o t e) (hb : base' <= base) : OX w base' o t e := by
 unfold OX at *
 split at h
 .exact h
 .obtain ⟨⟨b, h1, h2, h3⟩, he⟩ := h
  exact ⟨⟨b, h1, by omega, h3⟩, he⟩
theorem aBr {a : Int} {w : aJ2} (hg : tR w) :
 aR pg Ad #[.int .i64 a] w (fun r w' => ∃ t e, r = .tuple #[t, .int .i64 e] /\ OX w' w.heap.size (wE a) t e /\ aS w w' cM) := by
 refine VK ?_
 unfold Ud Da
 refine iP fun w1 o1 x1 s1 => ?_
 have z1 := o1.lt
 refine (aAL (hg.ext x1)).mono ?_
 rintro r w2 ⟨v, rfl, hs, x2⟩
 unfold wE
 have z2 := x2.size
 by_cases hk : a = 0 ∨ a = 1 ∨ a = 2
 .rw [if_pos hk]
  refine (alW (aoL hk) hs).mono ?_
  rintro r w3 ⟨b, t, rfl, ⟨rfl, hb, ob⟩, x3⟩
  have z3 := x3.size
  simp (disch := omega) only [aC, B9, B7, aA]
  have lb := ob.lt
  refine eJ ((o1.ext x2 (fun h => h)).ext x3 (fun h => h)) rfl (by simp [one]) (by simp) fun w4 o4 x4 s4 => ?_
  refine qE o4 (by simp [aV]) ?_
  simp only [aV, aHL, aHN, aHM, aHG, aHO]
  exact ⟨_, _, rfl, ⟨⟨b, rfl, by omega, ob.ext x4 (by omega)⟩, rfl⟩, ((x1.seq x2).seq x3).new x4 (by omega)⟩
 .rw [if_neg hk]
  have e1 : Za a = 0 := by unfold Za; rw [if_neg (by omega), if_neg (by omega)]
  have e2 : gvP a = [] := by unfold gvP; rw [if_neg (by omega), if_neg (by omega), if_neg (by omega)]
  rw [e1]
  rw [e2] at hs
  refine (aBq (log := 0) (ps := []) (by decide) hs (by simp)).mono ?_
  rintro r w3 ⟨rfl, x3⟩
  simp (disch := omega) only [aC, B9, B7, aA]
  refine eJ ((o1.ext x2 (fun h => h)).ext x3 (fun h => h)) rfl (by simp [one]) (by simp) fun w4 o4 x4 s4 => ?_
  refine qE o4 (by simp [aV]) ?_
  simp only [aV, aHL, aHN, aHM, aHG, aHO]
  exact ⟨_, _, rfl, ⟨rfl, rfl⟩, ((x1.seq x2).seq x3).new x4 (by omega)⟩
def Dg (a : Int) : Int := if a = 0 ∨ a = 2 then 9 else if a = 1 then 8 else 0
theorem auA (a : Int) (w : aJ2) : aR pg sW #[.int .i64 a] w (fun r w' => r = .int .i64 (Dg a) /\ w' = w) := by
 refine agX ?_
 unfold ahY Hc LX Lh Lr Kp J6 TY Lb
 unfold Dg
 by_cases h0 : a = 0
 .subst h0
  have n1 : ((0 : Int) == 0) = true := rfl
  unfold rD
  simp (disch := omega) only [aC, cR, n1, aA, and_true, aF]
  rfl
 have n1 : (a == 0) = false := beq_eq_false_iff_ne.2 h0
 by_cases h2 : a = 2
 .subst h2
  have n2 : ((2 : Int) == 2) = true := rfl
  unfold rD
  simp (disch := omega) only [aC, cR, n1, aA, n2, aF, and_true, aE]
  rfl
 have n2 : (a == 2) = false := beq_eq_false_iff_ne.2 h2
 rw [if_neg (by omega)]
 by_cases h1 : a = 1
 .subst h1
  have n3 : ((1 : Int) == 1) = true := rfl
  unfold rD
  simp (disch := omega) only [aC, cR, n1, if_true, n3, true_and, aA, aF, n2, aE, and_true]
 have n3 : (a == 1) = false := beq_eq_false_iff_ne.2 h1
 rw [if_neg h1]
 unfold rD DT
 simp (disch := omega) only [aC, cR, n1, n3, true_and, aA, aE, n2, and_true]
end Go.Proofs.YtaggdjhhmbnhoaaDoor
namespace Go.Proofs.YtaggdjhhmbnhoaaDoor
open Go Go.En Go.Pu
theorem aE8 : ((⟨#[]⟩ : ByteArray).toList == (⟨#[]⟩ : ByteArray).toList) = true := by simp
theorem ayW {x : ByteArray} (h : 0 < x.size) : (x.toList == (⟨#[]⟩ : ByteArray).toList) = false := by
 rw [ByteArray.toList_eq, ByteArray.toList_eq]
 have hl := kK x
 unfold lL at hl
 cases hx : x.data.toList with
 | nil => rw [hx] at hl; simp at hl; omega
 | cons a l => rfl
end Go.Proofs.YtaggdjhhmbnhoaaDoor
namespace Go.Pu
open Go Go.En
def jB (L : List Bool) (st n : Nat) : Nat := tD ((L.drop st).take n)
theorem CV (L : List Bool) (st n : Nat) : jB L st n < 2 ^ n := by
 have h := ZN ((L.drop st).take n)
 have : ((L.drop st).take n).length <= n := by rw [aHZ]; omega
 exact Nat.lt_of_lt_of_le h (aHT (by omega) this)
theorem asA (A : List Bool) (x n : Nat) (C : List Bool) (h : x < 2 ^ n) : jB (A ++ (gD x n ++ C)) A.length n = x := by
 unfold jB
 rw [aJQ, List.take_left' (dH x n), awV h]
def VB (L : List Bool) (st left : Nat) : Option (Nat × Nat) :=
 let n := bl (left + 1)
 if L.length < st + (n - 1) then none
 else
  let low := jB L st (n - 1)
  let free := 2 ^ n - 2 - left
  if low < free then some (low, st + (n - 1))
  else if L.length < st + (n - 1) + 1 then none
  else if jB L (st + (n - 1)) 1 = 0 then some (low, st + (n - 1) + 1)
  else some (low + 2 ^ (n - 1) - free, st + (n - 1) + 1)
def noR (L : List Bool) : Nat -> Nat -> Option (Nat × Nat)
 | 0, _ => none
 | f + 1, st => if L.length < st + 2 then none else if jB L st 2 < 3 then some (jB L st 2, st + 2) else match noR L f (st + 2) with
   | none => none
   | some (k, st') => some (3 + k, st')
def U7 (L : List Bool) (sym : Nat) : Nat -> Nat -> Nat -> List Int -> Except Int (List Int × Nat)
 | 0, _, _, _ => .error 10
 | f + 1, st, left, ps => if left = 0 then .ok (ps, st) else match VB L st left with
   | none => .error 10
   | some (v, st1) =>
     if v = 1 then match noR L (L.length + 1) st1 with
       | none => .error 10
       | some (k, st2) => if sym < ps.length + 1 + k then .error 11 else U7 L sym f st2 left (ps ++ 0 :: List.replicate k 0)
     else if sym < ps.length + 1 then .error 11 else U7 L sym f st1 (left - (cW ((v : Int) - 1)).toNat) (ps ++ [(v : Int) - 1])
theorem U1 {L : List Bool} {st left v st1 : Nat} (h : VB L st left = some (v, st1)) (h0 : 0 < left) : st < st1 /\ st1 <= L.length /\ v <= left + 1 := by
 have hb1 := Hx (k := left + 1) (by omega)
 have hb2 := Tx (k := left + 1) (by omega)
 have hb3 := V0 (left + 1)
 have hn : 2 <= bl (left + 1) := by
  rcases aH6 (bl (left + 1)) 2 with h | h
  .have : bl (left + 1) = 1 := by omega
   rw [this] at hb3; omega
  .exact h
 unfold VB at h
 simp only at h
 generalize bl (left + 1) = n at *
 obtain ⟨m, rfl⟩ : ∃ m, n = m + 1 := ⟨n - 1, by omega⟩
 rw [aID] at *
 rw [aH8] at *
 have hl := CV L st m
 generalize 2 ^ m = q at *
 generalize jB L st m = low at *
 split at h
 .cases h
 .split at h
  .obtain ⟨rfl, rfl⟩ := aJU (aH2 h); omega
  .split at h
   .cases h
   .split at h
    .obtain ⟨rfl, rfl⟩ := aJU (aH2 h); omega
    .obtain ⟨rfl, rfl⟩ := aJU (aH2 h); omega
theorem anC {L : List Bool} : ∀ {f st k st1 : Nat}, noR L f st = some (k, st1) -> st < st1 /\ st1 <= L.length /\ 2 * k <= 3 * (st1 - st)
 | 0, st, k, st1, h => by cases h
 | f + 1, st, k, st1, h => by
   rw [noR] at h
   split at h
   .cases h
   .have hl := CV L st 2
    split at h
    .obtain ⟨rfl, rfl⟩ := aJU (aH2 h); omega
    .cases hn : noR L f (st + 2) with
     | none => rw [hn] at h; cases h
     | some x =>
       obtain ⟨k', st'⟩ := x
       rw [hn] at h
       obtain ⟨rfl, rfl⟩ := aJU (aH2 h)
       have := anC hn
       omega
def wF (L : List Bool) (most : Int) (sym : Nat) : Except Int (Nat × List Int × Nat) :=
 if L.length < 4 then .error 10
 else
  let log := jB L 0 4 + 5
  if most < log ∨ 15 < log then .error 12
  else match U7 L sym (L.length + 1) 4 (2 ^ log) [] with
   | .error e => .error e
   | .ok (ps, st) => .ok (log, ps, (st + 7) / 8)
theorem Rr : ∀ k : Nat, rR (List.replicate k 0) = 0
 | 0 => rfl
 | k + 1 => by rw [aIH, wO, Rr k] <;> rfl
theorem adZ {L : List Bool} {sym : Nat} {out : List Int} {stE : Nat} {tot : Int} : ∀ {f st left : Nat} {ps : List Int}, U7 L sym f st left ps = .ok (out, stE) -> (∀ p ∈ ps, -1 <= p) -> rR ps + left = tot →
 (left = 0 -> ps.length <= sym /\ ps.getLast? ≠ some 0 /\ 1 <= ps.length) -> (∀ p ∈ out, -1 <= p) /\ rR out = tot /\ out.length <= sym /\ out.getLast? ≠ some 0 /\ 1 <= out.length
 | 0, st, left, ps, h, _, _, _ => by cases h
 | f + 1, st, left, ps, h, hlo, hs, hz => by
   rw [U7] at h
   split at h
   .rename_i h0
    cases h
    obtain ⟨z1, z2, z3⟩ := hz h0
    exact ⟨hlo, by omega, z1, z2, z3⟩
   .rename_i h0
    cases hv : VB L st left with
    | none => rw [hv] at h; cases h
    | some x =>
      obtain ⟨v, st1⟩ := x
      obtain ⟨v1, v2, v3⟩ := U1 hv (by omega)
      rw [hv] at h
      simp only at h
      split at h
      .rename_i hv1
       cases hn : noR L (L.length + 1) st1 with
       | none => rw [hn] at h; cases h
       | some y =>
         obtain ⟨k, st2⟩ := y
         rw [hn] at h
         simp only at h
         split at h
         .cases h
         .refine adZ h ?_ ?_ (fun h => absurd h h0)
          .intro p hp
           rcases aI2.1 hp with hp | hp
           .exact hlo p hp
           .rcases aIz.1 hp with rfl | hp
            .omega
            .rw [aJs hp]; omega
          .rw [Gt, wO]
           have e := Rr k
           rw [e]
           have : cW 0 = 0 := rfl
           omega
      .rename_i hv1
       split at h
       .cases h
       .have hp1 : -1 <= (v : Int) - 1 := by omega
        have hpn := lT hp1
        have hpl : cW ((v : Int) - 1) <= left := by unfold cW; split <;> omega
        refine adZ h ?_ ?_ ?_
        .intro p hp
         rcases aI2.1 hp with hp | hp
         .exact hlo p hp
         .rw [aIW.1 hp]; exact hp1
        .rw [Gt, wO]
         have e : rR [] = 0 := rfl
         rw [e]; omega
        .intro _
         rw [aHR, aI3, List.getLast?_concat]
         refine ⟨by omega, ?_, by omega⟩
         intro e
         have := aH2 e
         omega
def L5 (left v : Nat) : List Bool :=
 let n := bl (left + 1)
 let free := 2 ^ n - 2 - left
 if v < free then gD v (n - 1) else if v < 2 ^ (n - 1) then gD v n else gD (v + free) n
def noW (k : Nat) : List Bool := if h : k < 3 then gD k 2 else gD 3 2 ++ noW (k - 3)
termination_by k
theorem UC {L A C : List Bool} {x n : Nat} (hL : L = A ++ (gD x n ++ C)) (h : x < 2 ^ n) : jB L A.length n = x := by rw [hL, asA A x n C h]
theorem anM (x n : Nat) : gD x (n + 1) = gD (x % 2 ^ n) n ++ gD (x / 2 ^ n % 2) 1 := by
 rw [JU]
 congr 1
 .unfold gD
  apply aI8
  intro k hk
  rw [Nat.testBit_mod_two_pow]
  simp [aIw.1 hk]
 .rw [JU, EA, aIv]
  congr 1
  rw [aIY, aIY, Nat.pow_zero, Nat.div_one, Nat.mod_mod]
theorem aCN {L A C : List Bool} {left v : Nat} (hL : L = A ++ (L5 left v ++ C)) (h0 : 0 < left) (hv : v <= left + 1) : VB L A.length left = some (v, A.length + (L5 left v).length) := by
 have hb1 := Hx (k := left + 1) (by omega)
 have hb2 := Tx (k := left + 1) (by omega)
 have hb3 := V0 (left + 1)
 unfold L5 at hL ⊢
 unfold VB
 simp only at hL ⊢
 generalize bl (left + 1) = n at *
 obtain ⟨m, rfl⟩ : ∃ m, n = m + 1 := ⟨n - 1, by omega⟩
 rw [aID] at *
 have hp : 2 ^ (m + 1) = 2 * 2 ^ m := by rw [aH8, aIO]
 have hp0 := aIj m
 by_cases h1 : v < 2 ^ (m + 1) - 2 - left
 .rw [if_pos h1] at hL ⊢
  have hlen : L.length = A.length + (m + C.length) := by rw [hL, aHR, aHR, dH]
  rw [if_neg (by omega), UC hL (by omega), if_pos h1, dH]
 .rw [if_neg h1] at hL ⊢
  have key : ∀ y : Nat, y < 2 ^ (m + 1) -> L = A ++ (gD y (m + 1) ++ C) -> 2 ^ (m + 1) - 2 - left <= y % 2 ^ m -> (if y / 2 ^ m = 0 then y % 2 ^ m else y % 2 ^ m + 2 ^ m - (2 ^ (m + 1) - 2 - left)) = v →
      (if L.length < A.length + m then none else if jB L A.length m < 2 ^ (m + 1) - 2 - left then some (jB L A.length m, A.length + m) else if L.length < A.length + m + 1 then none
       else if jB L (A.length + m) 1 = 0 then some (jB L A.length m, A.length + m + 1) else some (jB L A.length m + 2 ^ m - (2 ^ (m + 1) - 2 - left), A.length + m + 1)) = some (v, A.length + (gD y (m + 1)).length) := by
   intro y hy hL hlow hval
   have hlen : L.length = A.length + (m + 1 + C.length) := by rw [hL, aHR, aHR, dH]
   have hq : y / 2 ^ m < 2 := (aJc hp0).2 (by omega)
   have e1 : jB L A.length m = y % 2 ^ m := UC (C := gD (y / 2 ^ m % 2) 1 ++ C) (by rw [hL, anM, aHV]) (aI1 _ hp0)
   have e2 : jB L (A.length + m) 1 = y / 2 ^ m := by
    have := UC (L := L) (A := A ++ gD (y % 2 ^ m) m) (C := C) (x := y / 2 ^ m % 2) (n := 1) (by rw [hL, anM, aHV, aHV]) (by omega)
    rw [aHR, dH, aIg hq] at this
    exact this
   rw [if_neg (by omega), e1, if_neg (by omega), if_neg (by omega), e2, dH]
   split
   .rename_i h
    rw [if_pos h] at hval
    rw [hval] <;> rfl
   .rename_i h
    rw [if_neg h] at hval
    rw [hval] <;> rfl
  by_cases h2 : v < 2 ^ m
  .rw [if_pos h2] at hL ⊢
   refine key v (by omega) hL ?_ ?_
   .rw [aIg h2]; omega
   .rw [Nat.div_eq_of_lt h2, if_pos rfl, aIg h2]
  .rw [if_neg h2] at hL ⊢
   have hd : (v + (2 ^ (m + 1) - 2 - left)) / 2 ^ m = 1 := Nat.div_eq_of_lt_le (by omega) (by omega)
   have hm : (v + (2 ^ (m + 1) - 2 - left)) % 2 ^ m = v + (2 ^ (m + 1) - 2 - left) - 2 ^ m := by
    rw [Nat.mod_eq_sub_mod (by omega), aIg (by omega)]
   refine key _ (by omega) hL ?_ ?_
   .rw [hm]; omega
   .rw [hd, if_neg (by omega), hm]; omega
theorem aG3 {L C : List Bool} : ∀ {k : Nat} {A : List Bool} {f : Nat}, L = A ++ (noW k ++ C) -> L.length < 2 * f + A.length -> noR L f A.length = some (k, A.length + (noW k).length) := by
 intro k
 induction k using Nat.strongRecOn with
 | ind k ih =>
   intro A f hL hf
   rw [noW] at hL ⊢
   split at hL
   .rename_i hk
    have hlen : L.length = A.length + (2 + C.length) := by rw [hL, aHR, aHR, dH]
    obtain ⟨f, rfl⟩ : ∃ g, f = g + 1 := ⟨f - 1, by omega⟩
    have e := UC hL (by omega)
    rw [noR, if_neg (by omega), e, if_pos hk, dif_pos hk, dH]
   .rename_i hk
    rw [aHV] at hL
    have hlen : L.length = A.length + (2 + ((noW (k - 3)).length + C.length)) := by rw [hL, aHR, aHR, aHR, dH]
    obtain ⟨f, rfl⟩ : ∃ g, f = g + 1 := ⟨f - 1, by omega⟩
    have e := UC hL (by omega)
    have := ih (k - 3) (by omega) (A := A ++ gD 3 2) (f := f) (by rw [hL, aHV]) (by rw [aHR, dH]; omega)
    rw [aHR, dH] at this
    rw [noR, if_neg (by omega), e, if_neg (by omega), this, dif_neg hk, aHR, dH]
    simp only [Option.some.injEq, Prod.mk.injEq]
    omega
def Yg : Nat -> Nat -> List Int -> List Bool
 | 0, _, _ => []
 | f + 1, left, ps => match ps with
   | [] => []
   | p :: ps => if p = 0 then
       let k := (ps.takeWhile (· == 0)).length
       L5 left 1 ++ (noW k ++ Yg f left (ps.drop k))
     else L5 left (p + 1).toNat ++ Yg f (left - (cW p).toNat) ps
theorem V1 (ps : List Int) : ps = List.replicate (ps.takeWhile (· == 0)).length 0 ++ ps.drop (ps.takeWhile (· == 0)).length := by
 induction ps with
 | nil => rfl
 | cons p ps ih =>
   rw [List.takeWhile_cons]
   by_cases h : p = 0
   .subst h
    simp only [beq_self_eq_true, if_true, aH5, aIH, aIs, aIP]
    rw [<- ih]
   .have : (p == 0) = false := by simpa using h
    simp [this]
theorem aG8 {L C : List Bool} {sym : Nat} : ∀ {g : Nat} {ps out : List Int} {left f : Nat} {A : List Bool}, ps.length <= g -> (∀ p ∈ ps, -1 <= p) -> rR ps = left -> ps.getLast? ≠ some 0 →
 L = A ++ (Yg g left ps ++ C) -> L.length < f + A.length -> out.length + ps.length <= sym →
 U7 L sym f A.length left out = .ok (out ++ ps, A.length + (Yg g left ps).length) := by
 intro g
 induction g with
 | zero =>
   intro ps out left f A hl hlo hs hlast hL hf hsym
   have : ps = [] := aIk.1 (by omega)
   subst this
   obtain rfl : left = 0 := by have : rR [] = 0 := rfl
                               omega
   have : A.length <= L.length := by rw [hL, aHR]; omega
   obtain ⟨f, rfl⟩ : ∃ g, f = g + 1 := ⟨f - 1, by omega⟩
   rw [U7, if_pos rfl, Yg]; simp
 | succ g ih =>
   intro ps out left f A hl hlo hs hlast hL hf hsym
   have hAL : A.length <= L.length := by rw [hL, aHR]; omega
   obtain ⟨f, rfl⟩ : ∃ g, f = g + 1 := ⟨f - 1, by omega⟩
   cases ps with
   | nil =>
     obtain rfl : left = 0 := by have : rR [] = 0 := rfl
                                 omega
     rw [U7, if_pos rfl, Yg]; simp
   | cons p ps =>
     have hp := hlo p (aIL ..)
     have hlo' : ∀ p ∈ ps, -1 <= p := fun q hq => hlo q (aH0 _ hq)
     have hn := GD hlo'
     rw [wO] at hs
     have hpn := lT hp
     rw [aH5] at hl hsym
     have hpos : 0 < left := by
      by_cases h0 : p = 0
      .
       subst h0
       rcases aIN left with h | h
       .exfalso
        subst h
        have hs0 : rR ps = 0 := by have : cW 0 = 0 := rfl
                                   omega
        have hz : ∀ q ∈ ps, q = 0 := fun q hq => by
         have h1 := alT hlo' hq
         have h2 := hlo' q hq
         unfold cW at h1
         split at h1 <;> omega
        cases ps with
        | nil => simp at hlast
        | cons q ps =>
          rw [List.getLast?_cons_cons] at hlast
          refine hlast ?_
          cases hg : (q :: ps).getLast? with
          | none => simp at hg
          | some y => rw [hz y (List.mem_of_getLast? hg)]
       .exact h
      .unfold cW at hs; split at hs <;> omega
     have hpl : cW p <= left := by omega
     by_cases h0 : p = 0
     .subst h0
      have hW : Yg (g + 1) left (0 :: ps) = L5 left 1 ++ (noW (ps.takeWhile (· == 0)).length ++ Yg g left (ps.drop (ps.takeWhile (· == 0)).length)) := by rw [Yg, if_pos rfl]
      have hk := V1 ps
      have hkl : (ps.takeWhile (· == 0)).length <= ps.length := (aJV _).length_le
      rw [hW] at hL ⊢
      generalize (ps.takeWhile (· == 0)).length = k at *
      have e1 := aCN (L := L) (A := A) (C := noW k ++ Yg g left (ps.drop k) ++ C) (left := left) (v := 1) (by rw [hL]; simp [aHV]) hpos (by omega)
      obtain ⟨z1, z2, _⟩ := U1 e1 hpos
      have e2 := aG3 (L := L) (k := k) (A := A ++ L5 left 1) (C := Yg g left (ps.drop k) ++ C) (f := L.length + 1) (by rw [hL]; simp [aHV]) (by omega)
      obtain ⟨y1, y2, _⟩ := anC e2
      have hlast' : (ps.drop k).getLast? ≠ some 0 := by
       intro h
       apply hlast
       have e : (0 :: ps : List Int) = (0 :: ps.take k) ++ ps.drop k := by rw [aIP, aJb]
       rw [e, List.getLast?_append, h] <;> rfl
      have hsum' : rR (ps.drop k) = left := by
       have : rR ps = rR (List.replicate k 0) + rR (ps.drop k) := by
        conv => lhs; rw [hk]
        rw [Gt]
       rw [Rr] at this
       have e0 : cW 0 = 0 := rfl
       omega
      have hlen2 : (A ++ L5 left 1 ++ noW k).length = A.length + (L5 left 1).length + (noW k).length := by rw [aHR, aHR]
      rw [aHR] at e2 y1
      have e3 := ih (ps := ps.drop k) (out := out ++ 0 :: List.replicate k 0) (left := left) (f := f) (A := A ++ L5 left 1 ++ noW k) (by rw [aIb]; omega) (fun q hq => hlo' q (aJ0 hq)) hsum' hlast'
       (by rw [hL]; simp [aHV]) (by rw [hlen2]; omega) (by rw [aHR, aH5, aI4, aIb]; omega)
      rw [hlen2] at e3
      rw [U7, if_neg (by omega), e1]
      simp only [if_true]
      rw [e2]
      simp only
      rw [if_neg (by omega), e3]
      congr 2
      .rw [aHV, aIP, <- hk]
      .simp only [aHR]; omega
     .have hW : Yg (g + 1) left (p :: ps) = L5 left (p + 1).toNat ++ Yg g (left - (cW p).toNat) ps := by rw [Yg, if_neg h0]
      have hle : p <= cW p := by unfold cW; split <;> omega
      rw [hW] at hL ⊢
      obtain ⟨v, hv⟩ : ∃ v : Nat, (p + 1).toNat = v := ⟨_, rfl⟩
      have hvp : (v : Int) - 1 = p := by omega
      rw [hv] at hL ⊢
      have e1 := aCN (L := L) (A := A) (C := Yg g (left - (cW p).toNat) ps ++ C) (left := left) (v := v) (by rw [hL]; simp [aHV]) hpos (by omega)
      obtain ⟨z1, z2, _⟩ := U1 e1 hpos
      have hlast' : ps.getLast? ≠ some 0 := by
       intro h
       apply hlast
       cases ps with
       | nil => simp at h
       | cons q ps => rw [List.getLast?_cons_cons]; exact h
      have hlen2 : (A ++ L5 left v).length = A.length + (L5 left v).length := aHR
      have e3 := ih (ps := ps) (out := out ++ [p]) (left := left - (cW p).toNat) (f := f) (A := A ++ L5 left v) (by omega) hlo' (by omega) hlast'
       (by rw [hL]; simp [aHV]) (by rw [hlen2]; omega) (by rw [aHR, aI3]; omega)
      rw [hlen2] at e3
      rw [U7, if_neg (by omega), e1]
      simp only
      rw [if_neg (by omega), if_neg (by omega), hvp, e3]
      congr 2
      .rw [aHV] <;> rfl
      .simp only [aHR]; omega
def IJ (log : Nat) (ps : List Int) : List Bool := gD (log - 5) 4 ++ Yg ps.length (2 ^ log) ps
theorem aEB {log : Nat} {ps : List Int} {C : List Bool} (hm : Sk log ps) {most : Int} (hmo : (log : Int) <= most) {sym : Nat} (hs : ps.length <= sym) :
 wF (IJ log ps ++ C) most sym = .ok (log, ps, ((IJ log ps).length + 7) / 8) := by
 have h5 := hm.log5
 have h15 := hm.log15
 have hlen : 4 <= (IJ log ps ++ C).length := by unfold IJ; rw [aHR, aHR, dH]; omega
 have e0 : jB (IJ log ps ++ C) 0 4 = log - 5 := by
  unfold IJ
  have := asA [] (log - 5) 4 (Yg ps.length (2 ^ log) ps ++ C) (by omega)
  rw [aIv, List.length_nil, <- aHV] at this
  exact this
 have hpow : ((2 ^ log : Nat) : Int) = (2 : Int) ^ log := by simp
 have e1 := aG8 (L := IJ log ps ++ C) (C := C) (sym := sym) (g := ps.length) (ps := ps) (out := []) (left := 2 ^ log) (f := (IJ log ps ++ C).length + 1) (A := gD (log - 5) 4) (aHS _) hm.low
  (by rw [hm.sum, hpow]) hm.last (by unfold IJ; rw [aHV]) (by omega) (by rw [List.length_nil]; omega)
 rw [dH, aIv] at e1
 unfold wF
 simp only
 rw [if_neg (by omega), e0, show log - 5 + 5 = log from by omega, if_neg (by omega), e1]
 simp only
 congr 4
 unfold IJ
 rw [aHR, dH]
end Go.Pu
namespace Go.En
open Go
section
variable {P : Program} {w : aJ2} {t e : TypeId}
theorem avV {S : Nat -> Prop} {sz n m : Nat} {i : TypeInfo} {z : aJ3} {ty t2 : TypeId} {k : IntKind} (hu : P.underlying t = some (.slice e)) (hu2 : P.underlying t2 = some (.int k)) (hi : P.info? e = some i) (hsz : i.size = sz) (hz : i.zero = some z) (hzs : z.cells.size = sz)
 {v : aJ3} {l : List aJ3} (h : OSS w S sz v n l) (hsz0 : 0 < sz) (hone : ∀ y ∈ z.cells.toList, one y = true) (hb : ∀ b, w.heap.size <= b -> S b)
 (hn : n + m <= 9223372036854775807) (hbytes : (n + m) * i.bytes <= 140737488355328) (hmb : m * i.bytes <= 140737488355328)
 {K : aJ3 -> aJ2 -> Prop} (hk : ∀ v' w', OSS w' S sz v' (n + m) (l ++ (Builtin.zeroCells z.cells m).toList) -> aS w w' S -> K v' w') : aC P (jM .append #[t, t2] ty [v, .int k m]) w K := by
 generalize hnews : (Builtin.zeroCells z.cells m).toList = news at *
 have hnl : news.length = m * sz := by rw [<- hnews, aIZ, qL, hzs]
 have hone' : ∀ y ∈ news, one y = true := by
  intro y hy
  rw [<- hnews] at hy
  simp only [Builtin.zeroCells, Array.toList_map, aIx] at hy
  obtain ⟨j, _, rfl⟩ := hy
  refine hone _ ?_
  have : j % z.cells.size < z.cells.size := aI1 _ (by omega)
  rw [getElem!_pos z.cells _ this]
  exact Array.getElem_mem_toList this
 have hmw : IntKind.i64.wrap ((m : Nat) : Int) = (m : Int) := aT (by omega) (by omega)
 have hm0 : ¬ ((m : Int) < 0) := by omega
 have hmx : ¬ ((m : Int) * (i.bytes : Nat) > 2 ^ 48) := by
  have : (m : Int) * (i.bytes : Nat) = ((m * i.bytes : Nat) : Int) := by simp
  rw [this]; omega
 have has : ∀ w, (asInt (.int k m)).run P w = .ok (m : Int) w := fun w => rfl
 have hz' : ∀ w, (zeroValue e).run P w = .ok z w := fun w => by simp [zeroValue, typeInfo, hi, hz]
 have hnw : ∀ w, (if m * sz = 0 then pure #[] else do pure (Builtin.zeroCells (<- zeroValue e).cells m) : Sem (Array aJ3)).run P w = .ok news.toArray w := fun w => by
  by_cases h0 : m * sz = 0
  .rw [if_pos h0, Sem.run_pure]
   have : news = [] := aIk.1 (by omega)
   rw [this]
  .rw [if_neg h0, Sem.run_bind, hz', Result.andThen_ok, Sem.run_pure, <- hnews, Array.toArray_toList]
 have hmax : IntKind.i64.max = 9223372036854775807 := by decide
 have hnot : ¬ (((n + m : Nat) : Int) > IntKind.i64.max) := by rw [hmax]; omega
 have hlen := h.1
 rcases h.2 with ⟨rfl, rfl⟩ | ⟨b, c, rest, rfl, h2, h3, h4, h5⟩
 .have hl0 : l = [] := aIk.1 (by omega)
  subst hl0
  by_cases hm : m = 0
  .subst hm
   have hn0 : news = [] := aIk.1 (by omega)
   subst hn0
   have : (jM .append #[t, t2] ty [.slice none 0 0, .int k (0 : Nat)]).run P w = .ok (.value (.slice none 0 0)) w := by
    unfold jM builtin
    simp only [Builtin.append_, aIS, aHJ, aHK]
    simp only [underlying, typeInfo, Sem.run_bind, run_program, Result.andThen_ok, hu, hu2, hi, Sem.run_pure, gM hi, hsz, has, hmw, hm0, hmx, if_true, if_false, aHH, aIt, aHP, aHS, aIB, hnw]
   unfold aC
   rw [this]
   exact hk _ _ ⟨by simp, .inl ⟨rfl, by omega⟩⟩ (aS.refl _ _)
  .have hfit := growslice_fits (need := 0 + m) (old := 0) (bytes := i.bytes) (by omega) (by omega)
   have hfit' : ¬ (Builtin.nextslicecap (0 + m) 0 * i.bytes > 2 ^ 48) := by omega
   have hle : ¬ (0 + m <= 0) := by omega
   have hq : (Question.appendCap (0 + m) 0 e).forced = false := rfl
   obtain ⟨r, hr⟩ : ∃ r, (Question.appendCap (0 + m) 0 e).cut (w.tape w.drawn (.appendCap (0 + m) 0 e)) = m + r :=
    ⟨(w.tape w.drawn (.appendCap (0 + m) 0 e)) % (2 ^ 63 - (0 + m)), by simp only [Question.cut]; omega⟩
   have : (jM .append #[t, t2] ty [.slice none 0 0, .int k m]).run P w = .ok (.value (.slice (some ⟨w.heap.size, 0, none⟩) (0 + m) (m + r))) ((dr w).alloc (.cells (news ++ (Builtin.zeroCells z.cells (m + r - (0 + m))).toList).toArray e)) := by
    unfold jM builtin
    simp only [Builtin.append_, aIS, aHJ, aHK]
    simp only [underlying, typeInfo, Sem.run_bind, run_program, Result.andThen_ok, hu, hu2, hi, Sem.run_pure, gM hi, hsz, has, hmw, hm0, hmx, if_true, if_false, aHH, aIt, aHP, hle, hnot, false_and, hfit', run_choose, hq, hr, run_askRoom]
    change ((Sem.run P _ (dr w)).andThen _).andThen _ = _
    simp only [Sem.run_bind, hnw, run_firstCells_none, Result.andThen_ok, hz', Sem.run_pure, newRow, run_newObj]
    have e1 : (#[] ++ news.toArray ++ Builtin.zeroCells z.cells (m + r - (0 + m)) : Array aJ3) = (news ++ (Builtin.zeroCells z.cells (m + r - (0 + m))).toList).toArray := by
     apply Array.ext'; simp
    rw [e1]
    rfl
   unfold aC
   rw [this]
   refine hk _ _ ⟨by simp only [aIv]; rw [hnl, aHI], .inr ⟨w.heap.size, m + r, (Builtin.zeroCells z.cells (m + r - (0 + m))).toList, by rw [aHI], hb _ (aHS _), cJ.alloc (dr w) _ _, ?_, by omega⟩⟩ ((aS.dr w _).seq (aS.alloc _ _ _))
   simp only [aIv, aHR, aIZ, qL, hzs, hnl]
   rw [show m + r - (0 + m) = r from by omega, aIJ]
 .by_cases hc : n + m <= c
  .have hroom : news.length <= rest.length := by
    rw [aHR, hlen] at h4
    have : (n + m) * sz <= c * sz := aIp _ hc
    rw [aIJ] at this; omega
   obtain ⟨w', s1, s2, s3, s4, _⟩ := Lp (P := P) (M := S) h2 news w (n * sz) 0 (l ++ rest) h3 (by rw [aHR, hlen]; omega) hone'
   have : (jM .append #[t, t2] ty [.slice (some ⟨b, 0, none⟩) n c, .int k m]).run P w = .ok (.value (.slice (some ⟨b, 0, none⟩) (n + m) c)) w' := by
    unfold jM builtin
    simp only [Builtin.append_, aIS, aHJ, aHK]
    simp only [underlying, typeInfo, Sem.run_bind, run_program, Result.andThen_ok, hu, hu2, hi, Sem.run_pure, gM hi, hsz, has, hmw, hm0, hmx, if_true, if_false, aHH, aIt, aHP, hc, hnw, Fb, aHI, s1]
   unfold aC
   rw [this]
   rw [aIB, <- hlen, OA _ _ _ hroom] at s2
   refine hk _ _ ⟨by rw [aHR, hlen, hnl, aIJ], .inr ⟨b, c, rest.drop news.length, rfl, h2, s2, ?_, hc⟩⟩ s3
   rw [<- h4]; simp; omega
  .have hfit := growslice_fits (need := n + m) (old := c) (bytes := i.bytes) (by omega) hbytes
   have hfit' : ¬ (Builtin.nextslicecap (n + m) c * i.bytes > 2 ^ 48) := by omega
   have hq : (Question.appendCap (n + m) c e).forced = false := rfl
   obtain ⟨r, hr⟩ : ∃ r, (Question.appendCap (n + m) c e).cut (w.tape w.drawn (.appendCap (n + m) c e)) = n + m + r :=
    ⟨(w.tape w.drawn (.appendCap (n + m) c e)) % (2 ^ 63 - (n + m)), by simp only [Question.cut]⟩
   have hold : Cl (dr w) sz (.slice (some ⟨b, 0, none⟩) n c) n l := ⟨_, _, rfl, hlen, fun _ => ⟨b, 0, rfl, fun i hi => by
    show w.cell? _ = _
    rw [h3.cell, aHI, aHW hi]⟩⟩
   have : (jM .append #[t, t2] ty [.slice (some ⟨b, 0, none⟩) n c, .int k m]).run P w = .ok (.value (.slice (some ⟨w.heap.size, 0, none⟩) (n + m) (n + m + r))) ((dr w).alloc (.cells (l ++ news ++ (Builtin.zeroCells z.cells (n + m + r - (n + m))).toList).toArray e)) := by
    have hfo := AG (P := P) hold
    unfold jM builtin
    simp only [Builtin.append_, aIS, aHJ, aHK]
    simp only [underlying, typeInfo, Sem.run_bind, run_program, Result.andThen_ok, hu, hu2, hi, Sem.run_pure, gM hi, hsz, has, hmw, hm0, hmx, if_true, if_false, aHH, aIt, aHP, hc, hnot, false_and, hfit', run_choose, hq, hr, run_askRoom]
    change ((Sem.run P _ (dr w)).andThen _).andThen _ = _
    simp only [Sem.run_bind, hnw, hfo, Result.andThen_ok, hz', Sem.run_pure, newRow, run_newObj]
    have e1 : (l.toArray ++ news.toArray ++ Builtin.zeroCells z.cells (n + m + r - (n + m)) : Array aJ3) = (l ++ news ++ (Builtin.zeroCells z.cells (n + m + r - (n + m))).toList).toArray := by
     apply Array.ext'; simp
    rw [e1]
    rfl
   unfold aC
   rw [this]
   refine hk _ _ ⟨by rw [aHR, hlen, hnl, aIJ], .inr ⟨w.heap.size, n + m + r, _, rfl, hb _ (aHS _), cJ.alloc (dr w) _ _, ?_, by omega⟩⟩ ((aS.dr w _).seq (aS.alloc _ _ _))
   simp only [aHR, aIZ, qL, hzs, hnl, hlen]
   rw [show n + m + r - (n + m) = r from by omega, aIJ, aIJ]
end
end Go.En
namespace Go.Proofs.YtaggdjhhmbnhoaaDoor
open Go Go.En Go.Pu
set_option maxRecDepth 4000
theorem aEz {y : Nat} (h : y ≠ 0) : bl y = bl (y / 2) + 1 := by
 by_cases h2 : y / 2 = 0
 .obtain rfl : y = 1 := by omega
  decide
 .have a := Tx h2
  have b := V0 (y / 2)
  have c := Hx h2
  obtain ⟨m, hm⟩ : ∃ m, bl (y / 2) = m + 1 := ⟨bl (y / 2) - 1, by omega⟩
  rw [hm, aID] at a
  rw [hm] at b ⊢
  refine aC2 ?_ ?_
  .rw [aH8]; omega
  .rw [aH8]; omega
theorem aED {x : Nat} (hx : x < 2 ^ 40) (w : aJ2) : aR pg AU #[.int .i64 x] w (fun r w' => r = .int .i64 (bl x : Nat) /\ w' = w) := by
 refine abV ?_
 unfold aiR Kj Lj Kl Ls KP
 have hb : bl x <= 40 := rE hx
 refine cG.rule (fun m (t : aJ3 × aJ3) w' => ∃ n : Nat, t = (.int .i64 m, .int .i64 n) /\ bl m + n = bl x /\ m <= x /\ w' = w) x ⟨0, rfl, rfl, aHS _, rfl⟩ ?_
 rintro m t w1 ⟨n, rfl, hn, hmx, rfl⟩
 unfold DU
 by_cases h0 : m = 0
 .subst h0
  have d1 : decide ((0 : Int) < ((0 : Nat) : Int)) = false := rfl
  unfold CW
  have : n = bl x := by rw [<- hn]; simp [aFd]
  subst this
  simp (disch := omega) only [aC, dM, d1, Ee, bM, aT, aA, true_and, and_true, aE]
 .have d1 : decide ((0 : Int) < (m : Int)) = true := by simp; omega
  have e1 : (m : Int).tdiv 2 = ((m / 2 : Nat) : Int) := by rw [aId (by omega)]; omega
  have hh := aEz h0
  simp (disch := omega) only [aC, dM, d1, Ee, e1, aT, bM, aA, and_true, aF]
  exact ⟨m / 2, by omega, n + 1, rfl, by omega, by omega⟩
theorem U0 {v : aJ3} {L : List Bool} {st n : Nat} {w : aJ2} (hs : Bl w v L) (hn : n <= 32) (hst : st <= L.length) (hl : L.length <= 10000000) :
 aR pg pZ #[.agg #[v, .int .i64 st], .int .i64 n] w (fun r w' => ((L.length < st + n /\ r = .tuple #[.agg #[v, .int .i64 st], .int .u64 0, .int .i64 10]) ∨
  (st + n <= L.length /\ r = .tuple #[.agg #[v, .int .i64 (st + n : Nat)], .int .u64 (jB L st n : Nat), .int .i64 0])) /\ aS w w' cM) := by
 refine ajK ?_
 obtain ⟨a, c, rfl, hc⟩ := Md hs
 unfold anX NG
 refine fV fun w1 o1 x1 s1 => ?_
 refine yI fun w2 o2 x2 s2 => ?_
 simp only [Value.cells] at o1
 have o1 := o1.ext x2 (fun h => h)
 have c0 := o1.cell (off := 0)
 have c1 := o1.cell (off := 1)
 have l1 := fG (off := 0) o1 (by simp)
 simp only [aHJ, aHK, aHM, aHG, aHO] at c0 c1 l1
 have x02 : aS w w2 cM := x1.seq x2
 have d1 : decide ((n : Int) < 0) = false := by simp
 have d2 : decide ((32 : Int) < (n : Int)) = false := by simp; omega
 by_cases hsh : L.length < st + n
 .have d3 : decide ((L.length : Int) - (st : Int) < (n : Int)) = true := by simp; omega
  simp (disch := omega) only [aC, aX, d1, qB, mJ, aHI, aA, cA, sV, dB, bN, aHP, if_false, bP, dM, d2, l1, c0, aI, qT, c1, eA, aT, d3, bM, aF, aE]
  refine dC o2 rfl (by simp [one]) (by simp) fun w3 o3 x3 s3 => ?_
  refine lN o3 (by simp [aV]) ?_
  simp only [aV, aHL, aHN, aHM, aHG, aHO]
  exact ⟨.inl ⟨hsh, by trivial⟩, x02.new x3 (by omega)⟩
 .have d3 : decide ((L.length : Int) - (st : Int) < (n : Int)) = false := by simp; omega
  have e1 : (st : Int) + (n : Int) = ((st + n : Nat) : Int) := by omega
  have hs2 := (hs.ext x02 (cB _)).drop' (k := st) (by omega)
  rw [<- aJW] at hs2
  have hs3 := aDH hs2 (k := n) (by omega)
  rw [<- aJu] at hs3
  have e2 : st + n - st = n := by omega
  simp (disch := omega) only [aC, aX, d1, qB, mJ, aHI, aA, cA, sV, dB, bN, aHP, if_false, bP, dM, d2, c0, aI, qT, c1, eA, aT, d3, bM, e1, Im, aHH, e2, aE]
  refine (ahP hs3 (by rw [aHZ]; omega)).mono ?_
  rintro r w3 ⟨rfl, rfl⟩
  simp (disch := omega) only [c1, aI, aA, bM, e1, aT]
  refine tA o1 rfl (by simp) fun w4 o4 x4 s4 => ?_
  simp only [aHL, aHN] at o4
  have l4 := fG (off := 0) o4 (by simp)
  simp only [aHM, aHG, aHO] at l4
  simp (disch := omega) only [l4, aA]
  refine dC (o2.ext x4 (by omega)) rfl (by simp [one]) (by simp) fun w5 o5 x5 s5 => ?_
  refine lN o5 (by simp [aV]) ?_
  simp only [aV, aHL, aHN, aHM, aHG, aHO]
  exact ⟨.inr ⟨by omega, by trivial⟩, (x02.new x4 (by omega)).new x5 (by omega)⟩
theorem aCx {v : aJ3} {st : Nat} {w : aJ2} (hst : st <= 1000000000) : aR pg I5 #[.agg #[v, .int .i64 st]] w (fun r w' => r = .int .i64 (((st + 7) / 8 : Nat)) /\ aS w w' cM) := by
 refine akO ?_
 unfold anR MW
 refine fV fun w1 o1 x1 s1 => ?_
 simp only [Value.cells] at o1
 have c1 := o1.cell (off := 1)
 simp only [aHJ, aHK] at c1
 have e1 : ((st : Int) + 7).tdiv 8 = (((st + 7) / 8 : Nat) : Int) := by rw [aId (by omega)]; omega
 simp (disch := omega) only [aC, mJ, aHI, aA, cA, c1, aI, bM, aT, Ee, e1, true_and]
 exact x1
theorem acV {left : Nat} (h0 : 0 < left) (h1 : left <= 32768) : ∃ m, bl (left + 1) = m + 1 /\ 1 <= m /\ m <= 16 /\ left + 1 < 2 ^ (m + 1) /\ 2 ^ m <= left + 1 /\ 2 ^ (m + 1) = 2 * 2 ^ m := by
 have hb2 := Tx (k := left + 1) (by omega)
 have hb3 := V0 (left + 1)
 have hb4 := rE (k := left + 1) (n := 17) (by omega)
 have hn : 2 <= bl (left + 1) := by
  rcases aH6 (bl (left + 1)) 2 with h | h
  .have hb1 := Hx (k := left + 1) (by omega)
   have : bl (left + 1) = 1 := by omega
   rw [this] at hb3; omega
  .exact h
 obtain ⟨m, hm⟩ : ∃ m, bl (left + 1) = m + 1 := ⟨bl (left + 1) - 1, by omega⟩
 rw [hm] at hb2 hb3 hb4 hn ⊢
 exact ⟨m, rfl, by omega, by omega, hb3, hb2, by rw [aH8, aIO]⟩
theorem avP (L : List Bool) (f st : Nat) : noR L (f + 1) st = if L.length < st + 2 then none else if jB L st 2 < 3 then some (jB L st 2, st + 2) else match noR L f (st + 2) with
 | none => none
 | some (k, st') => some (3 + k, st') := by rw [noR] <;> rfl
def aFy (w : aJ2) (lo hi : Nat) (l : List UInt8) (o : Option (Nat × Nat)) (r : aJ3) : Prop := match o with
 | none => r = .tuple #[.int .i64 0, .int .i64 10]
 | some (v, st) => r = .tuple #[.int .i64 v, .int .i64 0] /\ Fwd w lo hi l st
theorem aFa {l : List UInt8} {lo hi st left : Nat} {w : aJ2} (h : Fwd w lo hi l st) (hlh : lo <= hi) (hst : st <= 8 * l.length) (hl : l.length <= 1000000) (h0 : 0 < left) (h1 : left <= 32768) :
 aR pg CL #[.pointer (some ⟨hi, 0, none⟩), .int .i64 left] w (fun r w' => aFy w' lo hi l (VB (bE l) st left) r /\ aS w w' (fun y => y = hi)) := by
 refine Yo ?_
 obtain ⟨m, hm, hm1, hm2, hf1, hf2, hf3⟩ := acV h0 h1
 unfold Zm HN
 have e1 : (left : Int) + 1 = ((left + 1 : Nat) : Int) := by omega
 simp (disch := omega) only [aC, bM, e1, aT, aA, lM, hP]
 refine (aCG (x := left + 1) (by omega) w).mono ?_
 rintro r w1 ⟨rfl, rfl⟩
 rw [hm]
 have e2 : ((m + 1 : Nat) : Int) - 1 = (m : Int) := by omega
 simp (disch := omega) only [eA, e2, aT, mN, aHH, aA]
 refine (U4 (n := m) h hlh (by omega) hst hl).mono ?_
 have hbl := lV l
 unfold VB
 simp only [hm, aID]
 rintro r w2 (⟨hsh, rfl, hf, x2⟩ | ⟨hsh, rfl, hf, x2⟩)
 .have n1 : ((10 : Int) != 0) = true := rfl
  rw [if_pos (by omega)]
  simp (disch := omega) only [B9, B7, aA, eT, n1, aF]
  exact ⟨rfl, x2.mono fun _ _ h => h.elim⟩
 .have n1 : ((0 : Int) != 0) = false := rfl
  rw [if_neg (by omega)]
  have hlt := CV (bE l) st m
  have hnum : tD (((bE l).drop st).take m) = jB (bE l) st m := rfl
  rw [hnum]
  have hsh1 := atZ (n := m + 1) (by omega)
  have hsh0 := atZ (n := m) (by omega)
  have hp : 2 ^ m <= 2 ^ 16 := aHT (by omega) hm2
  generalize jB (bE l) st m = low at *
  rw [hf3] at *
  generalize hq : 2 ^ m = q at *
  have e3 : ((2 * q : Nat) : Int) - 2 - (left : Int) = ((2 * q - 2 - left : Nat) : Int) := by omega
  by_cases hfr : low < 2 * q - 2 - left
  .have d1 : decide ((low : Int) < ((2 * q - 2 - left : Nat) : Int)) = true := by simp only [decide_eq_true_eq]; omega
   rw [if_pos hfr]
   simp (disch := omega) only [B9, B7, hsh1, aT, e3, aA, eT, n1, aE, cZ, bM, eA, aX, d1, aF]
   exact ⟨⟨rfl, hf⟩, x2⟩
  .have d1 : decide ((low : Int) < ((2 * q - 2 - left : Nat) : Int)) = false := by simp only [decide_eq_false_iff_not]; omega
   rw [if_neg hfr]
   simp (disch := omega) only [B9, B7, hsh1, aT, e3, aA, eT, n1, aE, cZ, bM, eA, aX, d1]
   refine (U4 (n := 1) hf hlh (by omega) hsh hl).mono ?_
   rintro r w3 (⟨hs3, rfl, hf3, x3⟩ | ⟨hs3, rfl, hf3, x3⟩)
   .have n1 : ((10 : Int) != 0) = true := rfl
    rw [if_pos (by omega)]
    simp (disch := omega) only [B9, B7, aA, eT, n1, aF]
    exact ⟨rfl, x2.seq (x3.mono fun _ _ h => h.elim)⟩
   .rw [if_neg (by omega)]
    have hnum : tD (((bE l).drop (st + m)).take 1) = jB (bE l) (st + m) 1 := rfl
    rw [hnum]
    by_cases hz : jB (bE l) (st + m) 1 = 0
    .have n2 : (((jB (bE l) (st + m) 1 : Nat) : Int) == 0) = true := by rw [hz] <;> rfl
     rw [if_pos hz]
     simp (disch := omega) only [B9, B7, aA, eT, n1, aE, cR, n2, aF]
     exact ⟨⟨rfl, hf3⟩, x2.seq x3⟩
    .have n2 : (((jB (bE l) (st + m) 1 : Nat) : Int) == 0) = false := beq_eq_false_iff_ne.2 (by omega)
     have e4 : (low : Int) + (q : Int) - ((2 * q - 2 - left : Nat) : Int) = ((low + q - (2 * q - 2 - left) : Nat) : Int) := by omega
     rw [if_neg hz]
     simp (disch := omega) only [B9, B7, hsh0, e4, aA, eT, n1, aE, cR, n2]
     exact ⟨⟨rfl, hf3⟩, x2.seq x3⟩
theorem aBZ {l : List UInt8} {lo hi st : Nat} {w : aJ2} (h : Fwd w lo hi l st) (hlh : lo <= hi) (hst : st <= 8 * l.length) (hl : l.length <= 1000000) :
 aR pg zR #[.pointer (some ⟨hi, 0, none⟩)] w (fun r w' => aFy w' lo hi l (noR (bE l) ((bE l).length + 1) st) r /\ aS w w' (fun y => y = hi)) := by
 refine Vr ?_
 have hbl := lV l
 unfold UF Ca DN Dm Mc DL DX C6 Dc
 refine cG.rule (fun m (t : aJ3) w' => ∃ k0 st' : Nat, t = .int .i64 k0 /\ noR (bE l) ((bE l).length + 1) st = (match noR (bE l) m st' with | none => none | some (k, s) => some (k0 + k, s)) /\ (bE l).length < 2 * m + st' /\ st' <= 8 * l.length /\ k0 <= 3 * st' /\ Fwd w' lo hi l st' /\ aS w w' (fun y => y = hi)) ((bE l).length + 1)
  ⟨0, st, rfl, by cases noR (bE l) ((bE l).length + 1) st with
    | none => rfl
    | some x => simp, by omega, hst, by omega, h, aS.refl _ _⟩ ?_
 rintro m t w1 ⟨k0, st', rfl, hr, hm, hs', hk0, hf, x1⟩
 obtain ⟨m, rfl⟩ : ∃ m', m = m' + 1 := ⟨m - 1, by omega⟩
 unfold xC
 refine (U4 (n := 2) hf hlh (by omega) hs' hl).mono ?_
 rw [avP (bE l) m st'] at hr
 rintro r w2 (⟨hsh, rfl, hf2, x2⟩ | ⟨hsh, rfl, hf2, x2⟩)
 .have n1 : ((10 : Int) != 0) = true := rfl
  rw [if_pos (by omega)] at hr
  rw [hr]
  simp (disch := omega) only [aC, B9, B7, aA, eT, n1, aF]
  exact ⟨rfl, x1.seq (x2.mono fun _ _ h => h.elim)⟩
 .have n1 : ((0 : Int) != 0) = false := rfl
  rw [if_neg (by omega)] at hr
  have hlt := CV (bE l) st' 2
  have hnum : tD (((bE l).drop st').take 2) = jB (bE l) st' 2 := rfl
  rw [hnum]
  generalize jB (bE l) st' 2 = x at *
  have e1 : (k0 : Int) + (x : Int) = ((k0 + x : Nat) : Int) := by omega
  by_cases h3 : x < 3
  .have d1 : decide ((x : Int) < 3) = true := by simp; omega
   rw [if_pos h3] at hr
   rw [hr]
   unfold wY
   simp (disch := omega) only [aC, B9, B7, aA, eT, n1, aE, cZ, aT, aX, d1, aF, bM, e1]
   exact ⟨⟨rfl, hf2⟩, x1.seq x2⟩
  .have d1 : decide ((x : Int) < 3) = false := by simp; omega
   rw [if_neg h3] at hr
   simp (disch := omega) only [aC, B9, B7, aA, eT, n1, aE, cZ, aT, aX, d1, bM, e1]
   refine ⟨m, by omega, k0 + x, st' + 2, rfl, ?_, by omega, by omega, by omega, hf2, x1.seq x2⟩
   rw [hr]
   cases noR (bE l) m (st' + 2) with
   | none => rfl
   | some y =>
     obtain ⟨k, s⟩ := y
     have : x = 3 := by omega
     subst this
     simp; omega
def aAc (v : aJ3) (o : Option (Nat × Nat)) (r : aJ3) : Prop := match o with
 | none => ∃ st' : Nat, r = .tuple #[.agg #[v, .int .i64 st'], .int .i64 0, .int .i64 10]
 | some (x, st) => r = .tuple #[.agg #[v, .int .i64 st], .int .i64 x, .int .i64 0]
theorem aBQ {v : aJ3} {L : List Bool} {st left : Nat} {w : aJ2} (hs : Bl w v L) (hst : st <= L.length) (hl : L.length <= 10000000) (h0 : 0 < left) (h1 : left <= 32768) :
 aR pg IZ #[.agg #[v, .int .i64 st], .int .i64 left] w (fun r w' => aAc v (VB L st left) r /\ aS w w' cM) := by
 refine ajI ?_
 obtain ⟨m, hm, hm1, hm2, hf1, hf2, hf3⟩ := acV h0 h1
 obtain ⟨a, c, rfl, hc⟩ := Md hs
 unfold apX Nt
 refine fV fun w1 o1 x1 s1 => ?_
 refine yI fun w2 o2 x2 s2 => ?_
 simp only [Value.cells] at o1
 have o1 := o1.ext x2 (fun h => h)
 have l1 := fG (off := 0) o1 (by simp)
 simp only [aHM, aHG, aHO] at l1
 have x02 : aS w w2 cM := x1.seq x2
 have e1 : (left : Int) + 1 = ((left + 1 : Nat) : Int) := by omega
 have hw1 : w.heap.size <= w.heap.size := aHS _
 have hw2 : w.heap.size <= w1.heap.size := x1.size
 have hne : w.heap.size ≠ w1.heap.size := by omega
 obtain ⟨p1, hp1⟩ : ∃ p1, p1 = w.heap.size := ⟨_, rfl⟩
 obtain ⟨p2, hp2⟩ : ∃ p2, p2 = w1.heap.size := ⟨_, rfl⟩
 rw [<- hp1, <- hp2] at hne
 rw [<- hp1] at o1 l1 ⊢
 rw [<- hp2] at o2 hw2 ⊢
 simp (disch := omega) only [aC, bM, e1, aT, aA]
 refine (aED (x := left + 1) (by omega) w2).mono ?_
 rintro r w3 ⟨rfl, rfl⟩
 rw [hm]
 have e2 : ((m + 1 : Nat) : Int) - 1 = (m : Int) := by omega
 simp (disch := omega) only [l1, eA, e2, aT, aA]
 unfold VB
 simp only [hm, aID]
 refine (U0 (n := m) (hs.ext x02 (cB _)) (by omega) hst hl).mono ?_
 have fin : ∀ (st' : Nat) (xv : Int) (ev : Int) (w' : aJ2) (RR : aJ3 -> aJ2 -> Prop), cJ w' p1 [.slice a L.length c, .int .i64 st'] -> cJ w' p2 [.slice none 0 0, .int .i64 0] -> aS w w' cM →
     (∀ w'', aS w w'' cM -> RR (.tuple #[.agg #[.slice a L.length c, .int .i64 st'], .int .i64 xv, .int .i64 ev]) w'') →
     aC pg (aH 164 (.pointer (some ⟨p1, 0, none⟩))) w' fun t15 w => aC pg (aJ 164 (.pointer (some ⟨p2, 0, none⟩)) t15) w fun _u w => kI pg 164 (.pointer (some ⟨p2, 0, none⟩)) w fun r0 => RR (.tuple #[r0, .int .i64 xv, .int .i64 ev]) w := by
  intro st' xv ev w' RR q1 q2 qx qk
  have l1 := fG (off := 0) q1 (by simp)
  simp only [aHM, aHG, aHO] at l1
  simp (disch := omega) only [aC, l1, aA]
  refine dC q2 rfl (by simp [one]) (by simp) fun w6 o6 x6 s6 => ?_
  refine lN o6 (by simp [aV]) ?_
  simp only [aV, aHL, aHN, aHM, aHG, aHO]
  exact qk _ (qx.new x6 hw2)
 have hx1 : w.heap.size <= p1 := by omega
 rintro r w4 ⟨⟨hsh, rfl⟩ | ⟨hsh, rfl⟩, x4⟩
 .have n1 : ((10 : Int) != 0) = true := rfl
  rw [if_pos (by omega)]
  simp (disch := omega) only [RQ, Sd, RN, aA, eT, cZ, aT]
  refine dC (o1.ext x4 (fun h => h)) rfl (by simp [one]) (by simp) fun w5 o5 x5 s5 => ?_
  simp only [aV, aHL, aHN] at o5
  simp (disch := omega) only [n1, aF]
  exact fin st 0 10 w5 (fun r w' => aAc (.slice a L.length c) none r /\ aS w w' cM) o5 ((o2.ext x4 (fun h => h)).ext x5 (by omega)) ((x02.seq x4).new x5 hx1) fun w6 x6 => ⟨⟨_, rfl⟩, x6⟩
 .have n1 : ((0 : Int) != 0) = false := rfl
  rw [if_neg (by omega)]
  have hlt := CV L st m
  have hsh1 : m + 1 <= 40 := by omega
  have hp : 2 ^ m <= 2 ^ 16 := aHT (by omega) hm2
  simp (disch := omega) only [RQ, Sd, RN, aA, eT, cZ, aT]
  refine dC (o1.ext x4 (fun h => h)) rfl (by simp [one]) (by simp) fun w5 o5 x5 s5 => ?_
  simp only [aV, aHL, aHN] at o5
  have x05 : aS w w5 cM := (x02.seq x4).new x5 hx1
  have o25 := (o2.ext x4 (fun h => h)).ext x5 (by omega)
  simp (disch := omega) only [n1, aE]
  refine (U2 m (by omega) _).mono ?_
  rintro r w6 ⟨rfl, rfl⟩
  have hpow : ((2 ^ m : Nat) : Int) = (2 : Int) ^ m := by simp
  rw [<- hpow]
  generalize jB L st m = low at *
  rw [hf3] at *
  generalize hq : 2 ^ m = q at *
  have e3 : 2 * (q : Int) - 2 - (left : Int) = ((2 * q - 2 - left : Nat) : Int) := by omega
  by_cases hfr : low < 2 * q - 2 - left
  .have d1 : decide ((low : Int) < ((2 * q - 2 - left : Nat) : Int)) = true := by simp only [decide_eq_true_eq]; omega
   rw [if_pos hfr]
   have l5 := fG (off := 0) o5 (by simp)
   simp only [aHM, aHG, aHO] at l5
   simp (disch := omega) only [pS, aT, bM, aA, eA, e3, aX, d1, l5, aF]
   refine dC o25 rfl (by simp [one]) (by simp) fun w7 o7 x7 s7 => ?_
   refine lN o7 (by simp [aV]) ?_
   simp only [aV, aHL, aHN, aHM, aHG, aHO]
   exact ⟨rfl, x05.new x7 hw2⟩
  .have d1 : decide ((low : Int) < ((2 * q - 2 - left : Nat) : Int)) = false := by simp only [decide_eq_false_iff_not]; omega
   rw [if_neg hfr]
   have l5 := fG (off := 0) o5 (by simp)
   simp only [aHM, aHG, aHO] at l5
   simp (disch := omega) only [pS, aT, bM, aA, eA, e3, aX, d1, l5, aE]
   refine (U0 (n := 1) (hs.ext x05 (cB _)) (by omega) hsh hl).mono ?_
   rintro r w7 ⟨⟨hs3, rfl⟩ | ⟨hs3, rfl⟩, x7⟩
   .have n1 : ((10 : Int) != 0) = true := rfl
    rw [if_pos (by omega)]
    simp (disch := omega) only [RQ, Sd, RN, aA, eT, cR]
    refine dC (o5.ext x7 (fun h => h)) rfl (by simp [one]) (by simp) fun w8 o8 x8 s8 => ?_
    simp only [aV, aHL, aHN] at o8
    simp (disch := omega) only [n1, aF]
    exact fin _ 0 10 w8 (fun r w' => aAc (.slice a L.length c) none r /\ aS w w' cM) o8 ((o25.ext x7 (fun h => h)).ext x8 (by omega)) ((x05.seq x7).new x8 hx1) fun w6 x6 => ⟨⟨_, rfl⟩, x6⟩
   .rw [if_neg (by omega)]
    have hb1 := CV L (st + m) 1
    simp (disch := omega) only [RQ, Sd, RN, aA, eT, cR]
    refine dC (o5.ext x7 (fun h => h)) rfl (by simp [one]) (by simp) fun w8 o8 x8 s8 => ?_
    simp only [aV, aHL, aHN] at o8
    have x08 : aS w w8 cM := (x05.seq x7).new x8 hx1
    have o28 := (o25.ext x7 (fun h => h)).ext x8 (by omega)
    have l8 := fG (off := 0) o8 (by simp)
    simp only [aHM, aHG, aHO] at l8
    by_cases hz : jB L (st + m) 1 = 0
    .have n2 : (((jB L (st + m) 1 : Nat) : Int) == 1) = false := by rw [hz] <;> rfl
     rw [if_pos hz]
     simp (disch := omega) only [n1, l8, aA, n2, aE]
     refine dC o28 rfl (by simp [one]) (by simp) fun w9 o9 x9 s9 => ?_
     refine lN o9 (by simp [aV]) ?_
     simp only [aV, aHL, aHN, aHM, aHG, aHO]
     exact ⟨rfl, x08.new x9 hw2⟩
    .have n2 : (((jB L (st + m) 1 : Nat) : Int) == 1) = true := by rw [show jB L (st + m) 1 = 1 from by omega] <;> rfl
     have e4 : (low : Int) + (q : Int) - ((2 * q - 2 - left : Nat) : Int) = ((low + q - (2 * q - 2 - left) : Nat) : Int) := by omega
     rw [if_neg hz]
     simp (disch := omega) only [n1, l8, aA, n2, e4, aF, aE]
     refine dC o28 rfl (by simp [one]) (by simp) fun w9 o9 x9 s9 => ?_
     refine lN o9 (by simp [aV]) ?_
     simp only [aV, aHL, aHN, aHM, aHG, aHO]
     exact ⟨rfl, x08.new x9 hw2⟩
theorem amD (L : List Bool) (sym f st left : Nat) (ps : List Int) : U7 L sym (f + 1) st left ps = if left = 0 then .ok (ps, st) else match VB L st left with
 | none => .error 10
 | some (v, st1) =>
   if v = 1 then match noR L (L.length + 1) st1 with
     | none => .error 10
     | some (k, st2) => if sym < ps.length + 1 + k then .error 11 else U7 L sym f st2 left (ps ++ 0 :: List.replicate k 0)
   else if sym < ps.length + 1 then .error 11 else U7 L sym f st1 (left - (cW ((v : Int) - 1)).toNat) (ps ++ [(v : Int) - 1]) := by rw [U7] <;> rfl
theorem auK (k : Nat) : (Builtin.zeroCells (Value.int .i64 0).cells k).toList = List.replicate k (Value.int .i64 0) := by
 apply aIG
 .rw [aIZ, qL, aI4]; simp [Value.cells]
 .intro i h1 h2
  simp [Builtin.zeroCells, Value.cells, Nat.mod_one]
theorem aE3 {n m base : Nat} {ty : TypeId} {w : aJ2} {v : aJ3} {l : List aJ3} (h : rN w base 1 v n l) (hb : base <= w.heap.size) (hn : (n + m) * 8 <= 140737488355328) {K : aJ3 -> aJ2 -> Prop}
 (hk : ∀ v' w', rN w' base 1 v' (n + m) (l ++ List.replicate m (.int .i64 0)) -> aS w w' (fun y => base <= y) -> K v' w') : aC pg (jM .append #[77, 3] ty [v, .int .i64 m]) w K :=
 avV (i := Tryd.t3) (S := fun y => base <= y) Tryd.underlying77 Tryd.underlying3 CF rfl rfl rfl h (by decide) (by intro y hy; simp [Value.cells] at hy; subst hy; rfl) (fun b hbb => aIM hb hbb) (by omega) (by rw [show Tryd.t3.bytes = 8 from rfl]; omega) (by rw [show Tryd.t3.bytes = 8 from rfl]; omega)
  (fun v' w' o x => hk v' w' (by rw [<- auK]; exact o) x)
def abO (w : aJ2) (base : Nat) (o : Except Int (Nat × List Int × Nat)) (r : aJ3) : Prop := match o with
 | .error e => r = .tuple #[.agg #[.int .i64 0, .slice none 0 0], .int .i64 0, .int .i64 e]
 | .ok (log, ps, used) => ∃ v, r = .tuple #[.agg #[.int .i64 log, v], .int .i64 used, .int .i64 0] /\ rN w base 1 v ps.length (ps.map (Value.int .i64))
theorem Ql {p6 : Nat} {w0 w : aJ2} {e : Int} (o6 : cJ w p6 [.int .i64 0, .slice none 0 0]) (hx : aS w0 w cM) (hp : w0.heap.size <= p6) {RR : aJ3 -> aJ2 -> Prop}
 (hR : ∀ w', aS w0 w' cM -> RR (.tuple #[.agg #[.int .i64 0, .slice none 0 0], .int .i64 0, .int .i64 e]) w') :
 aC pg (aJ 145 (.pointer (some ⟨p6, 0, none⟩)) (.agg #[.int .i64 0, .slice none 0 0])) w fun _u w => kI pg 145 (.pointer (some ⟨p6, 0, none⟩)) w fun r0 => RR (.tuple #[r0, .int .i64 0, .int .i64 e]) w := by
 refine fB o6 rfl (by simp [one]) (by simp) fun w6 o6 x6 s6 => ?_
 refine lI o6 (by simp [aV]) ?_
 simp only [aV, aHL, aHN, aHM, aHG, aHO]
 exact hR _ (hx.new x6 hp)
theorem aCl {l : List UInt8} {log lo hi p6 pc sym : Nat} {w0 w : aJ2} {res : Except Int (List Int × Nat)} (hlh : lo <= hi) (hlp : w0.heap.size <= p6) (hl : l.length <= 1000000) (h6 : p6 < lo) (hhp : hi < pc) (hsym : sym <= 1000000) (hlog : log <= 15)
 (o6 : cJ w p6 [.int .i64 0, .slice none 0 0]) (oc : cJ w pc [.int .i64 log, .slice none 0 0]) (hf : Fwd w lo hi l 4) (h4 : 4 <= 8 * l.length) (hx : aS w0 w cM)
 (hres : U7 (bE l) sym ((bE l).length + 1) 4 (2 ^ log) [] = res)
 {RR : aJ3 -> aJ2 -> Prop} (hE : ∀ e w', res = .error e -> aS w0 w' cM -> RR (.tuple #[.agg #[.int .i64 0, .slice none 0 0], .int .i64 0, .int .i64 e]) w')
 (hO : ∀ ps st v w', res = .ok (ps, st) -> rN w' w0.heap.size 1 v ps.length (ps.map (Value.int .i64)) -> aS w0 w' cM -> RR (.tuple #[.agg #[.int .i64 log, v], .int .i64 (((st + 7) / 8 : Nat)), .int .i64 0]) w') :
 Bq RR (.int .i64 sym) (.pointer (some ⟨p6, 0, none⟩)) (.pointer (some ⟨hi, 0, none⟩)) (.pointer (some ⟨pc, 0, none⟩)) (.int .i64 (2 ^ log : Nat)) w := by
 have hbl := lV l
 have hp15 : 2 ^ log <= 2 ^ 15 := aHT (by omega) hlog
 unfold Bq JM LP
 have lpc := oc.lt
 refine cG.rule (fun m (t : aJ3) w' => ∃ (st left : Nat) (ps : List Int) (v : aJ3), t = .int .i64 left /\ U7 (bE l) sym m st left ps = res /\ (bE l).length < m + st /\ st <= 8 * l.length /\ left <= 32768 /\ ps.length <= 1000000 /\
  cJ w' p6 [.int .i64 0, .slice none 0 0] /\ cJ w' pc [.int .i64 log, v] /\ rN w' (pc + 1) 1 v ps.length (ps.map (Value.int .i64)) /\ Fwd w' lo hi l st /\ aS w w' (fun y => y = hi ∨ pc <= y)) ((bE l).length + 1)
  ⟨4, 2 ^ log, [], _, rfl, hres, by omega, h4, by omega, by simp, o6, oc, rN.nil _ _ _, hf, aS.refl _ _⟩ ?_
 rintro m t w1 ⟨st, left, ps, v, rfl, hr, hm, hst, hleft, hpl, o61, oc1, ov, hf1, x1⟩
 have z1 := x1.size
 have hx0 := hx.size
 have hx1 : ∀ {w' : aJ2}, aS w w' (fun y => y = hi ∨ pc <= y) -> aS w0 w' cM := fun h => hx.trans h fun b hb hh => by omega
 obtain ⟨m, rfl⟩ : ∃ m', m = m' + 1 := ⟨m - 1, by omega⟩
 rw [amD] at hr
 obtain ⟨av, cv, hv⟩ := ov.len
 unfold Dv Lm
 by_cases h0 : left = 0
 .have d1 : decide ((0 : Int) < (left : Int)) = false := by simp; omega
  rw [if_pos h0] at hr
  subst hv
  have lc := gH (off := 0) (dN oc1) (by simp)
  have lc' := gH (off := 0) oc1 (by simp)
  simp only [aHM, aHG, aHO] at lc lc'
  unfold CH
  simp (disch := omega) only [aC, dM, d1, eD, and_true, true_and, aA, lc, aE]
  refine (aB2 (hf1.ext (aS.dr w1 cM) (fun _ _ _ h => h) hlh) (by omega)).mono ?_
  rintro r w2 ⟨rfl, rfl⟩
  simp (disch := omega) only [lc, true_and]
  refine fB (dN o61) rfl (by simp [one]) (by simp) fun w6 o6 x6 s6 => ?_
  refine lI o6 (by simp [aV]) ?_
  simp only [aV, aHL, aHN, aHM, aHG, aHO]
  have x16 : aS w1 w6 (fun y => y = p6) := (aS.dr w1 _).seq x6
  have ov6 := ov.ext x16 (fun b hb h => by omega)
  refine hO ps st _ w6 hr.symm ⟨ov6.1, ?_⟩ ((hx1 x1).new x16 (by omega))
  rcases ov6.2 with h | ⟨b, c, rest, q1, q2, q3⟩
  .exact .inl h
  .exact .inr ⟨b, c, rest, q1, by omega, q3⟩
 .have d1 : decide ((0 : Int) < (left : Int)) = true := by simp; omega
  rw [if_neg h0] at hr
  simp (disch := omega) only [aC, dM, d1, aA, aF]
  unfold LR TZ LH
  refine (aFa hf1 hlh hst hl (by omega) hleft).mono ?_
  rintro r w2 ⟨hv2, x2⟩
  have x12 : aS w w2 (fun y => y = hi ∨ pc <= y) := x1.seq (x2.mono fun y _ h => .inl h)
  have o62 := o61.ext x2 (by omega)
  have oc2 := oc1.ext x2 (by omega)
  have ov2 := ov.ext x2 (fun b hb h => by omega)
  have z2 := x2.size
  cases hval : VB (bE l) st left with
  | none =>
    rw [hval] at hr hv2
    obtain rfl := hv2
    have n1 : ((10 : Int) != 0) = true := rfl
    simp (disch := omega) only [aC, B9, B7, dY, aA, bK, aHI, cL, eT, n1, aF]
    exact Ql (RR := RR) (e := 10) o62 (hx1 x12) hlp fun w' h => hE _ _ hr.symm h
  | some y =>
    obtain ⟨x, st1⟩ := y
    rw [hval] at hr hv2
    simp only at hr
    obtain ⟨rfl, hf2⟩ := hv2
    obtain ⟨b1, b2, b3⟩ := U1 hval (by omega)
    have n1 : ((0 : Int) != 0) = false := rfl
    simp (disch := omega) only [aC, B9, B7, dY, aA, bK, aHI, cL, eT, n1, aE, eA, aT, cR]
    refine (alY _ _).mono ?_
    rintro r w3 ⟨rfl, rfl⟩
    have c1 := oc2.cell (off := 1)
    simp only [aHJ, aHK] at c1
    have hpp : cW ((x : Int) - 1) <= left := by unfold cW; split <;> omega
    have hpn := lT (p := (x : Int) - 1) (by omega)
    obtain ⟨pq, hpq⟩ : ∃ pq : Nat, cW ((x : Int) - 1) = pq := ⟨(cW ((x : Int) - 1)).toNat, by omega⟩
    rw [hpq] at hr hpp ⊢
    rw [aHH] at hr
    have e1 : (left : Int) - (pq : Int) = ((left - pq : Nat) : Int) := by omega
    simp (disch := omega) only [eA, e1, aT, aA, c1, aI]
    refine wQ (cells := #[.int .i64 ((x : Int) - 1)]) (by decide) (by decide) (by kernel_rfl) fun w4 o4 x4 s4 => ?_
    have z4 := x4.size
    refine EV (m := 1) (news := [.int .i64 ((x : Int) - 1)]) (ov2.ext x4 (fun _ _ h => h)) (o4.cl (off := 0) (l := [.int .i64 ((x : Int) - 1)]) (n := 1) rfl (fun i hi => by rw [aHI])) (by simp [one]) (by omega) (by omega) fun v5 w5 o5 x5 => ?_
    have z5 := x5.size
    obtain ⟨av5, cv5, rfl⟩ := o5.len
    have oc5 := (oc2.ext x4 (fun h => h)).ext x5 (by omega)
    refine U5 oc5 rfl (by simp) fun w6 oc6 x6 s6 => ?_
    simp only [aHL, aHN] at oc6
    have z6 := x6.size
    have ov6 := o5.ext x6 (fun b hb h => by omega)
    have x26 : aS w3 w6 (fun y => pc <= y) := ((x4.mono fun _ _ h => h.elim).seq (x5.mono fun y _ h => by omega)).seq (x6.mono fun y _ h => by omega)
    have x16 : aS w w6 (fun y => y = hi ∨ pc <= y) := x12.seq (x26.mono fun y _ h => .inr h)
    have o66 := o62.ext x26 (by omega)
    have hf6 := hf2.ext x26 (fun b _ _ => by omega) hlh
    have hsz : pc < w6.heap.size := oc6.lt
    rw [show (ps.map (Value.int .i64) ++ [Value.int .i64 ((x : Int) - 1)]) = (ps ++ [(x : Int) - 1]).map (Value.int .i64) from by simp] at ov6
    have hwl : IntKind.i64.wrap (left : Int) = left := aT (by omega) (by omega)
    have tail : ∀ (ps' : List Int) (st' left' : Nat) (a : Option Addr) (cc : Nat) (w' : aJ2), (if sym < ps'.length then .error 11 else U7 (bE l) sym m st' left' ps') = res -> ps'.length <= 10000000 -> left' <= 32768 -> st < st' -> st' <= 8 * l.length →
        cJ w' p6 [.int .i64 0, .slice none 0 0] -> cJ w' pc [.int .i64 log, .slice a ps'.length cc] -> rN w' (pc + 1) 1 (.slice a ps'.length cc) ps'.length (ps'.map (Value.int .i64)) -> Fwd w' lo hi l st' -> aS w w' (fun y => y = hi ∨ pc <= y) →
        yQ (fun _ _ _ _ aU w'' => ∃ m', m' < m + 1 /\ ∃ (st left : Nat) (ps : List Int) (v : aJ3), aU = .int .i64 left /\ U7 (bE l) sym m' st left ps = res /\ (bE l).length < m' + st /\ st <= 8 * l.length /\ left <= 32768 /\ ps.length <= 1000000 /\
         cJ w'' p6 [.int .i64 0, .slice none 0 0] /\ cJ w'' pc [.int .i64 log, v] /\ rN w'' (pc + 1) 1 v ps.length (ps.map (Value.int .i64)) /\ Fwd w'' lo hi l st /\ aS w w'' (fun y => y = hi ∨ pc <= y)) RR
         (.int .i64 sym) (.pointer (some ⟨p6, 0, none⟩)) (.pointer (some ⟨hi, 0, none⟩)) (.pointer (some ⟨pc, 0, none⟩)) (.int .i64 left') w' := by
     intro ps' st' left' a cc w' q1 q2 q3 q4 q5 q6 q7 q8 q9 q10
     have c1 := q7.cell (off := 1)
     simp only [aHJ, aHK] at c1
     unfold yQ
     by_cases hgt : sym < ps'.length
     .have d1 : decide ((sym : Int) < (ps'.length : Int)) = true := by simp; omega
      rw [if_pos hgt] at q1
      simp (disch := omega) only [aC, bK, aHI, dY, aA, cL, c1, aI, eB, dM, d1, jE, bN, if_true, aF, dV]
      exact Ql (RR := RR) (e := 11) q6 (hx1 q10) hlp fun w' h => hE _ _ q1.symm h
     .have d1 : decide ((sym : Int) < (ps'.length : Int)) = false := by simp; omega
      have d2 : decide ((left' : Int) < 0) = false := by simp
      rw [if_neg hgt] at q1
      simp (disch := omega) only [aC, bK, aHI, dY, aA, cL, c1, aI, eB, dM, d1, dB, bN, aHP, if_false, bP, aX, d2, aE]
      exact ⟨m, by omega, st', left', ps', _, rfl, q1, by omega, q5, q3, by omega, q6, q7, q8, q9, q10⟩
    by_cases h1 : x = 1
    .subst h1
     have n2 : (((1 : Nat) : Int) - 1 == 0) = true := rfl
     obtain rfl : pq = 0 := by
      have : cW (((1 : Nat) : Int) - 1) = 0 := rfl
      omega
     rw [if_pos rfl] at hr
     simp (disch := omega) only [n2, aF]
     refine (aBZ hf6 hlh (by omega) hl).mono ?_
     rintro r w7 ⟨hv7, x7⟩
     have x17 : aS w w7 (fun y => y = hi ∨ pc <= y) := x16.seq (x7.mono fun y _ h => .inl h)
     have o67 := o66.ext x7 (by omega)
     have oc7 := oc6.ext x7 (by omega)
     have ov7 := ov6.ext x7 (fun b hb h => by omega)
     have z7 := x7.size
     cases hno : noR (bE l) ((bE l).length + 1) st1 with
     | none =>
       rw [hno] at hr hv7
       obtain rfl := hv7
       have n1 : ((10 : Int) != 0) = true := rfl
       simp (disch := omega) only [B9, B7, aA, eT, n1, aF]
       exact Ql (RR := RR) (e := 10) o67 (hx1 x17) hlp fun w' h => hE _ _ hr.symm h
     | some y =>
       obtain ⟨k, st2⟩ := y
       rw [hno] at hr hv7
       simp only at hr
       obtain ⟨rfl, hf7⟩ := hv7
       obtain ⟨k1, k2, k3⟩ := anC hno
       have n1 : ((0 : Int) != 0) = false := rfl
       by_cases hgt : sym < k
       .have d1 : decide ((sym : Int) < (k : Int)) = true := by simp; omega
        rw [if_pos (by omega)] at hr
        simp (disch := omega) only [B9, B7, aA, eT, n1, aE, dM, d1, aF]
        exact Ql (RR := RR) (e := 11) o67 (hx1 x17) hlp fun w' h => hE _ _ hr.symm h
       .have d1 : decide ((sym : Int) < (k : Int)) = false := by simp; omega
        have c7 := oc7.cell (off := 1)
        simp only [aHJ, aHK] at c7
        simp (disch := omega) only [B9, B7, aA, eT, n1, aE, dM, d1, c7, aI]
        refine aE3 (m := k) ov7 (by omega) (by omega) fun v8 w8 o8 x8 => ?_
        obtain ⟨av8, cv8, rfl⟩ := o8.len
        have z8 := x8.size
        refine U5 (oc7.ext x8 (by omega)) rfl (by simp) fun w9 oc9 x9 s9 => ?_
        simp only [aHL, aHN] at oc9
        have z9 := x9.size
        have x79 : aS w7 w9 (fun y => pc <= y) := (x8.mono fun y _ h => by omega).seq (x9.mono fun y _ h => by omega)
        have ov9 := o8.ext x9 (fun b hb h => by omega)
        have hlk : ps.length + 1 + k = (ps ++ 0 :: List.replicate k 0).length := by simp; omega
        have hmk : List.map (Value.int .i64) (ps ++ [((1 : Nat) : Int) - 1]) ++ List.replicate k (Value.int .i64 0) = (ps ++ 0 :: List.replicate k 0).map (Value.int .i64) := by simp
        rw [hmk, hlk] at ov9
        rw [hlk] at hr oc9
        refine tail _ st2 left _ _ w9 hr (by rw [<- hlk]; omega) hleft (by omega) (by omega) (o67.ext x79 (by omega)) oc9 ov9 (hf7.ext x79 (fun b _ _ => by omega) hlh) (x17.seq (x79.mono fun y _ h => .inr h))
    .have n2 : ((x : Int) - 1 == 0) = false := beq_eq_false_iff_ne.2 (by omega)
     rw [if_neg h1] at hr
     simp (disch := omega) only [n2, aE]
     rw [show ps.length + 1 = (ps ++ [(x : Int) - 1]).length from by simp] at hr ov6 oc6
     exact tail _ st1 _ _ _ w6 hr (by simp; omega) (by omega) b1 (by omega) o66 oc6 ov6 hf6 x16
theorem aAo {bv : aJ3} {l : List UInt8} {most : Int} {sym : Nat} {w : aJ2} (hb : Bs w bv l) (hl : l.length <= 1000000) (hsym : sym <= 1000000) :
 aR pg Fs #[bv, .int .i64 most, .int .i64 sym] w (fun r w' => abO w' w.heap.size (wF (bE l) most sym) r /\ aS w w' cM) := by
 refine acL ?_
 obtain ⟨RR, hRR⟩ : ∃ RR : aJ3 -> aJ2 -> Prop, RR = fun r w' => abO w' w.heap.size (wF (bE l) most sym) r /\ aS w w' cM := ⟨_, rfl⟩
 rw [<- hRR]
 have hbl := lV l
 unfold aiJ HK Is
 refine iT fun w1 o1 x1 s1 => ?_
 refine (atL (hb.ext x1 (cB _)) (by omega)).mono ?_
 rintro r w2 ⟨hi, rfl, hi1, hi2, hf2, x2⟩
 have z1 := x1.size
 have z2 := x2.size
 simp (disch := omega) only [aC, dY, aA]
 refine (U4 (n := 4) hf2 hi1 (by omega) (by omega) hl).mono ?_
 rintro r w3 (⟨hsh, rfl, hf3, x3⟩ | ⟨hsh, rfl, hf3, x3⟩)
 .have n1 : ((10 : Int) != 0) = true := rfl
  have hrl : wF (bE l) most sym = .error 10 := by unfold wF; rw [if_pos (by omega)]
  rw [hrl] at hRR
  simp (disch := omega) only [B9, B7, aA, eT, n1, aF]
  exact Ql (RR := RR) (e := 10) ((o1.ext x2 (fun h => h)).ext x3 (fun h => h)) ((x1.seq x2).seq x3) (aHS _) fun w' h => by rw [hRR]; exact ⟨rfl, h⟩
 .have n1 : ((0 : Int) != 0) = false := rfl
  have hnum : tD (((bE l).drop 0).take 4) = jB (bE l) 0 4 := rfl
  have hlt := CV (bE l) 0 4
  have hrl : wF (bE l) most sym = (if most < ((jB (bE l) 0 4 + 5 : Nat) : Int) ∨ 15 < jB (bE l) 0 4 + 5 then .error 12 else match U7 (bE l) sym ((bE l).length + 1) 4 (2 ^ (jB (bE l) 0 4 + 5)) [] with
   | .error e => .error e
   | .ok (ps, st) => .ok (jB (bE l) 0 4 + 5, ps, (st + 7) / 8)) := by unfold wF; rw [if_neg (by omega)] <;> rfl
  rw [hrl] at hRR
  rw [hnum]
  generalize jB (bE l) 0 4 = x at *
  have e1 : (x : Int) + 5 = ((x + 5 : Nat) : Int) := by omega
  have x03 : aS w w3 cM := (x1.seq x2).trans x3 fun b hb h => by omega
  have o13 := (o1.ext x2 (fun h => h)).ext x3 (by omega)
  simp (disch := omega) only [B9, B7, aA, eT, n1, aE, cZ, aT, bM, e1, BI]
  refine iT fun w4 o4 x4 s4 => ?_
  refine fB o4 rfl (by simp [one]) (by simp) fun w5 o5 x5 s5 => ?_
  simp only [aV, aHL, aHN] at o5
  have z3 := x3.size
  have z4 := x4.size
  have x05 : aS w w5 cM := (x03.seq x4).new x5 (by omega)
  have x35 : aS w3 w5 cM := x4.new x5 (by omega)
  have o15 := o13.ext x35 (fun h => h)
  have c5 := o5.cell (off := 0)
  simp only [aHJ, aHK] at c5
  by_cases hmo : most < ((x + 5 : Nat) : Int)
  .have d1 : decide (most < ((x + 5 : Nat) : Int)) = true := by simpa using hmo
   rw [if_pos (.inl hmo)] at hRR
   simp (disch := omega) only [dK, aA, cA, c5, aI, dM, d1, jE, bN, if_true, aF, dV]
   exact Ql (RR := RR) (e := 12) o15 x05 (aHS _) fun w' h => by rw [hRR]; exact ⟨rfl, h⟩
  have d1 : decide (most < ((x + 5 : Nat) : Int)) = false := by simpa using hmo
  by_cases h15 : 15 < x + 5
  .have d2 : decide ((15 : Int) < ((x + 5 : Nat) : Int)) = true := by simp; omega
   rw [if_pos (.inr h15)] at hRR
   simp (disch := omega) only [dK, aA, cA, c5, aI, dM, d1, dB, bN, aHP, if_false, bP, d2, mN, aHH, aF]
   exact Ql (RR := RR) (e := 12) o15 x05 (aHS _) fun w' h => by rw [hRR]; exact ⟨rfl, h⟩
  have d2 : decide ((15 : Int) < ((x + 5 : Nat) : Int)) = false := by simp; omega
  rw [if_neg (by omega)] at hRR
  have hsh := atZ (n := x + 5) (by omega)
  simp (disch := omega) only [dK, aA, cA, c5, aI, dM, d1, dB, bN, aHP, if_false, bP, d2, mN, aHH, hsh, aE]
  have hl5 := o5.lt
  refine aCl (l := l) (w0 := w) (log := x + 5) (res := U7 (bE l) sym ((bE l).length + 1) 4 (2 ^ (x + 5)) []) (lo := w1.heap.size) hi1 (aHS _) hl (by omega) (by omega) hsym (by omega) o15 o5 (hf3.ext x35 (fun _ _ _ h => h) hi1) (by omega) x05 rfl ?_ ?_
  .intro e w' he hx
   rw [hRR, he]
   exact ⟨rfl, hx⟩
  .intro ps st v w' he ho hx
   rw [hRR, he]
   exact ⟨⟨v, rfl, ho⟩, hx⟩
end Go.Proofs.YtaggdjhhmbnhoaaDoor
namespace Go.Pu
open Go Go.En
theorem aoR {L : List Bool} {most : Int} {sym log used : Nat} {ps : List Int} (h : wF L most sym = .ok (log, ps, used)) : (ps.length <= 256 -> Sk log ps) /\ (log : Int) <= most /\ ps.length <= sym := by
 unfold wF at h
 split at h
 .cases h
 .simp only at h
  split at h
  .cases h
  .rename_i h1 h2
   have hpow : ((2 ^ (jB L 0 4 + 5) : Nat) : Int) = (2 : Int) ^ (jB L 0 4 + 5) := by simp
   have hp := aIj (jB L 0 4 + 5)
   cases hr : U7 L sym (L.length + 1) 4 (2 ^ (jB L 0 4 + 5)) [] with
   | error e => rw [hr] at h; cases h
   | ok x =>
     obtain ⟨p, st⟩ := x
     rw [hr] at h
     cases h
     have e0 : rR [] = 0 := rfl
     obtain ⟨q1, q2, q3, q4, q5⟩ := adZ (tot := (2 : Int) ^ (jB L 0 4 + 5)) hr (by simp) (by rw [e0, hpow]; omega) (fun h => by omega)
     exact ⟨fun hs => ⟨by omega, by omega, q5, hs, q4, q1, q2⟩, by omega, q3⟩
theorem asZ {L : List Bool} {sym : Nat} {e : Int} : ∀ {f st left : Nat} {ps : List Int}, U7 L sym f st left ps = .error e -> e = 10 ∨ e = 11
 | 0, st, left, ps, h => by cases h; exact .inl rfl
 | f + 1, st, left, ps, h => by
   rw [U7] at h
   split at h
   .cases h
   .split at h
    .cases h; exact .inl rfl
    .split at h
     .split at h
      .cases h; exact .inl rfl
      .split at h
       .cases h; exact .inr rfl
       .exact asZ h
     .split at h
      .cases h; exact .inr rfl
      .exact asZ h
theorem aeL {L : List Bool} {most : Int} {sym : Nat} {e : Int} (h : wF L most sym = .error e) : e ≠ 0 := by
 unfold wF at h
 split at h
 .cases h; decide
 .simp only at h
  split at h
  .cases h; decide
  .split at h
   .rename_i hr
    cases h
    rcases asZ hr with h | h <;> omega
   .cases h
theorem anH {L : List Bool} {sym : Nat} {out : List Int} {stE : Nat} : ∀ {f st left : Nat} {ps : List Int}, U7 L sym f st left ps = .ok (out, stE) -> st <= L.length -> stE <= L.length
 | 0, st, left, ps, h, _ => by cases h
 | f + 1, st, left, ps, h, hst => by
   rw [U7] at h
   split at h
   .cases h; exact hst
   .rename_i h0
    cases hv : VB L st left with
    | none => rw [hv] at h; cases h
    | some x =>
      obtain ⟨v, st1⟩ := x
      obtain ⟨v1, v2, v3⟩ := U1 hv (by omega)
      rw [hv] at h
      simp only at h
      split at h
      .cases hn : noR L (L.length + 1) st1 with
       | none => rw [hn] at h; cases h
       | some y =>
         obtain ⟨k, st2⟩ := y
         rw [hn] at h
         simp only at h
         split at h
         .cases h
         .exact anH h (anC hn).2.1
      .split at h
       .cases h
       .exact anH h v2
theorem anT {L : List Bool} {most : Int} {sym log used : Nat} {ps : List Int} (h : wF L most sym = .ok (log, ps, used)) : 8 * used <= L.length + 7 := by
 unfold wF at h
 split at h
 .cases h
 .simp only at h
  split at h
  .cases h
  .cases hr : U7 L sym (L.length + 1) 4 (2 ^ (jB L 0 4 + 5)) [] with
   | error e => rw [hr] at h; cases h
   | ok x =>
     obtain ⟨p, st⟩ := x
     rw [hr] at h
     cases h
     have := anH hr (by omega)
     omega
end Go.Pu
namespace Go.Proofs.YtaggdjhhmbnhoaaDoor
open Go Go.En Go.Pu
set_option maxRecDepth 4000
def GF (w : aJ2) (base : Nat) (T : Nat × List T3) (v : aJ3) : Prop := (T = (0, []) /\ v = .agg #[.int .i64 0, .slice none 0 0]) ∨ ∃ b, Tbl w base b T.1 T.2 v
theorem GF.nil (w : aJ2) (base : Nat) : GF w base (0, []) (.agg #[.int .i64 0, .slice none 0 0]) := .inl ⟨rfl, rfl⟩
theorem GF.form {w : aJ2} {base : Nat} {T : Nat × List T3} {v : aJ3} (h : GF w base T v) : ∃ a, v = .agg #[.int .i64 T.1, .slice a T.2.length T.2.length] := by
 rcases h with ⟨rfl, rfl⟩ | ⟨b, rfl, _⟩
 .exact ⟨_, rfl⟩
 .exact ⟨_, rfl⟩
theorem GF.ext {w w' : aJ2} {base : Nat} {T : Nat × List T3} {v : aJ3} {M : Nat -> Prop} (h : GF w base T v) (x : aS w w' M) (hM : ∀ b, base <= b -> b < w.heap.size -> ¬ M b) : GF w' base T v := by
 rcases h with h | ⟨b, h⟩
 .exact .inl h
 .have hb := h.2.1
  have hl := h.2.2.lt
  exact .inr ⟨b, h.ext x (hM b hb hl)⟩
theorem GF.lower {w : aJ2} {base base' : Nat} {T : Nat × List T3} {v : aJ3} (h : GF w base T v) (hb : base' <= base) : GF w base' T v := by
 rcases h with h | ⟨b, h1, h2, h3⟩
 .exact .inl h
 .exact .inr ⟨b, h1, by omega, h3⟩
def aBR (w : aJ2) (base : Nat) (o : Except Int ((Nat × List T3) × Nat)) (r : aJ3) : Prop := match o with
 | .error e => r = .tuple #[.agg #[.int .i64 0, .slice none 0 0], .int .i64 0, .int .i64 e]
 | .ok (T, n) => ∃ t, r = .tuple #[t, .int .i64 n, .int .i64 0] /\ GF w base T t
def gG (a mode : Int) (l : List UInt8) (old : Nat × List T3) : Except Int ((Nat × List T3) × Nat) :=
 if a < 0 ∨ 2 < a ∨ mode < 0 ∨ 3 < mode then .error 1
 else if mode = 0 then .ok ((Za a, kD (Za a) (gvP a)), 0)
 else if mode = 1 then match l with
  | [] => .error 10
  | x :: _ => if mW a < (x.toNat : Int) then .error 11 else .ok ((0, [((x.toNat : Nat), 0, 0)]), 1)
 else if mode = 3 then if old.2 = [] then .error 11 else .ok (old, 0)
 else match wF (bE l) (Dg a) (mW a + 1).toNat with
  | .error e => .error e
  | .ok (lg, ps, u) => .ok ((lg, kD lg ps), u)
theorem LB {p : Nat} {w0 w : aJ2} {x : Int} {a : Option Addr} {k c : Nat} {n e : aJ3} (o : cJ w p [.int .i64 0, .slice none 0 0]) (hx : aS w0 w cM) (hp : w0.heap.size <= p) {RR : aJ3 -> aJ2 -> Prop}
 (hR : ∀ w', aS w0 w' cM -> aS w w' (fun y => y = p) -> RR (.tuple #[.agg #[.int .i64 x, .slice a k c], n, e]) w') :
 aC pg (aJ 27 (.pointer (some ⟨p, 0, none⟩)) (.agg #[.int .i64 x, .slice a k c])) w fun _u w => kI pg 27 (.pointer (some ⟨p, 0, none⟩)) w fun r0 => RR (.tuple #[r0, n, e]) w := by
 refine eJ o rfl (by simp [one]) (by simp) fun w6 o6 x6 s6 => ?_
 refine qE o6 (by simp [aV]) ?_
 simp only [aV, aHL, aHN, aHM, aHG, aHO]
 exact hR _ (hx.new x6 hp) x6
theorem KW {a : Int} (h : 0 <= a /\ a <= 2) : 28 <= mW a /\ mW a <= 60 := by
 unfold mW
 split
 .omega
 .split
  .omega
  .rw [if_pos (by omega)]; omega
theorem aoD {a : Int} (h : ¬ (0 <= a /\ a <= 2)) : mW a = -1 := by
 unfold mW
 rw [if_neg (by omega), if_neg (by omega), if_neg (by omega)]
theorem aAR {a mode : Int} {bv ov : aJ3} {l : List UInt8} {T : Nat × List T3} {base : Nat} {w : aJ2} (hg : tR w) (hb : Bs w bv l) (hl : mode = 2 -> l.length <= 1000000) (ho : GF w base T ov) (hbase : base <= w.heap.size) (hlb : l.length <= 9223372036854775807) (hT : T.2.length <= 1000000) :
 aR pg AI #[.int .i64 a, .int .i64 mode, bv, ov] w (fun r w' => aBR w' base (gG a mode l T) r /\ aS w w' cM) := by
 refine agP ?_
 obtain ⟨RR, hRR⟩ : ∃ RR : aJ3 -> aJ2 -> Prop, RR = fun r w' => aBR w' base (gG a mode l T) r /\ aS w w' cM := ⟨_, rfl⟩
 rw [<- hRR]
 obtain ⟨oa, rfl⟩ := ho.form
 obtain ⟨ba, bc, rfl, _⟩ := hb.len
 rw [aHU] at hb
 rw [aHU]
 unfold aiN J5
 refine fV fun w1 o1 x1 s1 => ?_
 simp only [Value.cells] at o1
 refine iP fun w2 o2 x2 s2 => ?_
 have x12 := x1.seq x2
 have z2 := x12.size
 refine (atU (hg.ext x12)).mono ?_
 rintro r w3 ⟨rfl, x3⟩
 have o1 := (o1.ext x2 (fun h => h)).ext x3 (fun h => h)
 have o2 := o2.ext x3 (fun h => h)
 have x13 := x12.seq x3
 have z3 := x3.size
 have hg3 := hg.ext x13
 have err : ∀ {e : Int} {w' : aJ2}, gG a mode l T = .error e -> aS w w' cM -> RR (.tuple #[.agg #[.int .i64 0, .slice none 0 0], .int .i64 0, .int .i64 e]) w' := fun h x => by
  rw [hRR]; refine ⟨?_, x⟩; rw [h] <;> rfl
 have good : ∀ {T' : Nat × List T3} {n : Nat} {w' : aJ2} {t : aJ3}, gG a mode l T = .ok (T', n) -> GF w' base T' t -> aS w w' cM -> RR (.tuple #[t, .int .i64 n, .int .i64 0]) w' := fun h ht x => by
  rw [hRR]; refine ⟨?_, x⟩; rw [h]; exact ⟨_, rfl, ht⟩
 by_cases ha : 0 <= a /\ a <= 2
 rotate_left
 .have d1 : decide (mW a < 0) = true := by rw [aoD ha] <;> rfl
  have hE : gG a mode l T = .error 1 := by unfold gG; rw [if_pos (by omega)]
  simp (disch := omega) only [aC, aX, d1, fJ, aA, cR, gB, bZ, aHI, dU, bM, jE, bN, if_true, aF, dV]
  exact LB o2 x13 (by omega) fun w' x _ => err hE x
 obtain ⟨hl1, hl2⟩ := KW ha
 have d1 : decide (mW a < 0) = false := by simp; omega
 by_cases hm0 : mode < 0
 .have d2 : decide (mode < 0) = true := by simp; omega
  have hE : gG a mode l T = .error 1 := by unfold gG; rw [if_pos (by omega)]
  simp (disch := omega) only [aC, aX, d1, fJ, aA, cR, gB, bZ, aHI, dU, bM, aT, dB, bN, aHP, if_false, bP, d2, jE, if_true, aF, dV]
  exact LB o2 x13 (by omega) fun w' x _ => err hE x
 have d2 : decide (mode < 0) = false := by simp; omega
 by_cases hm3 : 3 < mode
 .have d3 : decide (3 < mode) = true := by simp; omega
  have hE : gG a mode l T = .error 1 := by unfold gG; rw [if_pos (by omega)]
  simp (disch := omega) only [aC, aX, d1, fJ, aA, cR, gB, bZ, aHI, dU, bM, aT, dB, bN, aHP, if_false, bP, d2, dM, d3, aF]
  exact LB o2 x13 (by omega) fun w' x _ => err hE x
 have d3 : decide (3 < mode) = false := by simp; omega
 have hno : ¬ (a < 0 ∨ 2 < a ∨ mode < 0 ∨ 3 < mode) := by omega
 by_cases m0 : mode = 0
 .subst m0
  have n1 : ((0 : Int) == 0) = true := rfl
  have hE : gG a 0 l T = .ok ((Za a, kD (Za a) (gvP a)), 0) := by unfold gG; rw [if_neg hno, if_pos rfl]
  simp (disch := omega) only [aC, aX, d1, fJ, aA, cR, n1, gB, bZ, aHI, dU, bM, aT, aF, dB, bN, aHP, if_false, bP, d2, dM, d3, aE]
  refine (aBr hg3).mono ?_
  rintro r w4 ⟨t, e, rfl, ht, x4⟩
  unfold OX wE at ht
  rw [if_pos (by omega)] at ht
  obtain ⟨⟨b, ht, hb1, ob⟩, rfl⟩ := ht
  subst ht
  have z4 := x4.size
  simp (disch := omega) only [B9, B7, aA]
  refine iP fun w5 o5 x5 s5 => ?_
  refine eJ o5 rfl (by simp [one]) (by simp) fun w6 o6 x6 s6 => ?_
  have l1 := gL (off := 0) o6 (by simp [aV])
  simp only [aV, aHL, aHN, aHM, aHG, aHO] at l1
  have hbl := ob.lt
  simp (disch := omega) only [l1, aA]
  have x46 : aS w3 w6 cM := x4.seq (x5.new x6 (aHS _))
  refine LB (o2.ext x46 (fun h => h)) (x13.seq x46) (by omega) fun w' x x7 => good hE (.inr ⟨b, rfl, by omega, ?_⟩) x
  exact ((ob.ext x5 (fun h => h)).ext x6 (by omega)).ext x7 (by omega)
 have n1 : (mode == 0) = false := beq_eq_false_iff_ne.2 m0
 by_cases m1 : mode = 1
 .subst m1
  have n2 : ((1 : Int) == 1) = true := rfl
  cases l with
  | nil =>
    have hE : gG a 1 [] T = .error 10 := by unfold gG; rw [if_neg hno, if_neg (by omega), if_pos rfl]
    have n3 : ((0 : Int) == 0) = true := rfl
    have e0 : ((([] : List UInt8).length : Nat) : Int) = 0 := rfl
    simp (disch := omega) only [aC, aX, d1, fJ, aA, cR, n1, n2, gB, e0, n3, aF, bZ, aHI, dU, bM, aT, aE, dB, bN, aHP, if_false, bP, d2, dM, d3]
    exact LB o2 x13 (by omega) fun w' x _ => err hE x
  | cons y l =>
    have n3 : ((((y :: l).length : Nat) : Int) == 0) = false := by simp; omega
    obtain ⟨b, off, c, hv, _, hcell⟩ := (hb.ext x13 (cB _)).openV (by simp)
    have g1 := hcell 0 (by simp)
    simp only [aJh, aJj, aIB] at g1
    simp only [aHU, Value.slice.injEq] at hv
    obtain ⟨rfl, _, rfl⟩ := hv
    have t0 : (0 : Int).toNat = 0 := rfl
    have g0 : (w3.cell? ⟨b, off, none⟩) = some (.int .u8 (y.toNat : Nat)) := g1
    have hy := y.toNat_lt
    have hpos : (0 : Int) < ((y :: l).length : Nat) := by rw [aH5]; omega
    by_cases hyl : mW a < (y.toNat : Int)
    .have d4 : decide (mW a < (y.toNat : Int)) = true := by simpa using hyl
     have hE : gG a 1 (y :: l) T = .error 11 := by unfold gG; rw [if_neg hno, if_neg (by omega), if_pos rfl]; exact if_pos hyl
     simp (disch := omega) only [aC, aX, d1, fJ, aA, cR, n1, n2, gB, oU, t0, aIB, mU, n3, aE, bZ, aHI, dU, bM, aT, aF, dB, bN, aHP, if_false, bP, d2, dM, d3, g0, aI, nY, d4]
     exact LB o2 x13 (by omega) fun w' x _ => err hE x
    .have d4 : decide (mW a < (y.toNat : Int)) = false := by simpa using hyl
     have hE : gG a 1 (y :: l) T = .ok ((0, [((y.toNat : Nat), 0, 0)]), 1) := by unfold gG; rw [if_neg hno, if_neg (by omega), if_pos rfl]; exact if_neg hyl
     simp (disch := omega) only [aC, aX, d1, fJ, aA, cR, n1, n2, gB, oU, t0, aIB, mU, n3, aE, bZ, aHI, dU, bM, aT, aF, dB, bN, aHP, if_false, bP, d2, dM, d3, g0, aI, nY, d4]
     refine (aAN (y.toNat : Nat) _).mono ?_
     rintro r w4 ⟨b, ⟨rfl, hb1, ob⟩, x4⟩
     have z4 := x4.size
     have hbl := ob.lt
     refine LB (o2.ext x4 (fun h => h)) (x13.seq x4) (by omega) fun w' x x7 => good hE (.inr ⟨b, rfl, by omega, ?_⟩) x
     exact ob.ext x7 (by omega)
 have n2 : (mode == 1) = false := beq_eq_false_iff_ne.2 m1
 by_cases m3 : mode = 3
 .subst m3
  have n3 : ((3 : Int) == 3) = true := rfl
  have c1 := o1.cell (off := 1)
  simp only [aHJ, aHK] at c1
  have l1 := gL (off := 0) o1 (by simp)
  simp only [aHM, aHG, aHO] at l1
  by_cases h0 : T.2 = []
  .have n4 : (((T.2.length : Nat) : Int) == 0) = true := by rw [h0] <;> rfl
   have hE : gG a 3 l T = .error 11 := by unfold gG; rw [if_neg hno, if_neg (by omega), if_neg (by omega), if_pos rfl, if_pos h0]
   simp (disch := omega) only [aC, aX, d1, fJ, aA, cR, n1, n2, gB, n3, bZ, aHI, dU, bM, aT, aF, aE, dB, bN, aHP, if_false, bP, d2, dM, d3, c1, aI, iA, n4]
   exact LB o2 x13 (by omega) fun w' x _ => err hE x
  .have n4 : (((T.2.length : Nat) : Int) == 0) = false := by
    have := aII.2 h0
    simp; exact h0
   have hE : gG a 3 l T = .ok (T, 0) := by unfold gG; rw [if_neg hno, if_neg (by omega), if_neg (by omega), if_pos rfl, if_neg h0]
   simp (disch := omega) only [aC, aX, d1, fJ, aA, cR, n1, n2, gB, n3, bZ, aHI, dU, bM, aT, aF, aE, dB, bN, aHP, if_false, bP, d2, dM, d3, c1, aI, iA, n4, l1]
   refine LB o2 x13 (by omega) fun w' x x7 => good hE ?_ x
   rcases ho with ⟨e, _⟩ | ⟨b, e, hb1, ob⟩
   .rw [e] at h0; exact absurd rfl h0
   .have hbl := ob.lt
    exact .inr ⟨b, e, hb1, (ob.ext x13 (fun h => h)).ext x7 (by omega)⟩
 have n3 : (mode == 3) = false := beq_eq_false_iff_ne.2 m3
 have m2 : mode = 2 := by omega
 have hl2 := hl m2
 simp (disch := omega) only [aC, aX, d1, fJ, aA, cR, n1, n2, gB, n3, bZ, aHI, dU, bM, aT, aE, dB, bN, aHP, if_false, bP, d2, dM, d3]
 refine (auA a _).mono ?_
 rintro r w4 ⟨rfl, hw⟩
 rw [hw]
 clear hw w4
 have e1 : mW a + 1 = ((mW a + 1).toNat : Int) := by omega
 rw [e1]
 refine (aAo (hb.ext x13 (cB _)) hl2 (by omega)).mono ?_
 rintro r w4 ⟨hr, x4⟩
 have z4 := x4.size
 have hsym : (mW a + 1).toNat <= 61 := by omega
 have hE0 : gG a mode l T = match wF (bE l) (Dg a) (mW a + 1).toNat with
  | .error e => .error e
  | .ok (lg, ps, u) => .ok ((lg, kD lg ps), u) := by unfold gG; rw [if_neg hno, if_neg m0, if_neg m1, if_neg m3]
 cases hrl : wF (bE l) (Dg a) (mW a + 1).toNat with
 | error e =>
   rw [hrl] at hr hE0
   have hr : r = _ := hr
   subst hr
   have he := aeL hrl
   have n4 : (e != 0) = true := by simpa using he
   have hE : gG a mode l T = .error e := hE0
   simp (disch := omega) only [RQ, Sd, RN, aA, eT]
   refine iT fun w5 o5 x5 s5 => ?_
   refine fB o5 rfl (by simp [one]) (by simp) fun w6 o6 x6 s6 => ?_
   simp (disch := omega) only [n4, aF]
   have x46 : aS w3 w6 cM := x4.seq (x5.new x6 (aHS _))
   exact LB (o2.ext x46 (fun h => h)) (x13.seq x46) (by omega) fun w' x _ => err hE x
 | ok y =>
   obtain ⟨lg, ps, u⟩ := y
   rw [hrl] at hr hE0
   obtain ⟨v, rfl, hv⟩ := hr
   obtain ⟨hmay, hlg, hpl⟩ := aoR hrl
   have hm := hmay (by omega)
   have hE : gG a mode l T = .ok ((lg, kD lg ps), u) := hE0
   obtain ⟨va, vc, rfl⟩ := hv.len
   have hs := hv.sl
   have n4 : ((0 : Int) != 0) = false := rfl
   simp (disch := omega) only [RQ, Sd, RN, aA, eT]
   refine iT fun w5 o5 x5 s5 => ?_
   refine fB o5 rfl (by simp [one]) (by simp) fun w6 o6 x6 s6 => ?_
   have l1 := gH (off := 0) o6 (by simp [aV])
   simp only [aV, aHL, aHN, aHM, aHG, aHO] at l1
   have x46 : aS w4 w6 cM := x5.new x6 (aHS _)
   have z6 := x46.size
   simp (disch := omega) only [n4, l1, aA, aE]
   refine (alW hm (hs.ext x46 (cB _))).mono ?_
   rintro r w7 ⟨b, t, rfl, ⟨rfl, hb1, ob⟩, x7⟩
   have z7 := x7.size
   have hbl := ob.lt
   simp (disch := omega) only [B9, B7, aA, eT]
   refine iP fun w8 o8 x8 s8 => ?_
   refine eJ o8 rfl (by simp [one]) (by simp) fun w9 o9 x9 s9 => ?_
   have l2 := gL (off := 0) o9 (by simp [aV])
   simp only [aV, aHL, aHN, aHM, aHG, aHO] at l2
   simp (disch := omega) only [n4, l2, aA, aE]
   have x49 : aS w3 w9 cM := ((x4.seq x46).seq x7).seq (x8.new x9 (aHS _))
   refine LB (o2.ext x49 (fun h => h)) (x13.seq x49) (by omega) fun w' x x10 => good hE (.inr ⟨b, rfl, by omega, ?_⟩) x
   exact ((ob.ext x8 (fun h => h)).ext x9 (by omega)).ext x10 (by omega)
theorem aBA {log k : Nat} (h15 : log <= 15) (hk1 : 1 <= k) (hk2 : k < 2 ^ (log + 1)) {w0 w : aJ2} {p1 : Nat} {sv t2 n5 t6 seen i15 : aJ3} (o1 : cJ w p1 [.int .i64 log, sv])
 {k12 : aJ3 -> aJ3 -> aJ3 -> aJ3 -> aJ3 -> aJ3 -> aJ3 -> aJ3 -> aJ2 -> Prop}
 (hR : k12 (.pointer (some ⟨p1, 0, none⟩)) t2 n5 t6 seen i15 (.int .i64 k) (.int .i64 ((log + 1 - bl k : Nat) : Int)) w) :
 CM k12 (.pointer (some ⟨p1, 0, none⟩)) t2 n5 t6 seen i15 (.int .i64 k) (.int .i64 log) w := by
 have hb1 := Hx (k := k) (by omega)
 have hb2 := rE hk2
 have hlt := V0 k
 have hle := Tx (k := k) (by omega)
 have c0 := o1.cell (off := 0)
 simp only [aHJ] at c0
 unfold CM
 refine cG.rule (fun m t w' => ∃ q : Nat, m = log - q /\ t = .int .i64 ((log - q : Nat) : Int) /\ q + 1 <= bl k /\ w' = w) log ⟨0, rfl, rfl, by omega, rfl⟩ ?_
 rintro m t w' ⟨q, rfl, rfl, hq, rfl⟩
 have e1 : (log : Int) - ((log - q : Nat) : Int) + 1 = ((q + 1 : Nat) : Int) := by omega
 have hw : IntKind.i64.wrap ((log : Int) - ((log - q : Nat) : Int)) = (log : Int) - ((log - q : Nat) : Int) := aT (by omega) (by omega)
 unfold Dn
 simp (disch := omega) only [aC, cQ, eA, aT, aA, cA, c0, aI, hw, bM, e1]
 refine (U2 (q + 1) (by omega) _).mono ?_
 rintro r w1 ⟨rfl, rfl⟩
 have hpw : ((2 ^ (q + 1) : Nat) : Int) = (2 : Int) ^ (q + 1) := by simp
 rw [<- hpw]
 by_cases hc : 2 ^ (q + 1) <= k
 .have d1 : decide (((2 ^ (q + 1) : Nat) : Int) <= (k : Int)) = true := by simp only [decide_eq_true_eq]; omega
  have hq2 : q + 2 <= bl k := by
   rcases aH6 (q + 1) (bl k) with h | h
   .exact h
   .have : bl k = q + 1 := by omega
    rw [this] at hlt; omega
  simp (disch := omega) only [avG, d1, aA, and_true, aF]
  exact ⟨log - (q + 1), by omega, q + 1, rfl, by congr 1; omega, hq2⟩
 .have d1 : decide (((2 ^ (q + 1) : Nat) : Int) <= (k : Int)) = false := by simp only [decide_eq_false_iff_not]; omega
  have : bl k = q + 1 := by
   have := rE (k := k) (n := q + 1) (by omega)
   omega
  rw [this, show log + 1 - (q + 1) = log - q from by omega] at hR
  simp (disch := omega) only [avG, d1, aA, and_true, aE]
  exact hR
theorem aBu {N high j : Nat} (hN : 0 < N) (hN2 : N <= 32768) (hh : 0 < high) (hhN : high <= N) {w : aJ2} {c1 t2 t6 s k : aJ3}
 {k8 : aJ3 -> aJ3 -> aJ3 -> aJ3 -> aJ3 -> aJ3 -> aJ3 -> aJ3 -> aJ2 -> Prop}
 (hR : k8 c1 t2 (.int .i64 N) t6 (.int .i64 ((high : Int) - 1)) (.int .i64 (Yw N high N (pos N j) : Nat)) s k w) :
 A0 k8 c1 t2 (.int .i64 N) t6 (.int .i64 ((high : Int) - 1)) (.int .i64 (pos N j : Nat)) s k (.int .i64 0) w := by
 obtain ⟨d, h1, h2, h3⟩ := UY hN hh j
 have hd : d < N := by
  obtain ⟨D, hD, h0⟩ := aA1 N j hN
  rcases aH6 d N with h | h
  .exact h
  .have := h1 D (by omega)
   omega
 rw [h3] at hR
 unfold A0
 refine cG.rule (fun m t w' => ∃ q : Nat, m = d - q /\ t = (.int .i64 (pos N (j + q) : Nat), .int .i64 q) /\ q <= d /\ w' = w) d ⟨0, rfl, rfl, by omega, rfl⟩ ?_
 rintro m t w' ⟨q, rfl, rfl, hq, rfl⟩
 have hp := anW hN (j + q)
 have d1 : decide ((q : Int) < (N : Int)) = true := by simp only [decide_eq_true_eq]; omega
 have e1 : (N : Int).tdiv 2 = ((N / 2 : Nat) : Int) := by rw [aId (by omega)]; omega
 have e3 : (N : Int).tdiv 8 = ((N / 8 : Nat) : Int) := by rw [aId (by omega)]; omega
 have e4 : (((pos N (j + q) : Nat) : Int) + ((N / 2 : Nat) : Int) + ((N / 8 : Nat) : Int) + 3).tmod (N : Int) = ((pos N (j + q + 1) : Nat) : Int) := by
  rw [aIa (by omega), <- Je]
  unfold adv
  simp
 unfold AW
 by_cases hqd : q < d
 .have := h1 q hqd
  have d2 : decide ((high : Int) - 1 < ((pos N (j + q) : Nat) : Int)) = true := by simp only [decide_eq_true_eq]; omega
  simp (disch := omega) only [aC, aX, d1, Ee, e1, aT, e3, bM, aA, CA, e4, sX, bN, if_true, bP, dM, d2, and_true, aF]
  exact ⟨d - (q + 1), by omega, q + 1, rfl, rfl, by omega⟩
 .have : q = d := by omega
  subst this
  have d2 : decide ((high : Int) - 1 < ((pos N (j + q) : Nat) : Int)) = false := by simp only [decide_eq_false_iff_not]; omega
  simp (disch := omega) only [aC, aX, d1, Ee, aT, bM, aA, CA, sX, bN, if_true, bP, dM, d2, and_true, aE]
  exact hR
theorem arQ {k : IntKind} {L : List Int} {rest : List aJ3} {i : Nat} (h : i < L.length) (x : Int) : (fe k (m3 L) ++ rest).set (i * 3) (.int k x) = fe k (m3 (L.set i x)) ++ rest := by
 rw [aJf _ _ (by rw [kX]; simp [m3]; omega), apP h]
theorem aCt {log N high cc p1 p6 b : Nat} {ps : List Int} {sv t2 : aJ3} {arr arr' : List Int} {rest : List aJ3} {w0 w : aJ2} (hm : Sk log ps) (hs : Sl w0 sv (ps.map (Value.int .i64))) (hx : aS w0 w cM)
 (hN2 : N <= 32768) (hcc : N <= cc) (harr : arr.length = N) (hng : (rX ps 0).length <= N) (ht : XJ ps 0 N arr = (high, arr')) (hlo : w0.heap.size <= b) (hne : p1 ≠ b /\ p6 ≠ b)
 (o1 : cJ w p1 [.int .i64 log, sv]) (o6 : cJ w p6 [.int .i64 log, .slice (some ⟨b, 0, none⟩) N cc]) (ob : cJ w b (fe .i64 (m3 arr) ++ rest))
 {k2 : aJ3 -> aJ3 -> aJ3 -> aJ3 -> aJ3 -> aJ2 -> Prop}
 (hR : ∀ w', cJ w' b (fe .i64 (m3 arr') ++ rest) -> aS w w' (fun y => y = b) -> k2 (.pointer (some ⟨p1, 0, none⟩)) t2 (.int .i64 N) (.pointer (some ⟨p6, 0, none⟩)) (.int .i64 ((high : Int) - 1)) w') :
 Bk k2 (.pointer (some ⟨p1, 0, none⟩)) t2 (.int .i64 N) (.pointer (some ⟨p6, 0, none⟩)) (.int .i64 ((N : Int) - 1)) (.int .i64 0) w := by
 have hlen := hm.len256
 obtain ⟨a, c, rfl, hc⟩ := hs.lenI
 unfold Bk
 refine cG.rule (fun m t w' => ∃ (i hg : Nat) (ar : List Int), m = ps.length - i /\ t = (.int .i64 ((hg : Int) - 1), .int .i64 i) /\ i <= ps.length /\ (rX (ps.drop i) i).length <= hg /\ hg <= N /\ ar.length = N /\ XJ (ps.drop i) i hg ar = (high, arr') /\ cJ w' b (fe .i64 (m3 ar) ++ rest) /\ aS w w' (fun y => y = b)) ps.length
  ⟨0, N, arr, rfl, rfl, by omega, by rw [aHM]; exact hng, by omega, harr, by rw [aHM]; exact ht, ob, aS.refl _ _⟩ ?_
 rintro m t w3 ⟨i, hg, ar, rfl, rfl, hi, hng, hgN, harr, htop, o3, x3⟩
 have c1 := (o1.ext x3 hne.1).cell (off := 1)
 have c6 := (o6.ext x3 hne.2).cell (off := 1)
 simp only [aHJ, aHK] at c1 c6
 unfold Bo He
 by_cases hlt : i < ps.length
 .have d1 : decide ((i : Int) < (ps.length : Int)) = true := by simp; omega
  obtain ⟨b', off', c', e, _, hcell⟩ := (hs.ext (hx.new x3 hlo) (cB _)).openI (by omega)
  cases e
  have g1 := hcell i hlt
  have hd : ps.drop i = ps[i] :: ps.drop (i + 1) := aIh hlt
  have hlow := hm.low _ (aH1 hlt)
  rw [hd, rX] at hng
  rw [hd, XJ] at htop
  by_cases hp : ps[i] = -1
  .have d2 : decide (ps[i] < 0) = true := by simp; omega
   rw [if_pos hp] at hng htop
   simp only [aH5] at hng
   have e1 : (hg : Int) - 1 = ((hg - 1 : Nat) : Int) := by omega
   have e2 : IntKind.i64.wrap (((hg - 1 : Nat) : Int) - 1) = ((hg - 1 : Nat) : Int) - 1 := aT (by omega) (by omega)
   rw [e1]
   simp (disch := omega) only [aC, aY, aHI, bR, eA, aT, aA, bO, cL, c1, aI, eB, aX, d1, dJ, aHH, cA, g1, d2, c6, fN, iK, aF]
   refine tA o3 rfl (by rw [aHR, kX]; simp [m3]; omega) fun w4 o4 x4 s4 => ?_
   rw [arQ (by omega)] at o4
   unfold wB
   simp (disch := omega) only [aC, bM, aT, aA]
   exact ⟨ps.length - (i + 1), by omega, i + 1, hg - 1, _, rfl, rfl, by omega, by omega, by omega, by simp [harr], htop, o4, x3.trans x4 (fun _ _ h => h)⟩
  .have d2 : decide (ps[i] < 0) = false := by simp; omega
   rw [if_neg hp] at hng htop
   unfold wB
   simp (disch := omega) only [aC, aY, aHI, bR, eA, aT, bM, aA, bO, cL, c1, aI, eB, aX, d1, dJ, aHH, cA, g1, d2, c6, aE, aF]
   exact ⟨ps.length - (i + 1), by omega, i + 1, hg, ar, rfl, rfl, by omega, by omega, by omega, harr, htop, o3, x3⟩
 .have d1 : decide ((i : Int) < (ps.length : Int)) = false := by simp; omega
  rw [aIQ (by omega), XJ] at htop
  obtain ⟨rfl, rfl⟩ : hg = high /\ ar = arr' := by simpa using htop
  simp (disch := omega) only [aC, aY, aHI, bR, eA, aT, aA, bO, cL, c1, aI, eB, aX, d1, aE]
  exact hR _ o3 x3
theorem azK {log N high cc p1 p6 b : Nat} {ps : List Int} {sv t2 : aJ3} {arr : List Int} {rest : List aJ3} {w0 w : aJ2} (hm : Sk log ps) (hs : Sl w0 sv (ps.map (Value.int .i64))) (hx : aS w0 w cM)
 (hN1 : 32 <= N) (hN2 : N <= 32768) (hcc : N <= cc) (harr : arr.length = N) (hhigh : (pF ps 0).length = high) (hhN : high <= N) (hlo : w0.heap.size <= b) (hne : p1 ≠ b /\ p6 ≠ b)
 (o1 : cJ w p1 [.int .i64 log, sv]) (o6 : cJ w p6 [.int .i64 log, .slice (some ⟨b, 0, none⟩) N cc]) (ob : cJ w b (fe .i64 (m3 arr) ++ rest))
 {k4 : aJ3 -> aJ3 -> aJ3 -> aJ3 -> aJ2 -> Prop}
 (hR : ∀ w', cJ w' b (fe .i64 (m3 (place N high (pF ps 0) 0 arr)) ++ rest) -> aS w w' (fun y => y = b) -> k4 (.pointer (some ⟨p1, 0, none⟩)) t2 (.int .i64 N) (.pointer (some ⟨p6, 0, none⟩)) w') :
 Bt k4 (.pointer (some ⟨p1, 0, none⟩)) t2 (.int .i64 N) (.pointer (some ⟨p6, 0, none⟩)) (.int .i64 ((high : Int) - 1)) (.int .i64 0) (.int .i64 0) w := by
 have hlen := hm.len256
 obtain ⟨a, c, rfl, hc⟩ := hs.lenI
 unfold Bt
 refine cG.rule (fun m t w' => ∃ (s j : Nat) (ar : List Int), m = ps.length - s /\ t = (.int .i64 (pos N j : Nat), .int .i64 s) /\ s <= ps.length /\ ar.length = N /\ place N high (pF (ps.drop s) s) (pos N j) ar = place N high (pF ps 0) 0 arr /\ (pF (ps.drop s) s).length <= high /\ cJ w' b (fe .i64 (m3 ar) ++ rest) /\ aS w w' (fun y => y = b)) ps.length
  ⟨0, 0, arr, rfl, by rw [Ur] <;> rfl, by omega, harr, by rw [Ur, aHM], by rw [aHM, hhigh]; exact aHS _, ob, aS.refl _ _⟩ ?_
 rintro m t w4 ⟨s, j, ar, rfl, rfl, hs4, har, hpl, hrl, o4, x4⟩
 have c1 := (o1.ext x4 hne.1).cell (off := 1)
 simp only [aHJ, aHK] at c1
 unfold A5 HP
 by_cases hlt : s < ps.length
 .have d1 : decide ((s : Int) < (ps.length : Int)) = true := by simp; omega
  obtain ⟨q, hq⟩ : ∃ q, q = ps[s].toNat := ⟨_, rfl⟩
  rw [arU hlt, <- hq] at hpl hrl
  have hqN : q <= N := by simp at hrl; omega
  simp (disch := omega) only [aC, aY, aHI, aA, cL, c1, aI, eB, aX, d1, aF]
  unfold Hq HH Rz Hn HU HS
  refine cG.rule (fun m t w' => ∃ (k j : Nat) (ar : List Int), m = q - k /\ t = (.int .i64 (pos N j : Nat), .int .i64 k) /\ k <= q /\ ar.length = N /\ place N high (List.replicate (q - k) s ++ pF (ps.drop (s + 1)) (s + 1)) (pos N j) ar = place N high (pF ps 0) 0 arr /\ cJ w' b (fe .i64 (m3 ar) ++ rest) /\ aS w w' (fun y => y = b)) q
   ⟨0, j, ar, rfl, rfl, by omega, har, hpl, o4, x4⟩ ?_
  rintro m t w5 ⟨k, j5, ar5, rfl, rfl, hk, har5, hpl5, o5, x5⟩
  have c15 := (o1.ext x5 hne.1).cell (off := 1)
  have c65 := (o6.ext x5 hne.2).cell (off := 1)
  simp only [aHJ, aHK] at c15 c65
  obtain ⟨b', off', c', e, _, hcell⟩ := (hs.ext (hx.new x5 hlo) (cB _)).openI (by omega)
  cases e
  have g1 := hcell s hlt
  unfold Bu HV
  by_cases hkq : k < q
  .have d2 : decide ((k : Int) < ps[s]) = true := by simp; omega
   have hp := anW (n := N) (by omega) j5
   have hhg : 0 < high := by simp at hrl; omega
   simp (disch := omega) only [aC, aY, aHI, aA, cL, c15, aI, dJ, aHH, cA, g1, aX, d2, aF]
   unfold GJ Ic RD H7
   simp (disch := omega) only [aC, bR, aHI, Ee, aA, bM, CA, bO, c65, aI, fN, aHH, iK]
   refine tA o5 rfl (by rw [aHR, kX]; simp [m3]; omega) fun w6 o6' x6 s6 => ?_
   rw [arQ (by omega)] at o6'
   have e1 : (N : Int).tdiv 2 = ((N / 2 : Nat) : Int) := by rw [aId (by omega)]; omega
   have e3 : (N : Int).tdiv 8 = ((N / 8 : Nat) : Int) := by rw [aId (by omega)]; omega
   have e4 : (((pos N j5 : Nat) : Int) + ((N / 2 : Nat) : Int) + ((N / 8 : Nat) : Int) + 3).tmod (N : Int) = ((pos N (j5 + 1) : Nat) : Int) := by
    rw [aIa (by omega), <- Je]
    unfold adv
    simp
   simp (disch := omega) only [e1, aT, e3, e4]
   unfold Hv
   rw [show q - k = (q - (k + 1)) + 1 from by omega, aIH, aIP, amA, Je] at hpl5
   obtain ⟨d, _, hd2, hd3⟩ := UY (n := N) (high := high) (by omega) hhg (j5 + 1)
   refine aBu (by omega) hN2 hhg hhN ?_
   rw [hd3] at hpl5 ⊢
   unfold Bc
   simp (disch := omega) only [aC, bM, aT, aA]
   exact ⟨q - (k + 1), by omega, k + 1, j5 + 1 + d, _, rfl, rfl, by omega, by simp [har5], hpl5, o6', x5.trans x6 (fun _ _ h => h)⟩
  .have d2 : decide ((k : Int) < ps[s]) = false := by simp; omega
   rw [show q - k = 0 from by omega, List.replicate_zero, aIv] at hpl5
   unfold Bj
   simp (disch := omega) only [aC, aY, aHI, bM, aT, aA, cL, c15, aI, dJ, aHH, cA, g1, aX, d2, aE]
   exact ⟨ps.length - (s + 1), by omega, s + 1, j5, ar5, rfl, rfl, by omega, har5, hpl5, by simp at hrl; omega, o5, x5⟩
 .have d1 : decide ((s : Int) < (ps.length : Int)) = false := by simp; omega
  rw [aIQ (by omega), pF, place] at hpl
  simp (disch := omega) only [aC, aY, aHI, aA, cL, c1, aI, eB, aX, d1, aE]
  exact hR _ (by rw [<- hpl]; exact o4) x4
theorem aBX {log N p6 : Nat} {c1 t2 : aJ3} {w : aJ2} (hN1 : 32 <= N) (hN2 : N <= 32768) (o6 : cJ w p6 [.int .i64 log, .slice none 0 0])
 {k0 : aJ3 -> aJ3 -> aJ3 -> aJ3 -> aJ2 -> Prop}
 (hR : ∀ w' b cc rest, cJ w' p6 [.int .i64 log, .slice (some ⟨b, 0, none⟩) N cc] -> cJ w' b (fe .i64 (m3 (List.replicate N (-1))) ++ rest) -> N <= cc -> w.heap.size <= b -> aS w w' (fun y => y = p6 ∨ w.heap.size <= y) -> k0 c1 t2 (.int .i64 N) (.pointer (some ⟨p6, 0, none⟩)) w') :
 A4 k0 c1 t2 (.int .i64 N) (.pointer (some ⟨p6, 0, none⟩)) (.int .i64 0) w := by
 have l6 := o6.lt
 unfold A4
 refine cG.rule (fun m t w' => ∃ (i : Nat) (v : aJ3), m = N - i /\ t = .int .i64 i /\ i <= N /\ cJ w' p6 [.int .i64 log, v] /\ rN w' w.heap.size 3 v i (fe .i64 (m3 (List.replicate i (-1)))) /\ aS w w' (fun y => y = p6 ∨ w.heap.size <= y)) N
  ⟨0, _, rfl, rfl, by omega, o6, rN.nil _ _ _, aS.refl _ _⟩ ?_
 rintro m t w1 ⟨i, v, rfl, rfl, hi, o1, os, x1⟩
 have c1' := o1.cell (off := 1)
 simp only [aHJ, aHK] at c1'
 unfold Bg
 by_cases hlt : i < N
 .have d1 : decide ((i : Int) < (N : Int)) = true := by simp only [decide_eq_true_eq]; omega
  simp (disch := omega) only [aC, aX, d1, bR, aHI, pY, bM, aT, aA, bO, c1', aI, aF]
  refine Cr (cells := #[.int .i64 (-1), .int .i64 0, .int .i64 0]) (by decide) (by decide) (by kernel_rfl) fun w2 o2 x2 s2 => ?_
  refine tP (os.ext x2 (fun _ _ h => h)) (o2.cl (off := 0) (l := [.int .i64 (-1), .int .i64 0, .int .i64 0]) rfl (fun i hi => by rw [aHI])) (by simp [one]) (aIM x1.size x2.size) (by omega) fun v3 w3 o3 x3 => ?_
  have o13 := (o1.ext x2 (fun h => h)).ext x3 (by omega)
  refine OW o13 ?_ (by simp) fun w4 o4 x4 s4 => ?_
  .obtain ⟨a, c, e⟩ := o3.len
   rw [e] <;> rfl
  simp only [aHL, aHN] at o4
  refine ⟨N - (i + 1), by omega, i + 1, v3, rfl, rfl, by omega, o4, ?_, ?_⟩
  .have e : fe .i64 (m3 (List.replicate (i + 1) (-1))) = fe .i64 (m3 (List.replicate i (-1))) ++ [.int .i64 (-1), .int .i64 0, .int .i64 0] := by
    rw [List.replicate_succ']; unfold m3; rw [aIo, asK] <;> rfl
   rw [e]
   exact o3.ext x4 (fun b hb h => by omega)
  .exact ((x1.seq (x2.mono fun _ _ h => h.elim)).seq (x3.mono fun _ _ h => .inr h)).seq (x4.mono fun _ _ h => .inl h)
 .have d1 : decide ((i : Int) < (N : Int)) = false := by simp only [decide_eq_false_iff_not]; omega
  have : i = N := by omega
  subst this
  simp (disch := omega) only [aC, aX, d1, bR, aHI, pY, bM, aT, aA, bO, aE]
  rcases os.2 with ⟨_, h⟩ | ⟨b, c, rest, rfl, h2, h3, h4, h5⟩
  .omega
  .exact hR _ b c rest o1 h3 h5 h2 x1
theorem aDS {k : IntKind} {L : List T3} {rest : List aJ3} {i : Nat} (h : i < L.length) (x : Int) : (fe k L ++ rest).set (i * 3 + 1) (.int .i64 x) = fe k (L.set i (L[i].1, x, L[i].2.2)) ++ rest := by
 rw [aJf _ _ (by rw [kX]; omega), (aeQ k L i h x).2.1]
theorem aDw {k : IntKind} {L : List T3} {rest : List aJ3} {i : Nat} (h : i < L.length) (x : Int) : (fe k L ++ rest).set (i * 3 + 2) (.int .i64 x) = fe k (L.set i (L[i].1, L[i].2.1, x)) ++ rest := by
 rw [aJf _ _ (by rw [kX]; omega), (aeQ k L i h x).2.2]
theorem aBI {log N cc p1 p6 b ns : Nat} {ps S : List Int} {sv t2 : aJ3} {rest : List aJ3} {w0 w : aJ2} (hm : Sk log ps) (L : Lay log ps S) (hN : 2 ^ log = N) (hs : Sl w0 sv (ps.map (Value.int .i64))) (hx : aS w0 w cM) (hcc : N <= cc)
 {i : Nat} (hlt : i < N) (hne : p1 ≠ b /\ p6 ≠ b /\ ns ≠ b /\ p1 ≠ ns /\ p6 ≠ ns)
 (o1 : cJ w p1 [.int .i64 log, sv]) (o6 : cJ w p6 [.int .i64 log, .slice (some ⟨b, 0, none⟩) N cc]) (ob : cJ w b (fe .i64 (Es log ps S i) ++ rest)) (os : cJ w ns ((cn S i).map (Value.int .i64)))
 {kn : aJ3 -> aJ3 -> aJ3 -> aJ3 -> aJ3 -> aJ3 -> aJ2 -> Prop} {R : aJ3 -> aJ2 -> Prop}
 (hR : ∀ w', cJ w' b (fe .i64 (Es log ps S (i + 1)) ++ rest) -> cJ w' ns ((cn S (i + 1)).map (Value.int .i64)) -> aS w w' (fun y => y = ns ∨ y = b) →
  kn (.pointer (some ⟨p1, 0, none⟩)) t2 (.int .i64 N) (.pointer (some ⟨p6, 0, none⟩)) (.pointer (some ⟨ns, 0, none⟩)) (.int .i64 ((i + 1 : Nat) : Int)) w') :
 Bb kn R (.pointer (some ⟨p1, 0, none⟩)) t2 (.int .i64 N) (.pointer (some ⟨p6, 0, none⟩)) (.pointer (some ⟨ns, 0, none⟩)) (.int .i64 i) w := by
 have h15 := hm.log15
 have hlen := hm.len256
 have hN2 : 2 ^ log <= 2 ^ 15 := aHT (by omega) h15
 have hSl : S.length = 2 ^ log := L.len
 obtain ⟨a, c, rfl, hc⟩ := hs.lenI
 have c1 := o1.cell (off := 1)
 have c6 := o6.cell (off := 1)
 simp only [aHJ, aHK] at c1 c6
 have hltN : i < 2 ^ log := by omega
 obtain ⟨s, hsl, hsS, hp1, hp2, hk', hcnt⟩ := XG hm L hltN
 obtain ⟨k, hkk⟩ : ∃ k, k = kAt ps S i := ⟨_, rfl⟩
 rw [<- hkk] at hk'
 have hk2 : k < 2 ^ (log + 1) := by rw [aH8]; omega
 have hel : i < (Es log ps S i).length := by rw [ES]; exact hltN
 have hE0 : (Es log ps S i)[i]'hel = ((s : Int), 0, 0) := by rw [aCL hltN, hsS]
 have g0 := ob.cell (off := i * 3)
 rw [aHW (by rw [kX]; omega), (adP .i64 (Es log ps S i) i hel).1, hE0] at g0
 simp only at g0
 obtain ⟨b', off', c', e, _, hcell⟩ := (hs.ext hx (cB _)).openI (by omega)
 cases e
 have g1 := hcell s hsl
 have hlow := hm.low _ (aH1 hsl)
 have hSi : S[i]'(by omega) = (s : Int) := by rw [<- hsS, aHX, aHQ (by omega)] <;> rfl
 have gs := os.cell (off := s)
 rw [aH9, aHQ (by rw [acA]; omega), aAy (by omega)] at gs
 simp only [aIu] at gs
 have hcs := aFX (S := S) (i := i) (s := s) (by omega) (by omega) hSi
 have d1 : decide ((s : Int) < 0) = false := by simp
 have d2 : decide ((ps.length : Int) <= (s : Int)) = false := by simp; omega
 unfold Bb H9 RH Ih
 simp (disch := omega) only [aC, bR, aHI, aY, aA, dD, bO, c6, aI, fN, aHH, iK, cA, g0, aX, d1, dB, bN, aHP, if_false, bP, cL, c1, eB, pG, d2, aE]
 have hpn := lT hlow
 have hcl : (S.take i).count (s : Int) <= i := by
  have := aJ1 (a := (s : Int)) (l := S.take i)
  rw [aHZ] at this; omega
 have c10 := o1.cell (off := 0)
 simp only [aHJ] at c10
 have ek : (((S.take i).count (s : Int) : Nat) : Int) + cW ps[s] = (k : Int) := by rw [hk']; omega
 have h9 : DA (fun bJ t2 eK t6 cC jO w => xT kn bJ t2 eK t6 cC jO w) (.pointer (some ⟨p1, 0, none⟩)) t2 (.int .i64 N) (.pointer (some ⟨p6, 0, none⟩)) (.pointer (some ⟨ns, 0, none⟩)) (.int .i64 i) (.int .i64 (s : Int)) (.int .i64 (cW ps[s])) w := by
  unfold DA Kv
  simp (disch := omega) only [aC, QV, aHH, aHI, cQ, aA, cA, gs, aI, bM, ek, aT]
  refine tA os rfl (by rw [aHU, acA]; omega) fun w2 os2 x2 s2 => ?_
  rw [<- aJl, hcs] at os2
  have o12 := o1.ext x2 (by omega)
  have o62 := o6.ext x2 (by omega)
  have ob2 := ob.ext x2 (by omega)
  have c12 := o12.cell (off := 0)
  have c62 := o62.cell (off := 1)
  simp only [aHJ, aHK] at c12 c62
  simp (disch := omega) only [c12, aI, aA]
  unfold Lu Lg
  refine aBA (w0 := w0) h15 (by omega) hk2 o12 ?_
  unfold DF
  obtain ⟨nbits, hnbits⟩ : ∃ x, x = log + 1 - bl k := ⟨_, rfl⟩
  obtain ⟨eb1, eb2, eb3, eb4⟩ := amR (log := log) (k := k) (by omega) hk2
  rw [<- hnbits] at eb1 eb2 ⊢
  have hent : Gw log ps S i = Dj log (s : Int) k := by unfold Gw; rw [hsS, <- hkk]
  have hes := aEn (log := log) (ps := ps) (S := S) (i := i) hltN
  rw [hent] at hes
  simp (disch := omega) only [aC, bR, aHI, eD, Result.ok.injEq, Next.value.injEq, and_true, true_and, aA, bO, c62, aI, fN, aHH, nI]
  refine tA ob2 rfl (by rw [aHR, kX, ES]; omega) fun w3 ob3 x3 s3 => ?_
  rw [aDS hel, hE0] at ob3
  have o63 := dN (o62.ext x3 (by omega))
  have ob3 := dN ob3
  have c63 := o63.cell (off := 1)
  simp only [aHJ, aHK] at c63
  simp (disch := omega) only [c63, aI, aA, fN, aHH, aHI, nH, true_and]
  refine (U2 nbits (by omega) _).mono ?_
  rintro r w4 ⟨rfl, rfl⟩
  have hA := aIM (aIM (aIp (2 ^ nbits) (show k <= k + 1 by omega)) eb2) (aHT (show 0 < 2 by omega) (show log + 1 <= 16 by omega))
  have hpw : ((2 ^ nbits : Nat) : Int) = (2 : Int) ^ nbits := by simp
  rw [<- hpw]
  have em : (k : Int) * ((2 ^ nbits : Nat) : Int) = ((k * 2 ^ nbits : Nat) : Int) := by simp
  have e5 : (((k * 2 ^ nbits : Nat) : Int) - (N : Int)) = (Dj log (s : Int) k).2.2 := by
   unfold Dj
   simp only
   rw [<- hnbits, <- hN]
   simp
  have e7 : (Dj log (s : Int) k) = ((s : Int), (nbits : Int), (Dj log (s : Int) k).2.2) := by unfold Dj; rw [hnbits]
  generalize hq : k * 2 ^ nbits = q at *
  have e6 : IntKind.i64.wrap ((q : Int) - (N : Int)) = (q : Int) - (N : Int) := aT (by omega) (by omega)
  have ew : IntKind.i64.wrap (q : Int) = (q : Int) := aT (by omega) (by omega)
  generalize hbase : (Dj log (s : Int) k).2.2 = base at *
  rw [e5] at e6
  simp (disch := omega) only [c63, aI, pS, em, ew, aA, eA, e5, e6, true_and]
  have hel5 : i < ((Es log ps S i).set i ((s : Int), (nbits : Int), 0)).length := by simpa using hel
  refine tA ob3 rfl (by rw [aHR, kX]; simp [ES]; omega) fun w5 ob5 x5 s5 => ?_
  rw [aDw hel5] at ob5
  simp only [aJB, List.set_set] at ob5
  rw [<- e7, hes] at ob5
  unfold xT
  simp (disch := omega) only [aC, bM, aT, aA]
  refine hR _ ob5 ((dN (os2.ext x3 (by omega))).ext x5 (by omega)) ?_
  exact (((x2.mono fun _ _ h => .inl h : aS w w2 (fun y => y = ns ∨ y = b)).seq (x3.mono fun _ _ h => .inr h)).seq (aS.dr _ _)).seq (x5.mono fun _ _ h => .inr h)
 unfold Iq G3
 by_cases hneg : ps[s] < 0
 .have d3 : decide (ps[s] < 0) = true := by simpa using hneg
  have ep : cW ps[s] = 1 := by unfold cW; rw [if_pos hneg]
  rw [ep] at h9
  simp (disch := omega) only [aC, aY, aHI, aA, cL, c1, aI, dJ, aHH, cA, g1, aX, d3, aF]
  exact h9
 .have d3 : decide (ps[s] < 0) = false := by simpa using hneg
  have ep : cW ps[s] = ps[s] := by unfold cW; rw [if_neg hneg]
  rw [ep] at h9
  simp (disch := omega) only [aC, aY, aHI, aA, cL, c1, aI, dJ, aHH, cA, g1, aX, d3, aE]
  exact h9
theorem aBx {log N cc p1 p2 p6 b : Nat} {ps S : List Int} {sv : aJ3} {rest : List aJ3} {w0 w : aJ2} (hm : Sk log ps) (L : Lay log ps S) (hN : 2 ^ log = N) (hs : Sl w0 sv (ps.map (Value.int .i64))) (hx : aS w0 w cM) (hcc : N <= cc)
 (hne : p1 ≠ b /\ p6 ≠ b /\ p2 ≠ b /\ p2 ≠ p6 /\ p1 ≠ p2) (hlo : w0.heap.size <= b /\ w0.heap.size <= p2)
 (o1 : cJ w p1 [.int .i64 log, sv]) (o2 : cJ w p2 [.int .i64 0, .slice none 0 0]) (o6 : cJ w p6 [.int .i64 log, .slice (some ⟨b, 0, none⟩) N cc]) (ob : cJ w b (fe .i64 (m3 S) ++ rest)) {R : aJ3 -> aJ2 -> Prop}
 (hR : ∀ w', cJ w' b (fe .i64 (Es log ps S N) ++ rest) -> aS w0 w' cM -> R (.tuple #[.agg #[.int .i64 log, .slice (some ⟨b, 0, none⟩) N cc], .int .i64 0]) w') :
 AZ R (.pointer (some ⟨p1, 0, none⟩)) (.pointer (some ⟨p2, 0, none⟩)) (.int .i64 N) (.pointer (some ⟨p6, 0, none⟩)) w := by
 have hN2 : 2 ^ log <= 2 ^ 15 := aHT (by omega) hm.log15
 unfold AZ H3
 refine auD fun w1 os x1 s1 => ?_
 obtain ⟨cs, hcs, os⟩ : ∃ cs, cs = List.replicate 256 (Value.int .i64 0) /\ cJ w1 w.heap.size cs := ⟨_, by kernel_rfl, os⟩
 rw [hcs] at os
 have os : cJ w1 w.heap.size ((cn S 0).map (Value.int .i64)) := by rw [aE6, aJO]; exact os
 have l1 := o1.lt
 have l2 := o2.lt
 have l6 := o6.lt
 have lb := ob.lt
 have hxs := hx.size
 have o1 := o1.ext x1 (fun h => h)
 have o2 := o2.ext x1 (fun h => h)
 have o6 := o6.ext x1 (fun h => h)
 have ob := ob.ext x1 (fun h => h)
 have x01 := hx.seq x1
 generalize w.heap.size = ns at *
 have ob : cJ w1 b (fe .i64 (Es log ps S 0) ++ rest) := by rw [aAU L.len]; exact ob
 unfold Hy Hl HF G7 Ij
 refine cG.rule (fun m t w' => ∃ i : Nat, m = N - i /\ t = .int .i64 i /\ i <= N /\ cJ w' b (fe .i64 (Es log ps S i) ++ rest) /\ cJ w' ns ((cn S i).map (Value.int .i64)) /\ aS w1 w' (fun y => y = ns ∨ y = b)) N ⟨0, rfl, rfl, by omega, ob, os, aS.refl _ _⟩ ?_
 rintro m t w2 ⟨i, rfl, rfl, hi, ob2, os2, x2⟩
 have x02 : aS w0 w2 cM := x01.trans x2 (fun y hy hh => by omega)
 have o62 := o6.ext x2 (by omega)
 unfold A9 Ie
 by_cases hlt : i < N
 .have d1 : decide ((i : Int) < (N : Int)) = true := by simp only [decide_eq_true_eq]; omega
  simp (disch := omega) only [aC, aX, d1, aA, aF]
  refine aBI hm L hN hs x02 hcc hlt (by omega) (o1.ext x2 (by omega)) o62 ob2 os2 fun w3 ob3 os3 x3 => ?_
  exact ⟨N - (i + 1), by omega, i + 1, rfl, rfl, by omega, ob3, os3, x2.trans x3 (fun _ _ h => h)⟩
 .have d1 : decide ((i : Int) < (N : Int)) = false := by simp only [decide_eq_false_iff_not]; omega
  have : i = N := by omega
  subst this
  have l4 := dE (off := 0) o62 (by simp)
  simp only [aHM, aHG, aHO] at l4
  simp (disch := omega) only [aC, aX, d1, aA, aE]
  unfold D1
  simp (disch := omega) only [aC, l4, aA]
  refine eQ (o2.ext x2 (by omega)) rfl (by simp [one]) (by simp) fun w5 o25 x5 s5 => ?_
  refine rH o25 (by simp [aV]) ?_
  simp only [aV, aHL, aHN, aHM, aHG, aHO]
  exact hR _ (ob2.ext x5 (by omega)) (x02.new x5 hlo.2)
theorem amP {log : Nat} {sv : aJ3} {ps : List Int} {w : aJ2} (hm : Sk log ps) (hs : Sl w sv (ps.map (Value.int .i64))) :
 aR pg AQ #[.agg #[.int .i64 log, sv]] w (fun r w' => ∃ b cc rest, r = .tuple #[.agg #[.int .i64 log, .slice (some ⟨b, 0, none⟩) (2 ^ log) cc], .int .i64 0] /\ w.heap.size <= b /\ cJ w' b (fe .i64 (kD log ps) ++ rest) /\ aS w w' cM) := by
 refine agN ?_
 have hlen := hm.len256
 have h15 := hm.log15
 have hN2 : 2 ^ log <= 2 ^ 15 := aHT (by omega) h15
 have hN1 : 2 ^ 5 <= 2 ^ log := aHT (by omega) hm.log5
 unfold ahU GO GU
 refine fV fun w1 o1 x1 s1 => ?_
 refine gX fun w2 o2 x2 s2 => ?_
 have o1 := o1.ext x2 (fun h => h)
 have l1 := lO (off := 0) o1 (by simp [Value.cells])
 simp only [Value.cells, aHM, aHG, aHO] at l1
 simp (disch := omega) only [aC, l1, dD, aA, cQ, cA]
 refine (aAn (most := 15) ((hs.ext x1 (cB _)).ext x2 (cB _)) (by omega)).mono ?_
 rintro r w3 ⟨rfl, x3⟩
 have hce := aBb (most := 15) hm hm.log15
 rw [show (((15 : Nat) : Int)) = 15 from rfl] at hce
 rw [hce]
 have e0 : ((0 : Int) != 0) = false := rfl
 have o1 := o1.ext x3 (fun h => h)
 have o2 := o2.ext x3 (fun h => h)
 have c0 := o1.cell (off := 0)
 simp only [Value.cells, aHJ] at c0
 simp (disch := omega) only [eT, e0, aA, c0, aI, aE]
 refine (U2 log (by omega) _).mono ?_
 rintro r w4 ⟨rfl, rfl⟩
 have hpow : ((2 ^ log : Nat) : Int) = (2 : Int) ^ log := by simp
 rw [<- hpow]
 simp (disch := omega) only [c0, aI, aA, uW]
 refine gX fun w5 o5 x5 s5 => ?_
 refine eQ o5 rfl (by simp [one]) (by simp) fun w6 o6 x6 s6 => ?_
 simp only [aV, aHL, aHN] at o6
 have l1 := o1.lt
 have l2 := o2.lt
 have l6 := o6.lt
 have z1 := x1.size
 have z2 := x2.size
 have z3 := x3.size
 have z5 := x5.size
 have z6 := x6.size
 have o1 := (o1.ext x5 (fun h => h)).ext x6 (by omega)
 have o2 := (o2.ext x5 (fun h => h)).ext x6 (by omega)
 have x06 : aS w w6 cM := ((((x1.seq x2).seq x3).seq x5)).new x6 (by omega)
 have hne : w.heap.size ≠ w1.heap.size /\ w.heap.size ≠ w4.heap.size /\ w1.heap.size ≠ w4.heap.size := by omega
 have hp12 : w.heap.size <= w1.heap.size /\ w1.heap.size <= w4.heap.size := by omega
 obtain ⟨p1, hp1⟩ : ∃ p1, p1 = w.heap.size := ⟨_, rfl⟩
 generalize w1.heap.size = p2 at *
 generalize w4.heap.size = p6 at *
 rw [<- hp1] at o1 ⊢
 obtain ⟨arr, ht, harr, hneg, hsp⟩ := aiM hm (-1)
 have hlay := vF hm (-1)
 have hEs := aCY log ps
 rw [aCe hm 0 (-1)] at hEs
 rw [hsp] at hlay hEs
 generalize hN : 2 ^ log = N at *
 unfold HE HX H2 Ib
 refine aBX (by omega) (by omega) o6 fun w7 b cc rest o67 ob hcc hb x7 => ?_
 have o17 := o1.ext x7 (by omega)
 have o27 := o2.ext x7 (by omega)
 have x07 : aS w w7 cM := x06.trans x7 (fun y hy hh => by omega)
 unfold G4 HJ
 simp (disch := omega) only [aC, eA, aT, aA]
 unfold H5 Ig Hu G6
 refine aCt hm hs x07 (by omega) hcc (by simp) (by omega) ht (by omega) (by omega) o17 o67 ob fun w8 ob8 x8 => ?_
 have x08 := x07.new x8 (by omega)
 have o18 := o17.ext x8 (by omega)
 have o28 := o27.ext x8 (by omega)
 have o68 := o67.ext x8 (by omega)
 unfold Ii GL H8 Ha Ia Hd
 refine azK hm hs x08 (by omega) (by omega) hcc harr rfl (by omega) (by omega) (by omega) o18 o68 ob8 fun w9 ob9 x9 => ?_
 have x09 := x08.new x9 (by omega)
 refine aBx hm hlay hN hs x09 hcc (by omega) (by omega) (o18.ext x9 (by omega)) (o28.ext x9 (by omega)) (o68.ext x9 (by omega)) ob9 fun w10 ob10 x10 => ?_
 rw [hEs] at ob10
 exact ⟨b, cc, rest, rfl, by omega, ob10, x10⟩
structure yD (k : Nat) (T : Nat × List T3) : Prop where
 lg : T.1 <= 9
 len : T.2.length = 2 ^ T.1
 low : Low T.2
 sym : ∀ e ∈ T.2, ∃ c : Nat, e.1 = (c : Int) /\ c < lC k
 nxt : ∀ e ∈ T.2, e.2.2 + ((2 ^ e.2.1.toNat : Nat) : Int) <= (T.2.length : Int)
theorem aDG {k c : Nat} (hc : c < lC k) : yD k (0, [((c : Int), 0, 0)]) := by
 refine ⟨aIT _, rfl, ?_, ?_, ?_⟩
 .intro e he; obtain rfl := aIW.1 he; exact ⟨0, rfl, by omega, Int.le_refl _, show (0 : Int) <= 100000 by decide⟩
 .intro e he; obtain rfl := aIW.1 he; exact ⟨c, rfl, hc⟩
 .intro e he; obtain rfl := aIW.1 he; show (0 : Int) + ((2 ^ (0 : Int).toNat : Nat) : Int) <= ((1 : Nat) : Int); decide
theorem aoK {k lg : Nat} {ps : List Int} (hm : Sk lg ps) (h9 : lg <= 9) (hl : ps.length <= lC k) : yD k (lg, kD lg ps) := by
 refine ⟨h9, jC _ _, azL hm, ?_, ?_⟩
 .intro e he
  obtain ⟨i, hi, rfl⟩ := aIf he
  have h2 : i < 2 ^ lg := by rw [jC] at hi; exact hi
  obtain ⟨s, hs, e, _⟩ := XG hm (vF hm 0) h2
  exact ⟨s, by rw [WM lg ps h2, e], by omega⟩
 .intro e he
  obtain ⟨i, hi', rfl⟩ := aIf he
  have hi := hi'
  rw [jC] at hi
  have hat := ahB (ps := ps) hi
  rw [aHQ hi'] at hat
  rw [aH2 hat]
  have L := vF hm 0
  obtain ⟨s, hs, hg, hp1, hp2, hk, hc⟩ := XG hm L hi
  have hk2 : kAt ps (gF 0 lg ps) i < 2 ^ (lg + 1) := by rw [aH8]; omega
  obtain ⟨e1, e2, e3, e4⟩ := amR (log := lg) (k := kAt ps (gF 0 lg ps) i) (by omega) hk2
  have hpow : ((2 ^ lg : Nat) : Int) = (2 : Int) ^ lg := by simp
  show (Gw lg ps (gF 0 lg ps) i).2.2 + ((2 ^ (Gw lg ps (gF 0 lg ps) i).2.1.toNat : Nat) : Int) <= ((kD lg ps).length : Int)
  rw [jC]
  unfold Gw Dj
  rw [<- hpow]
  show ((kAt ps (gF 0 lg ps) i * 2 ^ (lg + 1 - bl (kAt ps (gF 0 lg ps) i)) : Nat) : Int) - ((2 ^ lg : Nat) : Int) + ((2 ^ (((lg + 1 - bl (kAt ps (gF 0 lg ps) i) : Nat) : Int)).toNat : Nat) : Int) <= ((2 ^ lg : Nat) : Int)
  rw [aHH]
  rw [aJM, aH8] at e2
  generalize kAt ps (gF 0 lg ps) i * 2 ^ (lg + 1 - bl (kAt ps (gF 0 lg ps) i)) = X at *
  generalize 2 ^ (lg + 1 - bl (kAt ps (gF 0 lg ps) i)) = Y at *
  omega
theorem aGm {k : Nat} (hk : k < 3) : (gvP (k : Int)).length <= lC k := by
 rcases (show k = 0 ∨ k = 1 ∨ k = 2 by omega) with rfl | rfl | rfl <;> decide
theorem aBl {k : Nat} (hk : k < 3) : mW (k : Int) = ((lC k : Nat) : Int) - 1 := by
 rcases (show k = 0 ∨ k = 1 ∨ k = 2 by omega) with rfl | rfl | rfl <;> rfl
theorem auS {k : Nat} (hk : k < 3) : yD k (Za (k : Int), kD (Za (k : Int)) (gvP (k : Int))) :=
 aoK (aoL (by omega)) (by unfold Za; split <;> (try split) <;> omega) (aGm hk)
theorem anF {k mode n : Nat} {l : List UInt8} {T T' : Nat × List T3} (hk : k < 3) (hT : mode = 3 -> T.2 ≠ [] -> yD k T) (h : gG (k : Int) (mode : Int) l T = .ok (T', n)) : yD k T' /\ n <= l.length := by
 have hc53 : lC k <= 53 := by rcases (show k = 0 ∨ k = 1 ∨ k = 2 by omega) with rfl | rfl | rfl <;> decide
 have hc0 : 0 < lC k := by rcases (show k = 0 ∨ k = 1 ∨ k = 2 by omega) with rfl | rfl | rfl <;> decide
 unfold gG at h
 rw [aBl hk] at h
 split at h
 .cases h
 split at h
 .cases h; exact ⟨auS hk, aIT _⟩
 split at h
 .split at h
  .cases h
  .split at h
   .cases h
   .cases h
    rename_i hx
    exact ⟨aDG (by omega), by simp⟩
 split at h
 .split at h
  .cases h
  .cases h
   rename_i hm hne
   exact ⟨hT (by omega) hne, aIT _⟩
 .split at h
  .cases h
  .rename_i lg ps u hr
   cases h
   obtain ⟨h1, h2, h3⟩ := aoR hr
   have h4 := anT hr
   rw [lV] at h4
   have h5 : Dg (k : Int) <= 9 := by unfold Dg; split <;> (try split) <;> omega
   exact ⟨aoK (h1 (by omega)) (by omega) (by omega), by omega⟩
theorem AtI.mono {v : aJ3} {lo hi lo' hi' : Nat} (h : AtI v lo hi) (h1 : lo' <= lo) (h2 : hi <= hi') : AtI v lo' hi' := fun M hM => h M fun b hb hh => hM b (by omega) (by omega)
theorem ayZ {x : ByteArray} {w : aJ2} (he : YK (lL x) = none) (hl : x.size <= 1000000) :
 aR pg Gn #[.string x] w (fun r w' => r = .tuple #[.agg #[.slice none 0 0, .int .i64 0], .int .i64 11] /\ aS w w' cM) := by
 refine TJ ?_
 have hll := kK x
 unfold adS I6 I9
 refine jH fun w1 o1 x1 s1 => ?_
 rcases aIN x.size with h0 | h0
 .have hx : x = ⟨#[]⟩ := aBe (aIk.1 (by rw [hll, h0]))
  subst hx
  simp (disch := omega) only [aC, afI, aE8, nM, aA, jE, bN, if_true, aF, dV]
  refine bW o1 rfl (by simp [one]) (by simp) fun w6 o6 x6 s6 => ?_
  refine gZ o6 (by simp [aV]) ⟨rfl, ?_⟩
  exact x1.new x6 (aHS _)
 .rw [Jm (by omega)] at he
  have hg : (x[x.size - 1]'(by omega)).toNat = 0 := by
   rw [abN]
   simp only [hll] at he
   split at he
   .assumption
   .cases he
  have e1 : (x.size : Int) - 1 = ((x.size - 1 : Nat) : Int) := by omega
  have d2 : (((0 : Nat) : Int) == 0) = true := rfl
  have hne := ayW h0
  simp (disch := omega) only [aC, afI, hne, nM, aA, dB, bN, aHP, if_false, bP, rV, eA, e1, aT, tQ, aHH, hg, cR, d2, aF]
  refine bW o1 rfl (by simp [one]) (by simp) fun w6 o6 x6 s6 => ?_
  refine gZ o6 (by simp [aV]) ⟨rfl, ?_⟩
  exact x1.new x6 (aHS _)
def RB (w : aJ2) (lo hi : Nat) (b : aJ3) (L : List Bool) (lack : Nat) : Prop := ∃ v, b = .agg #[v, .int .i64 lack] /\ Bl w v L /\ AtI v lo hi
theorem RB.ext {w w' : aJ2} {lo hi lack : Nat} {b : aJ3} {L : List Bool} {M : Nat -> Prop} (h : RB w lo hi b L lack) (hx : aS w w' M) (hM : ∀ b, lo <= b -> b < hi -> ¬ M b) : RB w' lo hi b L lack := by
 obtain ⟨v, h1, h2, h3⟩ := h
 exact ⟨v, h1, h2.ext hx (h3 M hM), h3⟩
theorem aCy {x : ByteArray} {k : Nat} {w : aJ2} (he : YK (lL x) = some k) (hl : x.size <= 1000000) :
 aR pg Gn #[.string x] w (fun r w' => ∃ b hi, r = .tuple #[b, .int .i64 0] /\ hi <= w'.heap.size /\ RB w' w.heap.size hi b ((bE (lL x)).take k) 0 /\ aS w w' cM) := by
 refine TJ ?_
 have hll := kK x
 obtain ⟨h0, hk1, hk2, htop, hoff⟩ := Pp he
 unfold adS I6 I9
 refine jH fun w1 o1 x1 s1 => ?_
 rw [Jm (by omega)] at he
 have hg : (x[x.size - 1]'(by omega)).toNat ≠ 0 := by
  rw [abN]
  simp only [hll] at he
  split at he
  .cases he
  .assumption
 have e1 : (x.size : Int) - 1 = ((x.size - 1 : Nat) : Int) := by omega
 have hne := ayW (show 0 < x.size by omega)
 have d2 : (((x[x.size - 1]'(by omega)).toNat : Int) == 0) = false := by simpa using hg
 simp (disch := omega) only [aC, afI, hne, nM, aA, dB, bN, aHP, if_false, bP, rV, eA, e1, aT, tQ, aHH, cR, d2, aE]
 refine (apW hl).mono ?_
 rintro r w2 ⟨o2, x2⟩
 have hat := rN.atI o2
 have hs := o2.sl
 have hbl := lV (lL x)
 obtain ⟨a, c, rfl⟩ := o2.len
 have o12 := o1.ext x2 (fun h => h)
 simp (disch := omega) only [qT, aA, eA, aT]
 unfold QR QM Qh
 refine cG.rule (fun m (t : aJ3) w' => t = .int .i64 m /\ k <= m /\ m < 8 * x.size /\ w' = w2) (8 * x.size - 1)
  ⟨by have : ((8 * x.size : Nat) : Int) - 1 = ((8 * x.size - 1 : Nat) : Int) := by omega
      rw [this], by omega, by omega, rfl⟩ ?_
 rintro m t w3 ⟨rfl, hm1, hm2, rfl⟩
 unfold IY
 obtain ⟨b, off, c', e, _, hcell⟩ := aCZ hs (by omega)
 rw [hbl, hll] at e
 cases e
 have hgm : (bE (lL x))[m]? = some (decide (m = k)) := by
  by_cases h : m = k
  .subst h; simpa using htop
  .rw [hoff m (by omega) (by omega)]; simp [h]
 have g := hcell m (by omega)
 rw [aHQ (by omega)] at hgm
 rw [aH2 hgm] at g
 by_cases h : m = k
 .subst h
  have d3 : decide (m = m) = true := by simp
  have hsl := hs.take' (k := m) (by omega)
  have hsub : AtI (.slice (iH (some ⟨b, off, none⟩) c 0 1) (m - 0) (c - 0)) w1.heap.size w3.heap.size := AtI.sub hat (by omega)
  rw [<- aJu] at hsl
  unfold Jf
  simp (disch := omega) only [aC, Fq, aHH, eA, aT, aA, F1, uS, UP, g, aI, Gz, and_true]
  refine bW o12 rfl (by simp [one]) (by simp) fun w6 o6 x6 s6 => ?_
  refine gZ o6 (by simp [aV]) ?_
  simp only [aV, aHL, aHN, aHM, aHG, aHO]
  have z1 := x1.size
  have z2 := x2.size
  refine ⟨_, w3.heap.size, rfl, by have := x6.size; omega, ⟨_, rfl, hsl.ext x6 (hsub _ fun b hb hh => by omega), AtI.mono hsub (by omega) (by omega)⟩, ?_⟩
  exact (x1.seq x2).new x6 (by omega)
 .have d3 : decide (m = k) = false := by simpa using h
  have e2 : (m : Int) - 1 = ((m - 1 : Nat) : Int) := by omega
  simp (disch := omega) only [aC, Fq, aHH, eA, e2, aT, aA, UP, g, d3, aI, Gz, aI7, and_true, aF]
  exact ⟨m - 1, by omega, rfl, by omega, by omega⟩
theorem afH {lo hi lack n : Nat} {b : aJ3} {L : List Bool} {w : aJ2} (h : RB w lo hi b L lack) (hn : n <= 56) (hL : L.length <= 10000000) (hk : lack <= 1000000000) :
 aR pg uP #[b, .int .i64 n] w (fun r w' => ∃ b', r = .tuple #[b', .int .u64 (tB L n : Nat)] /\ RB w' lo hi b' (L.take (L.length - min n L.length)) (lack + (n - min n L.length)) /\ aS w w' cM) := by
 refine alD ?_
 obtain ⟨RR, hRR⟩ : ∃ RR : aJ3 -> aJ2 -> Prop, RR = fun r w' => ∃ b', r = .tuple #[b', .int .u64 (tB L n : Nat)] /\ RB w' lo hi b' (L.take (L.length - min n L.length)) (lack + (n - min n L.length)) /\ aS w w' cM := ⟨_, rfl⟩
 rw [<- hRR]
 obtain ⟨v, rfl, hs, hat⟩ := h
 obtain ⟨a, c, rfl, hc⟩ := Md hs
 unfold aoV LG Kb
 refine fV fun w1 o1 x1 s1 => ?_
 refine jH fun w2 o2 x2 s2 => ?_
 simp only [Value.cells] at o1
 have o1 := o1.ext x2 (fun h => h)
 have c0 := o1.cell (off := 0)
 simp only [aHJ, aHK] at c0
 have x02 : aS w w2 cM := x1.seq x2
 have hne : w.heap.size ≠ w1.heap.size := by omega
 obtain ⟨p1, hp1⟩ : ∃ p1, p1 = w.heap.size := ⟨_, rfl⟩
 obtain ⟨p2, hp2⟩ : ∃ p2, p2 = w1.heap.size := ⟨_, rfl⟩
 rw [<- hp1, <- hp2] at hne
 rw [<- hp1] at o1 c0 ⊢
 rw [<- hp2] at o2 ⊢
 have hw1 : w.heap.size <= p1 := by omega
 have hw2 : w.heap.size <= p2 := by omega
 have fin : ∀ (v : aJ3) (l : Nat) (w' : aJ2) (xx : Nat), cJ w' p1 [v, .int .i64 l] -> one v = true -> cJ w' p2 [.slice none 0 0, .int .i64 0] -> aS w w' cM →
     (∀ w'', aS w w'' cM -> RR (.tuple #[.agg #[v, .int .i64 l], .int .u64 xx]) w'') -> aC pg (aH 82 (.pointer (some ⟨p1, 0, none⟩))) w' fun t15 w => aC pg (aJ 82 (.pointer (some ⟨p2, 0, none⟩)) t15) w fun _u w => kI pg 82 (.pointer (some ⟨p2, 0, none⟩)) w fun r0 => RR (.tuple #[r0, .int .u64 xx]) w := by
  intro v l w' xx q1 qv q2 qx qk
  have l1 := cX (off := 0) q1 (by simp)
  simp only [aHM, aHG, aHO] at l1
  simp (disch := omega) only [aC, l1, aA]
  refine bW q2 rfl (by simp [one]; exact qv) (by simp) fun w6 o6 x6 s6 => ?_
  refine gZ o6 (by simp [aV]) ?_
  simp only [aV, aHL, aHN, aHM, aHG, aHO]
  exact qk _ (qx.new x6 hw2)
 by_cases hn0 : n = 0
 .subst hn0
  have d1 : decide (((0 : Nat) : Int) < 1) = true := rfl
  simp (disch := omega) only [aC, aX, d1, iF, aA, sV, jE, bN, if_true, aF, dV]
  refine fin _ lack w2 0 o1 rfl o2 x02 fun w' x => ?_
  rw [hRR]
  refine ⟨.agg #[.slice a L.length c, .int .i64 lack], ?_, ⟨_, rfl, ?_, hat⟩, x⟩
  .have h0 : tB L 0 = 0 := by
    have := CP L 0
    rw [Nat.pow_zero] at this; omega
   rw [h0]
  .have : L.take (L.length - min 0 L.length) = L := aIe (by omega)
   rw [this]
   exact hs.ext x (cB _)
 have d1 : decide ((n : Int) < 1) = false := by simp; omega
 have d2 : decide ((56 : Int) < (n : Int)) = false := by simp; omega
 have hlt := CP L n
 have hp : 2 ^ n <= 2 ^ 56 := aHT (by omega) hn
 have tail : ∀ k : Nat, k = min n L.length -> FM RR
     (.int .i64 n) (.pointer (some ⟨p1, 0, none⟩)) (.pointer (some ⟨p2, 0, none⟩)) (.int .i64 k) w2 := by
  intro k hk0
  rw [<- hk0] at hRR
  have hsd := (hs.ext x02 (cB _)).drop' (k := L.length - k) (by omega)
  rw [<- aJW] at hsd
  have hval : tB L n = tD (L.drop (L.length - k)) * 2 ^ (n - k) := by unfold tB; rw [<- hk0]
  have e1 : (L.length : Int) - (k : Int) = ((L.length - k : Nat) : Int) := by omega
  unfold FM NU
  simp (disch := omega) only [aC, iF, aA, sV, c0, aI, qT, eA, e1, aT, Nl, aHH]
  refine (ahP hsd (by rw [aIb]; omega)).mono ?_
  rintro r w3 ⟨rfl, rfl⟩
  generalize tD (L.drop (L.length - k)) = x0 at *
  unfold MM Ol OF Nb Ng
  refine cG.rule (fun m (t : aJ3 × aJ3) w' => ∃ i : Nat, m = n - i /\ t = (.int .u64 (x0 * 2 ^ (i - k) : Nat), .int .i64 i) /\ k <= i /\ i <= n /\ cJ w' p1 [.slice a L.length c, .int .i64 (lack + (i - k) : Nat)] /\ aS w3 w' (fun y => y = p1)) (n - k)
   ⟨k, rfl, by simp, by omega, by omega, by simpa using o1, aS.refl _ _⟩ ?_
  rintro m t w4 ⟨i, rfl, rfl, hi1, hi2, o4, x4⟩
  have c14 := o4.cell (off := 1)
  have c04 := o4.cell (off := 0)
  simp only [aHJ, aHK] at c14 c04
  unfold F6
  by_cases hlt2 : i < n
  .have d3 : decide ((i : Int) < (n : Int)) = true := by simp; omega
   have hle : x0 * 2 ^ (i + 1 - k) <= tB L n := by
    rw [hval]; exact Nat.mul_le_mul_left _ (aHT (by omega) (by omega))
   have hsu : x0 * 2 ^ (i + 1 - k) = x0 * 2 ^ (i - k) * 2 := by rw [show i + 1 - k = i - k + 1 from by omega, aH8, Nat.mul_assoc]
   generalize x0 * 2 ^ (i - k) = y at *
   have e2 : ((lack + (i - k) : Nat) : Int) + 1 = ((lack + (i + 1 - k) : Nat) : Int) := by omega
   have e3 : (y : Int) * 2 = ((y * 2 : Nat) : Int) := by omega
   simp (disch := omega) only [aC, aX, d3, pS, e3, hP, lB, aHI, bM, aT, aA, cA, c14, aI, e2, aF]
   refine tA o4 rfl (by simp) fun w5 o5 x5 s5 => ?_
   simp only [aHL, aHN] at o5
   exact ⟨n - (i + 1), by omega, i + 1, by omega, by rw [hsu]; simp, by omega, by omega, o5, x4.seq x5⟩
  .have d3 : decide ((i : Int) < (n : Int)) = false := by simp; omega
   obtain rfl : i = n := by omega
   rw [<- hval]
   unfold FY
   simp (disch := omega) only [aC, aX, d3, pS, hP, lB, aHI, bM, aT, aA, cA, iF, sV, c04, aI, qT, eA, e1, F1, aHH, aE]
   refine aAA o4 rfl (by simp) fun w5 o5 x5 s5 => ?_
   simp only [aHL, aHN] at o5
   have x35 := x4.seq x5
   refine fin _ _ w5 _ o5 rfl (o2.ext x35 (by omega)) (x02.new x35 hw1) fun w' x => ?_
   rw [hRR]
   refine ⟨_, rfl, ⟨_, rfl, ?_, AtI.sub hat (by omega)⟩, x⟩
   have hst := hs.take' (k := L.length - k) (by omega)
   rw [<- aJu] at hst
   exact hst.ext x (cB _)
 by_cases hgt : L.length < n
 .have d3 : decide ((L.length : Int) < (n : Int)) = true := by simp; omega
  simp (disch := omega) only [aC, aX, d1, iF, aA, sV, dB, bN, aHP, if_false, bP, dM, d2, c0, aI, qT, d3, aF, aE]
  exact tail _ (by omega)
 .have d3 : decide ((L.length : Int) < (n : Int)) = false := by simp; omega
  simp (disch := omega) only [aC, aX, d1, iF, aA, sV, dB, bN, aHP, if_false, bP, dM, d2, c0, aI, qT, d3, aE]
  exact tail _ (by omega)
theorem aB4 {lo hi lack : Nat} {b : aJ3} {L : List Bool} {w : aJ2} (h : RB w lo hi b L lack) (hL : L.length <= 10000000) (hk : lack <= 1000000000) :
 aR pg DG #[b] w (fun r w' => r = .int .i64 ((L.length : Int) - lack) /\ aS w w' cM) := by
 refine ajQ ?_
 obtain ⟨v, rfl, hs, hat⟩ := h
 obtain ⟨a, c, rfl, hc⟩ := Md hs
 unfold aoQ Oy
 refine fV fun w1 o1 x1 s1 => ?_
 simp only [Value.cells] at o1
 have c0 := o1.cell (off := 0)
 have c1 := o1.cell (off := 1)
 simp only [aHJ, aHK] at c0 c1
 simp (disch := omega) only [aC, iF, lB, aHI, aA, cA, sV, c0, aI, qT, c1, eA, aT, true_and]
 exact x1
theorem aGl {x : Nat} (hx : x < 256) (w : aJ2) : aR pg zZ #[.int .u8 x] w (fun r w' => r = .int .i64 (bl x : Nat) /\ w' = w) := by
 refine Vk ?_
 have hg := aoB x hx
 have hs := Pw
 have hb : bl x <= 8 := rE (n := 8) (by omega)
 unfold T5 D0
 change aC pg (HM 9 (.string auJ) _) w _
 simp (disch := omega) only [aC, tQ, aHH, hg, aA, nY, aT, and_true]
def Yf (w : aJ2) (lo hi : Nat) (l : List UInt8) (left : Int) : Prop := ∃ v, cJ w hi [v, .int .i64 left] /\ Bs w v l /\ AtI v lo hi
theorem Yf.ext {w w' : aJ2} {lo hi : Nat} {left : Int} {l : List UInt8} {M : Nat -> Prop} (h : Yf w lo hi l left) (hx : aS w w' M) (hM : ∀ b, lo <= b -> b <= hi -> ¬ M b) (hlh : lo <= hi) : Yf w' lo hi l left := by
 obtain ⟨v, h1, h2, h3⟩ := h
 exact ⟨v, h1.ext hx (hM _ hlh (aHS _)), h2.ext hx (h3 M fun b hb hh => hM b hb (by omega)), h3⟩
theorem alF {v : aJ3} {l : List UInt8} {w : aJ2} (h : Bs w v l) (he : YK l = none) (hl : l.length <= 1000000) :
 aR pg qN #[v] w (fun r w' => r = .tuple #[.pointer none, .int .i64 11] /\ w' = w) := by
 refine Ej ?_
 unfold Fj tG
 rcases aIN l.length with h0 | h0
 .obtain ⟨a, n, c, rfl, hn, hc, hh⟩ := h
  rw [aHU, h0] at hn
  subst hn
  have d1 : (((0 : Nat) : Int) == 0) = true := rfl
  simp (disch := omega) only [aC, gB, true_and, eD, Result.ok.injEq, Next.value.injEq, and_true, aA, eA, aT, pS, cR, d1, jE, bN, if_true, aF, dV]
 .obtain ⟨b, off, c, rfl, hc, hcell⟩ := aCQ h h0
  rw [Jm h0] at he
  have g := hcell (l.length - 1) (by omega)
  generalize (l[l.length - 1]'(by omega)) = x at *
  have hx0 : x.toNat = 0 := by
   rcases aIN x.toNat with h | h
   .exact h
   .rw [if_neg (by omega)] at he; cases he
  rw [hx0] at g
  have d1 : ((l.length : Int) == 0) = false := by simp; intro h; subst h; simp at h0
  have e1 : (l.length : Int) - 1 = ((l.length - 1 : Nat) : Int) := by omega
  have d2 : (((0 : Nat) : Int) == 0) = true := rfl
  simp (disch := omega) only [aC, gB, true_and, eD, Result.ok.injEq, Next.value.injEq, and_true, aA, eA, e1, aT, oU, aHH, mU, pS, cR, d1, dB, bN, aHP, if_false, bP, g, aI, d2, aF]
theorem aoO {v : aJ3} {l : List UInt8} {k : Nat} {w : aJ2} (h : Bs w v l) (he : YK l = some k) (hl : l.length <= 1000000) :
 aR pg qN #[v] w (fun r w' => ∃ hi, r = .tuple #[.pointer (some ⟨hi, 0, none⟩), .int .i64 0] /\ w.heap.size <= hi /\ hi < w'.heap.size /\ Yf w' w.heap.size hi l k /\ aS w w' cM) := by
 refine Ej ?_
 unfold Fj tG
 have h0 := (Pp he).1
 obtain ⟨b, off, c, rfl, hc, hcell⟩ := aCQ h h0
 rw [Jm h0] at he
 have g := hcell (l.length - 1) (by omega)
 generalize (l[l.length - 1]'(by omega)) = x at *
 have hx : x.toNat < 256 := aIc x
 have hx0 : x.toNat ≠ 0 := by
  intro h; rw [if_pos h] at he; cases he
 rw [if_neg hx0] at he
 have he := aH2 he
 have hb1 := Hx hx0
 have hb2 : bl x.toNat <= 8 := rE (n := 8) (by omega)
 have d1 : ((l.length : Int) == 0) = false := by simp; intro h; subst h; simp at h0
 have e1 : (l.length : Int) - 1 = ((l.length - 1 : Nat) : Int) := by omega
 have d2 : ((x.toNat : Int) == 0) = false := by simpa using hx0
 simp (disch := omega) only [aC, gB, eD, Result.ok.injEq, Next.value.injEq, and_true, true_and, aA, eA, e1, aT, oU, aHH, mU, pS, cR, d1, dB, bN, aHP, if_false, bP, g, aI, d2, aE]
 refine (U6 (h.ext (aS.dr _ cM) (cB _)) (by omega)).mono ?_
 rintro r w1 ⟨o1, x1⟩
 have x01 : aS w w1 cM := (aS.dr w cM).seq x1
 have g1 := aoN g x01 (fun h => h)
 have hat := rN.atI o1
 have hs := o1.sl
 obtain ⟨a, c', rfl⟩ := o1.len
 have gd : (dr w).cell? ⟨b, off + (l.length - 1), none⟩ = some (.int .u8 (x.toNat : Nat)) := g
 simp (disch := omega) only [g1, aI, gd, Result.ok.injEq, Next.value.injEq, and_true, aA, true_and]
 refine (aGl hx _).mono ?_
 rintro r w2 ⟨rfl, rfl⟩
 have e2 : 8 * ((l.length - 1 : Nat) : Int) + (bl x.toNat : Nat) - 1 = (k : Int) := by omega
 simp (disch := omega) only [bM, aT, aA, eA, e2, zF, true_and]
 refine fV fun w3 o3 x3 s3 => ?_
 simp only [Value.cells] at o3
 exact ⟨_, rfl, x01.size, by omega, ⟨_, o3, hs.ext x3 (cB _), hat⟩, x01.seq x3⟩
theorem asJ {l : List UInt8} {lo hi : Nat} {left : Int} {w : aJ2} (h : Yf w lo hi l left) :
 aR pg oH #[.pointer (some ⟨hi, 0, none⟩)] w (fun r w' => r = .int .i64 left /\ w' = w) := by
 refine PO ?_
 obtain ⟨v, o, hs, hat⟩ := h
 have c1 := o.cell (off := 1)
 simp only [aHJ, aHK] at c1
 unfold JA wW
 simp (disch := omega) only [aC, oK, aH7, rM, aA, nJ, aHI, cA, and_true, c1, aI, aE]
theorem acW {l : List UInt8} {lo hi n : Nat} {left : Int} {w : aJ2} (h : Yf w lo hi l left) (hlh : lo <= hi) (hn : n <= 56) (h1 : left <= 8 * l.length) (h2 : -1000000000 <= left) (hl : l.length <= 1000000) :
 aR pg mB #[.pointer (some ⟨hi, 0, none⟩), .int .i64 n] w (fun r w' =>
  r = .int .u64 (tB ((bE l).take left.toNat) n) /\ Yf w' lo hi l (left - n) /\ aS w w' (fun y => y = hi)) := by
 refine PE ?_
 unfold KM wS
 by_cases hn0 : n = 0
 .subst hn0
  have d1 : decide (((0 : Nat) : Int) < 1) = true := rfl
  simp (disch := omega) only [aC, oK, aH7, rM, eD, and_true, aA, nJ, aHI, cA, true_and, vB, gA, dB, bN, aHP, if_false, bP, aX, d1, jE, if_true, aF, dV]
  have h0 : tB ((bE l).take left.toNat) 0 = 0 := by
   have := CP ((bE l).take left.toNat) 0
   rw [Nat.pow_zero] at this; omega
  exact ⟨by rw [h0] <;> rfl, by simpa using h, aS.refl _ _⟩
 obtain ⟨v, o, hs, hat⟩ := h
 have c0 := o.cell (off := 0)
 have c1 := o.cell (off := 1)
 have od := dN o
 have c0d := od.cell (off := 0)
 have c1d := od.cell (off := 1)
 simp only [aHJ, aHK] at c0 c1 c0d c1d
 have d1 : decide ((n : Int) < 1) = false := by simp; omega
 have d2 : decide ((56 : Int) < (n : Int)) = false := by simp; omega
 obtain ⟨k0, hk0⟩ : ∃ k0, k0 = left.toNat := ⟨_, rfl⟩
 obtain ⟨th, hth⟩ : ∃ th, th = min n k0 := ⟨_, rfl⟩
 have e1 : (if (0 : Int) > left then 0 else left) = (k0 : Int) := by split <;> omega
 have e2 : (if (n : Int) < (k0 : Int) then (n : Int) else (k0 : Int)) = (th : Int) := by split <;> omega
 have e3 : (k0 : Int) - (th : Int) = ((k0 - th : Nat) : Int) := by omega
 have e4 : (n : Int) - (th : Int) = ((n - th : Nat) : Int) := by omega
 rw [<- hk0]
 have hlen : ((bE l).take k0).length = k0 := by rw [aHZ, lV]; omega
 have hlast : tB ((bE l).take k0) n = tD (((bE l).drop (k0 - th)).take th) * 2 ^ (n - th) := by
  unfold tB
  rw [hlen, <- hth, List.drop_take, show k0 - (k0 - th) = th from by omega]
 have hlt := CP ((bE l).take k0) n
 have hp : 2 ^ n <= 2 ^ 56 := aHT (by omega) hn
 have e5 : IntKind.u64.wrap (((tD (((bE l).drop (k0 - th)).take th) : Nat) : Int) * 2 ^ (min (n - th) IntKind.u64.bits)) = ((tB ((bE l).take k0) n : Nat) : Int) := by
  rw [show min (n - th) IntKind.u64.bits = n - th from aIA (by have h64 : IntKind.u64.bits = 64 := rfl; omega), hlast]
  have e : ((tD (((bE l).drop (k0 - th)).take th) : Nat) : Int) * 2 ^ (n - th) = ((tD (((bE l).drop (k0 - th)).take th) * 2 ^ (n - th) : Nat) : Int) := by simp
  rw [e]
  rw [hlast] at hlt
  exact hP (by omega) (by omega)
 simp (disch := omega) only [aC, oK, aH7, rM, eD, and_true, aA, nJ, aHI, cA, true_and, vB, gA, dB, bN, aHP, if_false, bP, aX, d1, dM, d2, c1, aI, aoW, e1, aEh, e2, c0d, c1d, eA, e4, aT, Result.ok.injEq, Next.value.injEq, lM, hP, e3, aE]
 refine (aDP (l := l) (st := k0 - th) (n := th) (hs.ext (aS.dr _ cM) (cB _)) (by omega) (by omega) (by omega)).mono ?_
 rintro r w1 ⟨rfl, rfl⟩
 simp (disch := omega) only [mN, aHH, e5, c1d, aI, aA, eA, aT, true_and]
 refine tA od rfl (by simp) fun w2 o2 x2 s2 => ?_
 simp only [aHL, aHN] at o2
 have x02 : aS w w2 (fun y => y = hi) := (aS.dr _ _).seq x2
 exact ⟨⟨_, o2, hs.ext x02 (hat _ fun b hb hh => by omega), hat⟩, x02⟩
def oM (L : List T3) (s : Int) : Nat := if 0 <= s then (match L[s.toNat]? with | some e => e.2.1.toNat | none => 0) else 0
def yH (L : List T3) (s : Int) (x : Nat) : Int := if 0 <= s then (match L[s.toNat]? with | some e => e.2.2 + x | none => 0) else 0
theorem ayP {log lo hi : Nat} {a : Option Addr} {k c : Nat} {l : List UInt8} {left : Int} {w : aJ2} (h : Yf w lo hi l left) (hlh : lo <= hi) (hhi : hi < w.heap.size) (hn : log <= 20) (h1 : left <= 8 * l.length) (h2 : -100000000 <= left) (hl : l.length <= 1000000) :
 aR pg Mb #[.agg #[.int .i64 log, .slice a k c], .pointer (some ⟨hi, 0, none⟩)] w (fun r w' => r = .int .i64 (tB ((bE l).take left.toNat) log : Nat) /\ Yf w' lo hi l (left - log) /\ aS w w' (fun y => y = hi)) := by
 refine amI ?_
 unfold asE Q8
 refine fV fun w1 o1 x1 s1 => ?_
 simp only [Value.cells] at o1
 have c0 := o1.cell (off := 0)
 simp only [aHJ, aHK] at c0
 simp (disch := omega) only [aC, Aa, aA, cA, c0, aI]
 refine (acW (h.ext x1 (fun _ _ _ h => h) hlh) hlh (by omega) h1 (by omega) hl).mono ?_
 rintro r w2 ⟨rfl, b2, x2⟩
 have hlt := CP ((bE l).take left.toNat) log
 have hp : 2 ^ log <= 2 ^ 20 := aHT (by omega) hn
 generalize tB ((bE l).take left.toNat) log = x at *
 simp (disch := omega) only [cZ, aT, aA, true_and]
 exact ⟨b2, (x1.mono fun _ _ h => h.elim).seq x2⟩
theorem aBG {log base b lo hi : Nat} {L : List T3} {v : aJ3} {s : Int} {l : List UInt8} {left : Int} {w : aJ2} (ht : Tbl w base b log L v) (hL : Low L) (hlen : L.length <= 1000000) (h : Yf w lo hi l left) (hlh : lo <= hi) (hhi : hi < w.heap.size) (hb : b ≠ hi) (h1 : left <= 8 * l.length) (h2 : -100000000 <= left) (hl : l.length <= 1000000) :
 aR pg P5 #[v, .int .i64 s, .pointer (some ⟨hi, 0, none⟩)] w (fun r w' => r = .int .i64 (yH L s (tB ((bE l).take left.toNat) (oM L s))) /\ Yf w' lo hi l (left - oM L s) /\ aS w w' (fun y => y = hi)) := by
 refine aqG ?_
 obtain ⟨rfl, hb0, ob⟩ := ht
 unfold axU UA
 refine fV fun w1 o1 x1 s1 => ?_
 simp only [Value.cells] at o1
 have c1 := o1.cell (off := 1)
 simp only [aHJ, aHK] at c1
 have hbw := h.ext x1 (fun _ _ _ h => h) hlh
 by_cases hs0 : s < 0
 .have d1 : decide (s < 0) = true := by simpa using hs0
  have e1 : oM L s = 0 := by unfold oM; rw [if_neg (by omega)]
  have e2 : ∀ x, yH L s x = 0 := fun x => by unfold yH; rw [if_neg (by omega)]
  rw [e1]
  simp (disch := omega) only [aC, aX, d1, bZ, aHI, aA, eD, and_true, true_and, dU, jE, bN, if_true, aF, dV]
  exact ⟨by rw [e2], by simpa using hbw, x1.mono fun _ _ h => h.elim⟩
 have d1 : decide (s < 0) = false := by simpa using hs0
 obtain ⟨i, rfl⟩ : ∃ i : Nat, s = i := ⟨s.toNat, by omega⟩
 by_cases hge : L.length <= i
 .have d2 : decide ((L.length : Int) <= (i : Int)) = true := by simp; omega
  have hnone : L[i]? = none := aH3 hge
  have e1 : oM L i = 0 := by unfold oM; simp [hnone]
  have e2 : ∀ x, yH L i x = 0 := fun x => by unfold yH; simp [hnone]
  rw [e1]
  simp (disch := omega) only [aC, aX, d1, bZ, aHI, aA, eD, and_true, true_and, dU, dB, bN, aHP, if_false, bP, c1, aI, iA, pG, d2, aF]
  exact ⟨by rw [e2], by simpa using hbw, x1.mono fun _ _ h => h.elim⟩
 have d2 : decide ((L.length : Int) <= (i : Int)) = false := by simp; omega
 have hlt : i < L.length := by omega
 have l1 := NK (off := i * 3) (ob.ext x1 (fun h => h)) (by rw [kX]; omega)
 rw [atQ hlt] at l1
 obtain ⟨n, hn, hn2, hb0', hb1⟩ := hL _ (aH1 hlt)
 have hsome : L[i]? = some L[i] := aHQ hlt
 have e1 : oM L i = n := by unfold oM; simp [hsome, hn]
 have e2 : ∀ x : Nat, yH L i x = L[i].2.2 + x := fun x => by unfold yH; simp [hsome]
 generalize L[i] = e at *
 obtain ⟨e0, en, eb⟩ := e
 simp only at hn hb0' hb1 l1 e2
 subst hn
 rw [e1, e2]
 simp (disch := omega) only [aC, aX, d1, bZ, aHI, aA, eD, and_true, true_and, dU, dB, bN, aHP, if_false, bP, c1, aI, iA, pG, d2, lW, aHH, l1, aE]
 refine QI fun w3 o3 x3 s3 => ?_
 refine MT o3 rfl (by simp [one]) (by simp) fun w4 o4 x4 s4 => ?_
 simp only [aV, aHL, aHN] at o4
 have x14 : aS w1 w4 cM := x3.new x4 (by omega)
 have od := dN o4
 have k1 := o4.cell (off := 1)
 have k2 := o4.cell (off := 2)
 have k1d := od.cell (off := 1)
 have k2d := od.cell (off := 2)
 simp only [aHJ, aHK] at k1 k2 k1d k2d
 simp (disch := omega) only [lJ, aHI, jY, Result.ok.injEq, Next.value.injEq, and_true, aA, cA, k1d, aI, true_and, k2d]
 have z3 := x3.size
 refine (acW ((hbw.ext x14 (fun _ _ _ h => h) hlh).ext (aS.dr _ cM) (fun _ _ _ h => h) hlh) hlh (by omega) h1 (by omega) hl).mono ?_
 rintro r w5 ⟨rfl, b5, x5⟩
 have x45 : aS w4 w5 (fun y => y = hi) := (aS.dr _ _).seq x5
 have k2e := (o4.ext x45 (by omega)).cell (off := 2)
 simp only [aHJ, aHK] at k2e
 have hlt := CP ((bE l).take left.toNat) n
 have hp : 2 ^ n <= 2 ^ 20 := aHT (by omega) hn2
 generalize tB ((bE l).take left.toNat) n = x at *
 simp (disch := omega) only [k2e, aI, cZ, aT, aA, bM, true_and]
 exact ⟨b5, ((x1.seq x14).mono fun _ _ h => h.elim).seq x45⟩
theorem asQ {a b : Nat} (ha : a < 2 ^ 62) (hb : b < 2 ^ 62) : orI .i64 (a : Int) (b : Int) = ((a ||| b : Nat) : Int) := by
 have h := Nat.or_lt_two_pow ha hb
 unfold orI
 have e : IntKind.i64.bits = 64 := rfl
 rw [e, BitVec.ofInt_natCast, BitVec.ofInt_natCast, BitVec.toNat_or, BitVec.toNat_ofNat, BitVec.toNat_ofNat, aIg (by omega), aIg (by omega)]
 exact aT (by omega) (by have : ((a ||| b : Nat) : Int) < ((2 ^ 62 : Nat) : Int) := by exact_mod_cast h
                         omega)
def atE (w' : aJ2) (lo hi p : Nat) (l : List UInt8) (r : aJ3) : Prop := match SP l with
 | .ok (n, rest) => r = .int .i64 n /\ Rdr w' lo hi p rest 0
 | .error e => e ≠ 0 /\ ∃ (n : Nat) (l' : List UInt8), r = .int .i64 n /\ Rdr w' lo hi p l' e
theorem Xh (n : Nat) (hn : 1 <= n) : Jl [] 0 n = ([], [], 10) := by
 unfold Jl; rw [if_neg (by decide), if_pos (by simp; omega)]
theorem acZ (c : UInt8) (r : List UInt8) : Jl (c :: r) 0 1 = ([c], r, 0) := by
 unfold Jl; rw [if_neg (by decide), if_neg (by simp)] <;> rfl
theorem aDW (c d : UInt8) (r : List UInt8) : Jl (c :: d :: r) 0 2 = ([c, d], r, 0) := by
 unfold Jl; rw [if_neg (by decide), if_neg (by simp)] <;> rfl
theorem aqY (c : UInt8) : Jl [c] 0 2 = ([], [c], 10) := by
 unfold Jl; rw [if_neg (by decide), if_pos (by simp)]
theorem awF {lo hi p : Nat} {l : List UInt8} {w : aJ2} (h : Rdr w lo hi p l 0) (hl : l.length <= 1000000000) :
 aR pg vK #[.pointer (some ⟨p, 0, none⟩)] w (fun r w' => atE w' lo hi p l r /\ aS w w' (fun y => y = p)) := by
 refine SB ?_
 obtain ⟨RR, hRR⟩ : ∃ RR : aJ3 -> aJ2 -> Prop, RR = fun r w' => atE w' lo hi p l r /\ aS w w' (fun y => y = p) := ⟨_, rfl⟩
 rw [<- hRR]
 unfold Ps Ap
 refine (Re (n := 1) h hl (by omega)).mono ?_
 rintro r w1 ⟨rfl, h1, x1⟩
 cases l with
 | nil =>
   rw [Xh 1 (by omega)] at h1 ⊢
   have d1 : decide ((0 : Int) < 128) = true := rfl
   have e0 : ((rS ([] : List UInt8) : Nat) : Int) = 0 := rfl
   simp (disch := omega) only [aC, e0, cZ, aT, aA, aX, d1, eA, mN, aF]
   rw [hRR]
   exact ⟨⟨by decide, 0, [], rfl, h1⟩, x1⟩
 | cons f r =>
   rw [acZ] at h1 ⊢
   have hf : rS [f] = f.toNat := by simp [rS]
   have hf8 : f.toNat < 256 := aIc f
   rw [hf]
   have hN : SP (f :: r) = if f.toNat < 128 then .ok (f.toNat, r) else if f.toNat < 255 then aEg f.toNat r else aCR r := rfl
   generalize f.toNat = x at *
   have ew : IntKind.i64.wrap (x : Int) = x := aT (by omega) (by omega)
   have hl' : r.length <= 1000000000 := by simp at hl; omega
   by_cases h128 : x < 128
   .have d1 : decide ((x : Int) < 128) = true := by simp; omega
    simp (disch := omega) only [aC, cZ, ew, aA, aX, d1, eA, aT, mN, aF]
    rw [hRR]
    refine ⟨?_, x1⟩
    unfold atE
    rw [hN, if_pos h128]
    exact ⟨rfl, h1⟩
   have d1 : decide ((x : Int) < 128) = false := by simp; omega
   by_cases h255 : x < 255
   .have d2 : decide ((x : Int) < 255) = true := by simp; omega
    obtain ⟨m, hm⟩ : ∃ m, m = x - 128 := ⟨_, rfl⟩
    have e1 : (x : Int) - 128 = (m : Int) := by omega
    have e2 : IntKind.i64.wrap ((m : Int) * 2 ^ (min (8 : Int).toNat IntKind.i64.bits)) = ((m * 256 : Nat) : Int) := by
     rw [show min (8 : Int).toNat IntKind.i64.bits = 8 from rfl, show (m : Int) * 2 ^ 8 = ((m * 256 : Nat) : Int) by omega]
     exact aT (by omega) (by omega)
    simp (disch := omega) only [aC, cZ, ew, aA, aX, d1, d2, eA, e1, aT, mN, e2, aF, aE]
    refine (Re (n := 1) h1 hl' (by omega)).mono ?_
    rintro v w2 ⟨rfl, h2, x2⟩
    have x12 := x1.seq x2
    cases r with
    | nil =>
      rw [Xh 1 (by omega)] at h2 ⊢
      have e0 : ((rS ([] : List UInt8) : Nat) : Int) = ((0 : Nat) : Int) := rfl
      have e3 := asQ (a := m * 256) (b := 0) (by omega) (by omega)
      have e4 : IntKind.i64.wrap ((0 : Nat) : Int) = ((0 : Nat) : Int) := rfl
      simp (disch := omega) only [e0, cZ, e4, aA, auM, e3]
      rw [hRR]
      refine ⟨?_, x12⟩
      unfold atE
      rw [hN, if_neg h128, if_pos h255]
      exact ⟨by decide, m * 256, [], by simp, h2⟩
    | cons g s =>
      rw [acZ] at h2 ⊢
      have hg : rS [g] = g.toNat := by simp [rS]
      have hg8 : g.toNat < 256 := aIc g
      rw [hg]
      have hN2 : aEg x (g :: s) = .ok ((x - 128) * 256 + g.toNat, s) := rfl
      generalize g.toNat = y at *
      have ew2 : IntKind.i64.wrap (y : Int) = y := aT (by omega) (by omega)
      have e3 := asQ (a := m * 256) (b := y) (by omega) (by omega)
      have e4 : (m * 256) ||| y = m * 256 + y := by
       rw [Nat.or_comm, show m * 256 = m * 2 ^ 8 from rfl, azP (by omega)]; omega
      rw [e4] at e3
      simp (disch := omega) only [cZ, ew2, aA, auM, e3]
      rw [hRR]
      refine ⟨?_, x12⟩
      unfold atE
      rw [hN, if_neg h128, if_pos h255, hN2, <- hm]
      exact ⟨rfl, h2⟩
   .have d2 : decide ((x : Int) < 255) = false := by simp; omega
    simp (disch := omega) only [aC, cZ, ew, aA, aX, d1, d2, eA, aT, mN, aE]
    refine (Re (n := 2) h1 hl' (by omega)).mono ?_
    rintro v w2 ⟨rfl, h2, x2⟩
    have x12 := x1.seq x2
    rw [if_neg h128, if_neg h255] at hN
    cases r with
    | nil =>
      rw [Xh 2 (by omega)] at h2 ⊢
      have e0 : ((rS ([] : List UInt8) : Nat) : Int) = ((0 : Nat) : Int) := rfl
      have e4 : IntKind.i64.wrap ((0 : Nat) : Int) = ((0 : Nat) : Int) := rfl
      have e5 : IntKind.i64.wrap (((0 : Nat) : Int) + 32512) = ((32512 : Nat) : Int) := rfl
      simp (disch := omega) only [e0, cZ, e4, aA, bM, e5]
      rw [hRR]
      refine ⟨?_, x12⟩
      unfold atE
      rw [hN]
      exact ⟨by decide, 32512, [], rfl, h2⟩
    | cons g s =>
      cases s with
      | nil =>
        rw [aqY] at h2 ⊢
        have e0 : ((rS ([] : List UInt8) : Nat) : Int) = ((0 : Nat) : Int) := rfl
        have e4 : IntKind.i64.wrap ((0 : Nat) : Int) = ((0 : Nat) : Int) := rfl
        have e5 : IntKind.i64.wrap (((0 : Nat) : Int) + 32512) = ((32512 : Nat) : Int) := rfl
        simp (disch := omega) only [e0, cZ, e4, aA, bM, e5]
        rw [hRR]
        refine ⟨?_, x12⟩
        unfold atE
        rw [hN]
        exact ⟨by decide, 32512, [g], rfl, h2⟩
      | cons k s =>
        rw [aDW] at h2 ⊢
        have hg : rS [g, k] = g.toNat + 256 * k.toNat := by simp [rS]
        have hg8 : g.toNat < 256 := aIc g
        have hk8 : k.toNat < 256 := aIc k
        have hN3 : aCR (g :: k :: s) = .ok (g.toNat + 256 * k.toNat + 32512, s) := rfl
        rw [hg]
        have hy : g.toNat + 256 * k.toNat < 65536 := by omega
        generalize g.toNat + 256 * k.toNat = y at *
        have ew2 : IntKind.i64.wrap (y : Int) = y := aT (by omega) (by omega)
        obtain ⟨z, hz⟩ : ∃ z, z = y + 32512 := ⟨_, rfl⟩
        have e5 : (y : Int) + 32512 = (z : Int) := by omega
        rw [<- hz] at hN3
        simp (disch := omega) only [cZ, ew2, aA, bM, e5, aT]
        rw [hRR]
        refine ⟨?_, x12⟩
        unfold atE
        rw [hN, hN3]
        exact ⟨rfl, h2⟩
abbrev TT := Nat × List T3
def Ta (m k : Nat) : Nat := m / 2 ^ (6 - 2 * k) % 4
def SD (t : Nat -> TT) (k : Nat) (x : TT) : Nat -> TT := fun i => if i = k then x else t i
def D4 (m : Nat) (o : Nat -> TT) : Nat -> (Nat -> TT) -> List UInt8 -> Except Int ((Nat -> TT) × List UInt8)
 | 0, t, l => .ok (t, l)
 | j + 1, t, l => match gG ((2 - j : Nat) : Int) ((Ta m (2 - j) : Nat) : Int) l (o (2 - j)) with
   | .error e => .error e
   | .ok (x, n) => D4 m o j (SD t (2 - j) x) (l.drop n)
def runT (t : Nat -> TT) (B : List Bool) (n : Nat) (k : Int) : List Sq × Int :=
 sqR (t 0).2 (t 1).2 (t 2).2 B n (rdL B k (t 0).1 : Nat) (rdL B (k - (t 0).1) (t 1).1 : Nat) (rdL B (k - (t 0).1 - (t 1).1) (t 2).1 : Nat) (k - (t 0).1 - (t 1).1 - (t 2).1)
def Dd (t : Nat -> TT) (n : Nat) (l : List UInt8) : Except Int (List Sq × (Nat -> TT)) := match YK l with
 | none => .error 11
 | some k => if (runT t (bE l) n k).2 < 0 then .error 11 else if 0 < (runT t (bE l) n k).2 then .error 15 else .ok ((runT t (bE l) n k).1, t)
def aqZ (o : Nat -> TT) (n : Nat) : List UInt8 -> Except Int (List Sq × (Nat -> TT))
 | [] => .error 10
 | m :: l => if m.toNat % 4 ≠ 0 then .error 11 else match D4 m.toNat o 3 o l with
   | .error e => .error e
   | .ok (t, r) => Dd t n r
def tC (l : List UInt8) (o : Nat -> TT) : Except Int (List Sq × (Nat -> TT)) := match SP l with
 | .error e => .error e
 | .ok (n, r) => if n = 0 then (if r = [] then .ok ([], o) else .error 15) else aqZ o n r
def anQ (o : Nat -> TT) : Prop := ∀ k, k < 3 -> (o k).2 ≠ [] -> yD k (o k)
theorem amX (m k : Nat) : Ta m k < 4 := aI1 _ (by omega)
theorem asM {m : Nat} {o : Nat -> TT} (ho : anQ o) : ∀ {j : Nat} {t t' : Nat -> TT} {l l' : List UInt8}, j <= 3 -> (∀ k, k + j < 3 -> yD k (t k)) -> D4 m o j t l = .ok (t', l') -> (∀ k, k < 3 -> yD k (t' k)) /\ l'.length <= l.length
 | 0, t, t', l, l', _, hg, h => by cases h; exact ⟨fun k hk => hg k hk, aHS _⟩
 | j + 1, t, t', l, l', hj, hg, h => by
   unfold D4 at h
   split at h
   .cases h
   .rename_i x n hr
    obtain ⟨h1, h2⟩ := anF (k := 2 - j) (by omega) (fun _ hne => ho (2 - j) (by omega) hne) hr
    obtain ⟨h3, h4⟩ := asM ho (by omega) (fun k hk => by
     unfold SD
     split
     .rename_i he; rw [he]; exact h1
     .exact hg k (by omega)) h
    exact ⟨h3, by rw [aIb] at h4; omega⟩
theorem YY {k : Nat} {T : TT} (h : yD k T) {s : Nat} (hs : s < T.2.length) : ∃ e c : Nat × Nat, T.2[s]? = some ((e.1 : Int), (e.2 : Int), (c.1 : Int)) /\ e.1 < lC k /\ e.2 <= 20 /\ c.1 <= 100000 /\ c.1 + 2 ^ e.2 <= T.2.length := by
 have hm := aH1 hs
 obtain ⟨n, h1, h2, h3, h4⟩ := h.low _ hm
 obtain ⟨c, h5, h6⟩ := h.sym _ hm
 have h7 := h.nxt _ hm
 have he : T.2[s]? = some T.2[s] := aHQ hs
 generalize T.2[s] = e at *
 obtain ⟨a, b, d⟩ := e
 simp only at h1 h2 h3 h4 h5 h6 h7
 obtain ⟨y, rfl⟩ : ∃ y : Nat, d = y := ⟨d.toNat, by omega⟩
 subst h1 h5
 rw [aHH] at h7
 refine ⟨(c, n), (y, 0), he, h6, h2, by simp only; omega, ?_⟩
 simp only
 generalize 2 ^ n = z at *
 omega
theorem Xl (B : List Bool) (left : Int) (n : Nat) : rdL B left n < 2 ^ n := CP _ _
theorem aAE {L : List T3} {s : Nat} {c : Nat} {x y : Int} (h : L[s]? = some ((c : Int), x, y)) : sAt L s = c := by
 unfold sAt; rw [if_pos (by omega), aHH, h] <;> rfl
theorem QD {k : Nat} {T : TT} (h : yD k T) {s : Nat} (hs : s < T.2.length) (B : List Bool) (left : Int) : ∃ s' : Nat, (nR T.2 s B left).1 = s' /\ s' < T.2.length /\ left - 20 <= (nR T.2 s B left).2 /\ (nR T.2 s B left).2 <= left := by
 obtain ⟨e, c, h1, h2, h3, h4, h5⟩ := YY h hs
 have hb : bAt T.2 s = e.2 := by unfold bAt; rw [if_pos (by omega), aHH, h1] <;> rfl
 have hr := Xl B left e.2
 refine ⟨c.1 + rdL B left e.2, ?_, by omega, ?_, ?_⟩
 .unfold nR nAt
  rw [hb, if_pos (by omega), aHH, h1]
  rfl
 .unfold nR; simp only; rw [hb]; omega
 .unfold nR; simp only; rw [hb]; omega
theorem IN {k : Nat} (hk : k < 3) {T : TT} (h : yD k T) {s : Nat} (hs : s < T.2.length) (B : List Bool) (left : Int) : (vR k T.2 s B left).1 < 4294967296 /\ left - 31 <= (vR k T.2 s B left).2 /\ (vR k T.2 s B left).2 <= left := by
 obtain ⟨e, c, h1, h2, h3, h4, h5⟩ := YY h hs
 have ha := ZF hk e.1
 have he := aES hk e.1 h2
 have hr := Xl B left ((kQ k).getD e.1 0)
 unfold vR
 rw [aAE h1]
 simp only
 refine ⟨by omega, by omega, by omega⟩
theorem WQ {k base lo hi b : Nat} {T : TT} {v : aJ3} {s : Nat} {l : List UInt8} {left : Int} {w : aJ2} (hg : tR w) (hk : k < 3) (ht : Tbl w base b T.1 T.2 v) (hG : yD k T) (hs : s < T.2.length) (h : Yf w lo hi l left) (hlh : lo <= hi) (hhi : hi < w.heap.size) (h1 : left <= 8 * l.length) (h2 : -100000000 <= left) (hl : l.length <= 1000000) :
 aR pg pI #[.int .i64 k, v, .int .i64 s, .pointer (some ⟨hi, 0, none⟩)] w (fun r w' => r = .int .u32 ((vR k T.2 s (bE l) left).1 : Nat) /\ Yf w' lo hi l (vR k T.2 s (bE l) left).2 /\ aS w w' (fun y => y = hi)) := by
 refine Ul ?_
 obtain ⟨RR, hRR⟩ : ∃ RR : aJ3 -> aJ2 -> Prop, RR = fun r w' => r = .int .u32 ((vR k T.2 s (bE l) left).1 : Nat) /\ Yf w' lo hi l (vR k T.2 s (bE l) left).2 /\ aS w w' (fun y => y = hi) := ⟨_, rfl⟩
 rw [<- hRR]
 have hlen9 : T.2.length <= 512 := by rw [hG.len]; exact aHT (by omega) hG.lg
 obtain ⟨rfl, hb0, ob⟩ := ht
 unfold RU B3
 refine fV fun w1 o1 x1 s1 => ?_
 simp only [Value.cells] at o1
 have c1 := o1.cell (off := 1)
 simp only [aHJ, aHK] at c1
 have hbw := h.ext x1 (fun _ _ _ h => h) hlh
 have d1 : decide ((s : Int) < 0) = false := by simp
 have d2 : decide ((T.2.length : Int) <= (s : Int)) = false := by simp; omega
 obtain ⟨e, c, e1, e2, e3, e4, e5⟩ := YY hG hs
 have k0 := (ob.ext x1 (fun h => h)).cell (off := s * 3)
 rw [(Qd e1).1] at k0
 have hc53 : lC k <= 53 := by rcases (show k = 0 ∨ k = 1 ∨ k = 2 by omega) with rfl | rfl | rfl <;> decide
 have ew : IntKind.i64.wrap (e.1 : Int) = (e.1 : Int) := aT (by omega) (by omega)
 simp (disch := omega) only [aC, aX, d1, bZ, aHI, aA, dU, dB, bN, aHP, if_false, bP, c1, aI, iA, pG, d2, lW, aHH, fS, mU, k0, nY, ew, aE]
 refine (aEo (hg.ext x1) hk e2).mono ?_
 rintro r w2 ⟨rfl, x2⟩
 have ha := ZF hk e.1
 have he := aES hk e.1 e2
 have hr := Xl (bE l) left ((kQ k).getD e.1 0)
 have hv : vR k T.2 s (bE l) left = ((rO k).getD e.1 0 + rdL (bE l) left ((kQ k).getD e.1 0), left - (kQ k).getD e.1 0) := by unfold vR; rw [aAE e1]
 rw [hv] at hRR
 simp (disch := omega) only [RQ, Sd, RN, aA]
 refine (acW (hbw.ext x2 (fun _ _ _ h => h) hlh) hlh (by omega) h1 (by omega) hl).mono ?_
 rintro r w3 ⟨rfl, b3, x3⟩
 have hr' : tB ((bE l).take left.toNat) ((kQ k).getD e.1 0) = rdL (bE l) left ((kQ k).getD e.1 0) := rfl
 rw [hr'] at *
 generalize rdL (bE l) left ((kQ k).getD e.1 0) = x at *
 generalize (kQ k).getD e.1 0 = n at *
 generalize (rO k).getD e.1 0 = y at *
 generalize 2 ^ n = z at *
 have ew2 : IntKind.u32.wrap (x : Int) = (x : Int) := w32 (by omega) (by omega)
 have ew3 : IntKind.u32.wrap ((y : Int) + (x : Int)) = ((y + x : Nat) : Int) := by rw [w32 (by omega) (by omega)]; omega
 simp (disch := omega) only [zV, ew2, aA, bM, ew3]
 rw [hRR]
 exact ⟨rfl, b3, ((x1.seq x2).mono fun _ _ h => h.elim).seq x3⟩
theorem UW {w : aJ2} {b : Nat} {cs cs' : List aJ3} (h : cJ w b cs) (h' : cJ w b cs') : cs = cs' := by
 obtain ⟨T, lo, hi, h1, _⟩ := h
 obtain ⟨T', lo', hi', h2, _⟩ := h'
 rw [h1] at h2
 have h3 := aH2 h2
 injection h3 with h4
 simpa using congrArg Array.toList h4
theorem GF.own {w w' : aJ2} {base p : Nat} {T : TT} {v : aJ3} {cs : List aJ3} (h : GF w base T v) (o : cJ w p cs) (h0 : 0 < cs.length) (hc : ∀ u, cs[0]? ≠ some (.int .u8 u)) (x : aS w w' (fun y => y = p)) : GF w' base T v := by
 rcases h with h | ⟨b, h1, h2, h3⟩
 .exact .inl h
 .refine .inr ⟨b, h1, h2, h3.ext x ?_⟩
  rintro rfl
  have e := UW h3 o
  subst e
  cases hT : T.2 with
  | nil => rw [hT] at h0; simp [fe] at h0
  | cons a r =>
    have := (Qd (k := .u8) (L := T.2) (i := 0) (e := a) (by rw [hT] <;> rfl)).1
    exact hc _ this
def tvL (T : TT) (a : Option Addr) : aJ3 := .agg #[.int .i64 T.1, .slice a T.2.length T.2.length]
def c6 (o : Nat -> TT) (a : Nat -> Option Addr) : List aJ3 := [.int .i64 (o 0).1, .slice (a 0) (o 0).2.length (o 0).2.length, .int .i64 (o 1).1, .slice (a 1) (o 1).2.length (o 1).2.length, .int .i64 (o 2).1, .slice (a 2) (o 2).2.length (o 2).2.length]
def OO (w : aJ2) (o : Nat -> TT) (a : Nat -> Option Addr) : Prop := ∀ k, k < 3 -> GF w 0 (o k) (tvL (o k) (a k))
theorem OO.ext {w w' : aJ2} {o : Nat -> TT} {a : Nat -> Option Addr} (h : OO w o a) (x : aS w w' cM) : OO w' o a := fun k hk => (h k hk).ext x fun _ _ _ h => h
theorem OO.own {w w' : aJ2} {o : Nat -> TT} {a : Nat -> Option Addr} {p : Nat} {cs : List aJ3} (h : OO w o a) (ho : cJ w p cs) (h0 : 0 < cs.length) (hc : ∀ u, cs[0]? ≠ some (.int .u8 u)) (x : aS w w' (fun y => y = p)) : OO w' o a := fun k hk => (h k hk).own ho h0 hc x
theorem OO.rdr {w w' : aJ2} {o : Nat -> TT} {a : Nat -> Option Addr} {lo hi p : Nat} {l : List UInt8} {e : Int} (h : OO w o a) (hr : Rdr w lo hi p l e) (x : aS w w' (fun y => y = p)) : OO w' o a := by
 obtain ⟨_, _, v, ho, hb, _⟩ := hr
 obtain ⟨va, vc, rfl, _⟩ := hb.len
 exact h.own ho (by simp) (fun u => by simp) x
def upA (a : Nat -> Option Addr) (k : Nat) (x : Option Addr) : Nat -> Option Addr := fun i => if i = k then x else a i
theorem OO.up {w : aJ2} {o : Nat -> TT} {a : Nat -> Option Addr} {k : Nat} {T : TT} {x : Option Addr} (h : OO w o a) (hx : GF w 0 T (tvL T x)) : OO w (SD o k T) (upA a k x) := fun i hi => by
 unfold SD upA
 split
 .exact hx
 .exact h i hi
def MB (o : Nat -> TT) : List UInt8 -> Except Int ((Nat -> TT) × List UInt8)
 | [] => .error 10
 | m :: l => if m.toNat % 4 ≠ 0 then .error 11 else D4 m.toNat o 3 o l
def Gy : aJ3 := .agg #[(.int .i64 0), (.slice none 0 0), (.int .i64 0), (.slice none 0 0), (.int .i64 0), (.slice none 0 0)]
def aAG (w : aJ2) (lo p : Nat) (x : Except Int ((Nat -> TT) × List UInt8)) (r : aJ3) : Prop := match x with
 | .error e => r = .tuple #[Gy, .int .i64 e] /\ e ≠ 0
 | .ok (t, l) => ∃ a, r = .tuple #[.agg (c6 t a).toArray, .int .i64 0] /\ OO w t a /\ Rdr w lo w.heap.size p l 0
theorem PW {a mode : Int} {l : List UInt8} {T : TT} {e : Int} (h : gG a mode l T = .error e) : e ≠ 0 := by
 unfold gG at h
 split at h
 .cases h; decide
 split at h
 .cases h
 split at h
 .split at h
  .cases h; decide
  .split at h
   .cases h; decide
   .cases h
 split at h
 .split at h
  .cases h; decide
  .cases h
 .split at h
  .rename_i e' he
   cases h
   exact aeL he
  .cases h
theorem aBs {o : Nat -> TT} {l : List UInt8} {e : Int} (h : MB o l = .error e) : e ≠ 0 := by
 have ht : ∀ {m j : Nat} {t : Nat -> TT} {l : List UInt8}, D4 m o j t l = .error e -> e ≠ 0 := by
  intro m j
  induction j with
  | zero => intro t l h; cases h
  | succ j ih =>
    intro t l h
    unfold D4 at h
    split at h
    .rename_i e' he
     cases h
     exact PW he
    .exact ih h
 cases l with
 | nil => cases h; decide
 | cons m l =>
   have hh : MB o (m :: l) = if m.toNat % 4 ≠ 0 then .error 11 else D4 m.toNat o 3 o l := rfl
   rw [hh] at h
   by_cases hm : m.toNat % 4 ≠ 0
   .rw [if_pos hm] at h; cases h; decide
   .rw [if_neg hm] at h; exact ht h
theorem awT {x : Nat} (h : x < 256) : aoM .i64 (x : Int) 3 = ((x % 4 : Nat) : Int) := by
 have : ∀ k : Fin 256, aoM .i64 (k.val : Int) 3 = ((k.val % 4 : Nat) : Int) := by decide +kernel
 exact this ⟨x, h⟩
theorem aqR (o : Nat -> TT) (a : Nat -> Option Addr) {k : Nat} (h : k < 3) : ((c6 o a).drop (k * 2)).take 2 = [.int .i64 (o k).1, .slice (a k) (o k).2.length (o k).2.length] := by
 rcases (show k = 0 ∨ k = 1 ∨ k = 2 by omega) with rfl | rfl | rfl <;> rfl
theorem aAp (o : Nat -> TT) (a : Nat -> Option Addr) {k : Nat} (h : k < 3) (T : TT) (x : Option Addr) : aV (c6 o a) (k * 2) [.int .i64 T.1, .slice x T.2.length T.2.length] = c6 (SD o k T) (upA a k x) := by
 rcases (show k = 0 ∨ k = 1 ∨ k = 2 by omega) with rfl | rfl | rfl <;> rfl
theorem aET {x k : Nat} (hx : x < 256) (h : k < 3) : aoM .i64 ((x : Int).fdiv (2 ^ min (6 - 2 * k) IntKind.i64.bits)) 3 = ((Ta x k : Nat) : Int) := by
 have h64 : IntKind.i64.bits = 64 := rfl
 have hf : (x : Int).fdiv (2 ^ min (6 - 2 * k) IntKind.i64.bits) = ((x / 2 ^ (6 - 2 * k) : Nat) : Int) := by
  rw [h64, aIA (by omega), show (2 : Int) ^ (6 - 2 * k) = ((2 ^ (6 - 2 * k) : Nat) : Int) by simp, aJn _ (Int.natCast_nonneg _)]
  rfl
 rw [hf, awT (Nat.lt_of_le_of_lt (aJI _ _) hx)]
 rfl
theorem Q5 {a mode : Int} {n : Nat} {l : List UInt8} {T T' : TT} (h : gG a mode l T = .ok (T', n)) : n <= l.length := by
 unfold gG at h
 split at h
 .cases h
 split at h
 .cases h; exact aIT _
 split at h
 .split at h
  .cases h
  .split at h
   .cases h
   .cases h; simp
 split at h
 .split at h
  .cases h
  .cases h; exact aIT _
 .split at h
  .cases h
  .rename_i lg ps u hr
   cases h
   have h4 := anT hr
   rw [lV] at h4
   omega
theorem avD {p : Nat} {w : aJ2} {x0 x1 x2 : Int} {a0 a1 a2 : Option Addr} {n0 n1 n2 : Nat} {c : List aJ3} {e : aJ3} (o : cJ w p c) (hc : c.length = 6) {RR : aJ3 -> aJ2 -> Prop}
 (hR : ∀ w', aS w w' (fun y => y = p) -> RR (.tuple #[.agg #[.int .i64 x0, .slice a0 n0 n0, .int .i64 x1, .slice a1 n1 n1, .int .i64 x2, .slice a2 n2 n2], e]) w') :
 aC pg (aJ 29 (.pointer (some ⟨p, 0, none⟩)) (.agg #[.int .i64 x0, .slice a0 n0 n0, .int .i64 x1, .slice a1 n1 n1, .int .i64 x2, .slice a2 n2 n2])) w fun _u w => kI pg 29 (.pointer (some ⟨p, 0, none⟩)) w fun r0 => RR (.tuple #[r0, e]) w := by
 match c, hc with
 | [c0, c1, c2, c3, c4, c5], _ =>
   refine jF o rfl (by simp [one]) (by simp) fun w6 o6 x6 s6 => ?_
   refine Gx o6 (by simp [aV]) ?_
   simp only [aV, aHL, aHN, aHM, aHG, aHO]
   exact hR _ x6
theorem aFT {w0 w : aJ2} {lo hi p : Nat} {l : List UInt8} {o : Nat -> TT} {a : Nat -> Option Addr} (hg : tR w0) (x0 : aS w0 w cM) (hp : w0.heap.size <= p) (h : Rdr w lo hi p l 0) (hhi : hi <= w.heap.size) (hl : l.length <= 1000000) (hT : OO w o a) (hO : ∀ k, k < 3 -> (o k).2.length <= 1000000) :
 aR pg tY #[.pointer (some ⟨p, 0, none⟩), .agg (c6 o a).toArray] w (fun r w' => aAG w' lo p (MB o l) r /\ aS w w' (fun y => y = p)) := by
 refine VH ?_
 obtain ⟨RR, hRR⟩ : ∃ RR : aJ3 -> aJ2 -> Prop, RR = fun r w' => aAG w' lo p (MB o l) r /\ aS w w' (fun y => y = p) := ⟨_, rfl⟩
 rw [<- hRR]
 have hpl := h.lt
 have err : ∀ {e : Int} {w' : aJ2}, MB o l = .error e -> aS w w' (fun y => y = p) -> RR (.tuple #[Gy, .int .i64 e]) w' := fun h x => by
  rw [hRR]; unfold aAG; rw [h]; exact ⟨⟨rfl, aBs h⟩, x⟩
 unfold TP Cg B6
 refine fV fun w1 o1 x1 s1 => ?_
 have o1 : cJ w1 w.heap.size (c6 o a) := o1
 refine iO fun w2 o2 x2 s2 => ?_
 have x12 := x1.seq x2
 have o1 := o1.ext x2 (fun h => h)
 have h2 := h.ext x12 (fun _ _ _ h => h)
 have hT2 := hT.ext x12
 refine (Re (n := 1) h2 (by omega) (by omega)).mono ?_
 rintro r w3 ⟨rfl, h3, x3⟩
 have hT3 := hT2.rdr h2 x3
 have o1 := o1.ext x3 (by omega)
 have o2 := o2.ext x3 (by omega)
 have x13 : aS w w3 (fun y => y = p) := (x12.mono fun _ _ h => h.elim).seq x3
 cases l with
 | nil =>
   rw [Xh 1 (by omega)] at h3 ⊢
   have e0 : ((rS ([] : List UInt8) : Nat) : Int) = 0 := rfl
   have e1 : IntKind.i64.wrap (0 : Int) = 0 := rfl
   have n1 : ((10 : Int) != 0) = true := rfl
   simp (disch := omega) only [aC, e0, cZ, e1, dL, aA, R9, eT]
   refine (UU h3).mono ?_
   rintro r w4 ⟨rfl, hw⟩
   rw [hw]; clear hw w4
   simp (disch := omega) only [eT, n1, aA, aF]
   refine (UU h3).mono ?_
   rintro r w4 ⟨rfl, hw⟩
   rw [hw]; clear hw w4
   exact avD o2 rfl fun w' x => err rfl (x13.trans x fun b hb h => by omega)
 | cons m l =>
   rw [acZ] at h3 ⊢
   have h3 : Rdr w3 lo hi p l 0 := h3
   have hm8 : m.toNat < 256 := aIc m
   have hm1 : rS [m] = m.toNat := by simp [rS]
   have ew : IntKind.i64.wrap (m.toNat : Int) = (m.toNat : Int) := aT (by omega) (by omega)
   have ea := awT hm8
   have n0 : ((0 : Int) != 0) = false := rfl
   have hH : MB o (m :: l) = if m.toNat % 4 ≠ 0 then .error 11 else D4 m.toNat o 3 o l := rfl
   rw [hm1]
   have hl' : l.length <= 1000000 := by simp at hl; omega
   generalize m.toNat = x at *
   simp (disch := omega) only [aC, cZ, ew, dL, aA, R9, eT]
   refine (UU h3).mono ?_
   rintro r w4 ⟨rfl, hw⟩
   rw [hw]; clear hw w4
   by_cases h4 : x % 4 ≠ 0
   .have n1 : (((x % 4 : Nat) : Int) != 0) = true := by simp; omega
    rw [if_pos h4] at hH
    simp (disch := omega) only [eT, n0, ea, n1, aF, aA, aE]
    exact avD o2 rfl fun w' x => err hH (x13.trans x fun b hb h => by omega)
   rw [if_neg h4] at hH
   have n1 : (((x % 4 : Nat) : Int) != 0) = false := by simp; omega
   simp (disch := omega) only [eT, n0, ea, n1, aE, aA]
   refine (aoS h3).mono ?_
   rintro r w4 ⟨rfl, hw⟩
   rw [hw]; clear hw w4
   refine (arK h3 (by omega) (by omega)).mono ?_
   rintro bv w4 ⟨hb4, hat4, h4r, x4⟩
   have htk : Jl l 0 l.length = (l, [], 0) := by unfold Jl; rw [if_neg (by decide), if_neg (by omega), aJi, List.drop_length]
   rw [htk] at hb4 h4r
   simp only at hb4 h4r
   have o1 := o1.ext x4 (by omega)
   have o2 := o2.ext x4 (by omega)
   have hT4 := hT3.rdr h3 x4
   have x14 := x13.seq x4
   have l1 := mE (off := 0) o1 (by simp [c6])
   simp only [c6, aHM, aHG, aHO] at l1
   simp (disch := omega) only [l1, aA]
   refine iO fun w5 o5 x5 s5 => ?_
   refine jF o5 rfl (by simp [one]) (by simp) fun w6 o6 x6 s6 => ?_
   have o6 : cJ w6 w4.heap.size (c6 o a) := o6
   have x46 : aS w4 w6 cM := x5.new x6 (aHS _)
   have o1 := o1.ext x46 (fun h => h)
   have o2 := o2.ext x46 (fun h => h)
   have hT6 := hT4.ext x46
   have h6 := h4r.ext x46 (fun _ _ _ h => h)
   have hb6 := hb4.ext x46 (cB _)
   have x16 := x14.more x46
   have z3 := x3.size
   have z4 := x4.size
   have z6 := x46.size
   unfold Cb BN B0 By Cd
   obtain ⟨p8, hp8⟩ : ∃ p8, p8 = w4.heap.size := ⟨_, rfl⟩
   obtain ⟨p3, hp3⟩ : ∃ p3, p3 = w.heap.size := ⟨_, rfl⟩
   obtain ⟨p4, hp4⟩ : ∃ p4, p4 = w1.heap.size := ⟨_, rfl⟩
   rw [<- hp8] at o6 ⊢
   rw [<- hp3] at o1 ⊢
   rw [<- hp4] at o2 ⊢
   refine cG.rule (fun n (t : aJ3 × aJ3) w' => ∃ (j : Nat) (b : aJ3) (l' : List UInt8) (t' : Nat -> TT) (a' : Nat -> Option Addr), n = j /\ j <= 3 /\ t = (b, .int .i64 (3 - j : Nat)) /\ Bs w' b l' /\ AtS b (fun b => lo <= b /\ b < hi /\ b ≠ p) /\ l'.length <= l.length /\ cJ w' p8 (c6 t' a') /\ OO w' t' a' /\ D4 x o 3 o l = D4 x o j t' l' /\ aS w6 w' (fun y => y = p8)) 3
    ⟨3, bv, l, o, a, rfl, aHS _, rfl, hb6, hat4, aHS _, o6, hT6, rfl, aS.refl _ _⟩ ?_
   rintro j t w7 ⟨n, bb, l', t', a', rfl, hj, rfl, hb7, hat7, hl7, o8, hT7, hE, x7⟩
   unfold xM C5 CY DM My Dh
   have o17 := o1.ext x7 (by omega)
   have o27 := o2.ext x7 (by omega)
   have x07 : aS w0 w7 cM := by
    have : aS w w7 (fun y => y = p ∨ y = p8) := (x16.mono fun _ _ h => .inl h).seq (x7.mono fun _ _ h => .inr h)
    have z0 := x0.size
    exact x0.trans this fun b hb h => by omega
   have hg7 := hg.ext x07
   have hTo : OO w7 o a := fun k hk => (hT6 k hk).own o6 (by simp [c6]) (fun u => by simp [c6]) x7
   obtain ⟨ba, bc, rfl, hbc⟩ := hb7.len
   rw [aHU] at hb7 hat7 hbc ⊢
   have err7 : ∀ {e : Int} {w' : aJ2}, D4 x o j t' l' = .error e -> aS w7 w' (fun y => y = p4) -> RR (.tuple #[Gy, .int .i64 e]) w' := fun h x => by
    refine err (by rw [hH, hE, h]) ?_
    have x6' : aS w6 w7 (fun y => y = p ∨ y = p3 ∨ y = p4 ∨ y = p8) := x7.mono fun _ _ h => .inr (.inr (.inr h))
    exact (((x16.mono fun _ _ h => .inl h).seq x6').seq (x.mono fun _ _ h => .inr (.inr (.inl h)))).mono fun b hb h => by omega
   rcases j with _ | n
   .have d1 : decide (((3 - 0 : Nat) : Int) < 3) = false := rfl
    simp (disch := omega) only [aC, aX, d1, pS, aT, eD, and_true, true_and, aA, eA, xL, R9, Result.ok.injEq, Next.value.injEq, aE]
    unfold xK
    refine (aiI hb7 (by omega)).mono ?_
    rintro r w8 ⟨q, rfl, h8, x8⟩
    have o8' := o8.ext x8 (fun h => h)
    have hT8 := hT7.ext x8
    have hq1 := h8.1
    have hq2 := h8.2.1
    have hq8 := h8
    obtain ⟨_, _, qv, oq, hbq, hatq⟩ := h8
    obtain ⟨qa, qc, rfl, hqc⟩ := hbq.len
    rw [aHU] at hbq oq hqc hatq
    have lq := ZC (off := 0) oq (by simp)
    simp only [aHM, aHG, aHO] at lq
    simp (disch := omega) only [aC, rM, aA, lq]
    have hp7 : Rdr w7 lo hi p [] 0 := h6.ext x7 (fun b h1 h2 => by omega)
    have hp8 := hp7.ext x8 (fun _ _ _ h => h)
    obtain ⟨hpl1, hpl2, pv, op, _, _⟩ := hp8
    refine Yh op rfl (by simp [one]) (by simp) fun w9 o9 x9 s9 => ?_
    simp only [aV, aHL, aHN] at o9
    have z8 := x8.size
    have hT9 := hT8.own op (by simp) (fun u => by
     obtain ⟨pa, pn, pc, rfl, _⟩ : ∃ pa pn pc, pv = .slice pa pn pc /\ True := by
      rename_i hbp _
      obtain ⟨pa, pc, rfl, _⟩ := hbp.len
      exact ⟨_, _, _, rfl, trivial⟩
     simp) x9
    have z7 := x7.size
    have l8 := mE (off := 0) (o8'.ext x9 (by omega)) (by simp [c6])
    simp only [c6, aHM, aHG, aHO] at l8
    simp (disch := omega) only [l8, aA]
    refine avD ((o27.ext x8 (fun h => h)).ext x9 (by omega)) rfl fun w' x => ?_
    rw [hRR]
    unfold aAG
    rw [hH, hE]
    have hz' := x.size
    have hT' := fun (w9 w' : aJ2) (h : OO w9 t' a') (o2 : cJ w9 p4 [Value.int IntKind.i64 0, Value.slice none 0 0, Value.int IntKind.i64 0, Value.slice none 0 0, Value.int IntKind.i64 0, Value.slice none 0 0]) (x : aS w9 w' (fun y => y = p4)) => h.own o2 (by simp) (fun u => by simp) x
    refine ⟨⟨a', rfl, hT' _ _ hT9 ((o27.ext x8 (fun h => h)).ext x9 (by omega)) x, ?_⟩, ?_⟩
    .have hbq' := (hbq.ext x9 (hatq _ fun b hb => by omega)).ext x (hatq _ fun b hb => by omega)
     exact ⟨hpl1, by omega, _, o9.ext x (by omega), hbq', hatq.mono fun b hb => by omega⟩
    .have y1 : aS w w8 (fun y => y = p ∨ y = p4 ∨ y = p8) := ((x16.mono fun _ _ h => .inl h).seq (x7.mono fun _ _ h => .inr (.inr h))).seq (x8.mono fun _ _ h => h.elim)
     exact ((y1.seq (x9.mono fun _ _ h => .inl h)).seq (x.mono fun _ _ h => .inr (.inl h))).mono fun b hb h => by omega
   .obtain ⟨k, hk⟩ : ∃ k, k = 2 - n := ⟨_, rfl⟩
    have hk3 : k < 3 := by omega
    have ek : ((3 - (n + 1) : Nat) : Int) = (k : Int) := by omega
    have d1 : decide ((k : Int) < 3) = true := by simp; omega
    have e2 : (2 : Int) * (k : Int) = ((2 * k : Nat) : Int) := by omega
    have e6 : (6 : Int) - ((2 * k : Nat) : Int) = ((6 - 2 * k : Nat) : Int) := by omega
    have em := aET (x := x) (k := k) hm8 hk3
    have hS : D4 x o (n + 1) t' l' = match gG (k : Int) ((Ta x k : Nat) : Int) l' (o k) with
     | .error e => .error e
     | .ok (y, u) => D4 x o n (SD t' k y) (l'.drop u) := by rw [hk] <;> rfl
    have hm4 := amX x k
    have l2 := gL (off := k * 2) (dN o17) (by simp [c6]; omega)
    rw [aqR _ _ hk3] at l2
    rw [ek]
    simp (disch := omega) only [aC, aX, d1, pS, e2, aT, eL, aHH, aHI, eD, and_true, true_and, aA, eA, e6, xL, R9, em, Result.ok.injEq, Next.value.injEq, l2, aF]
    have hl8 : l'.length <= 1000000 := by omega
    have hgd : tR (dr w7) := hg7.ext (aS.dr _ cM)
    have hbd : Bs (dr w7) (.slice ba l'.length bc) l' := hb7.ext (aS.dr _ cM) (cB _)
    have hTd : OO (dr w7) o a := hTo.ext (aS.dr _ cM)
    have z7 := x7.size
    refine Ki ?_ ?_
    .refine (aAR hgd hbd (fun _ => hl8) (hTd k hk3) (aIT _) (by omega) (hO k hk3)).mono ?_
     rintro r w8 ⟨hR, x8⟩
     have x78 : aS w7 w8 cM := (aS.dr _ _).seq x8
     have z8 := x78.size
     cases hE' : gG (k : Int) ((Ta x k : Nat) : Int) l' (o k) with
     | error e =>
       rw [hE'] at hR hS
       have ne := PW hE'
       have n1 : (e != 0) = true := by simpa using ne
       unfold aBR at hR
       subst hR
       simp (disch := omega) only [RQ, Sd, RN, Result.ok.injEq, Next.value.injEq, and_true, aA, true_and]
       refine iP fun w9 o9 x9 s9 => ?_
       refine eJ o9 rfl (by simp [one]) (by simp) fun w10 o10 x10 s10 => ?_
       unfold mS
       simp (disch := omega) only [aC, eT, n1, dL, aA, qO, eL, aHH, aHI, eD, Result.ok.injEq, Next.value.injEq, and_true, true_and, aF]
       have x710 : aS w7 w10 cM := x78.seq (x9.new x10 (aHS _))
       exact avD (o27.ext x710 (fun h => h)) rfl fun w' x => err7 hS ((x710.mono fun _ _ h => h.elim).seq x)
     | ok yu =>
       obtain ⟨T, u⟩ := yu
       rw [hE'] at hR hS
       have hu := Q5 hE'
       unfold aBR at hR
       obtain ⟨t, rfl, hV⟩ := hR
       obtain ⟨ta, rfl⟩ := hV.form
       simp (disch := omega) only [RQ, Sd, RN, Result.ok.injEq, Next.value.injEq, and_true, aA, true_and]
       refine iP fun w9 o9 x9 s9 => ?_
       refine eJ o9 rfl (by simp [one]) (by simp) fun w10 o10 x10 s10 => ?_
       have o10 : cJ w10 w8.heap.size [.int .i64 T.1, .slice ta T.2.length T.2.length] := o10
       have x810 : aS w8 w10 cM := x9.new x10 (aHS _)
       have x710 := x78.seq x810
       have l10 := gL (off := 0) (dN o10) (by simp)
       simp only [aHM, aHG, aHO] at l10
       unfold mS
       simp (disch := omega) only [aC, eT, n0, dL, aA, qO, aHH, eL, aHI, eD, Result.ok.injEq, Next.value.injEq, and_true, true_and, l10, aE]
       have x710 : aS w7 (dr w10) cM := x710.seq (aS.dr _ _)
       refine eJ (o8.ext x710 (fun h => h)) rfl (by simp [one]) (by simp [c6]; omega) fun w11 o11 x11 s11 => ?_
       have x8N : aS w8 (dr w10) cM := x810.seq (aS.dr _ _)
       have o11 : cJ w11 p8 (c6 (SD t' k T) (upA a' k ta)) := by rw [<- aAp _ _ hk3]; exact o11
       have hbn : Bs w7 (.slice (iH ba bc u 1) (l'.length - u) (bc - u)) (l'.drop u) := by
        have := hb7.drop' (k := u) (by omega)
        rwa [<- aJW] at this
       have han := hat7.sub (mx := bc) (k := u) (sz := 1) (m := l'.length - u) (c' := bc - u) (by omega)
       have hV11 : GF w11 0 T (tvL T ta) := (hV.ext x8N (fun _ _ _ h => h)).own (o8.ext x710 (fun h => h)) (by simp [c6]) (fun u => by simp [c6]) x11
       have hT11 : OO w11 t' a' := (hT7.ext x710).own (o8.ext x710 (fun h => h)) (by simp [c6]) (fun u => by simp [c6]) x11
       have hbn11 := (hbn.ext x710 (cB _)).ext x11 (han _ fun b hb => by omega)
       have hld : (l'.drop u).length <= l.length := by rw [aIb]; omega
       have e3 : ((k : Int) + 1) = ((3 - n : Nat) : Int) := by omega
       unfold sN
       simp (disch := omega) only [aC, bM, e3, aT, aA]
       exact ⟨n, by omega, _, _, _, _, _, rfl, by omega, rfl, hbn11, han, hld, o11, hT11.up hV11, by rw [hE, hS], x7.seq ((x710.mono fun _ _ h => h.elim).seq x11)⟩
    .refine iP fun w9 o9 x9 s9 => ?_
     have l9 := gL (off := k * 2) (o17.ext ((aS.dr _ cM).seq x9) (fun h => h)) (by simp [c6]; omega)
     rw [aqR _ _ hk3] at l9
     simp (disch := omega) only [l9, true_and]
     refine (aAR (hgd.ext x9) (hbd.ext x9 (cB _)) (fun _ => hl8) (hTd.ext x9 k hk3) (aIT _) (by omega) (hO k hk3)).mono ?_
     rintro r w8 ⟨hR, x8⟩
     have x78 : aS w7 w8 cM := ((aS.dr _ _).seq x9).seq x8
     have z8 := x78.size
     have z88 := x8.size
     have hz7 : (dr w7).heap.size = w7.heap.size := rfl
     have o9 := o9.ext x8 (fun h => h)
     cases hE' : gG (k : Int) ((Ta x k : Nat) : Int) l' (o k) with
     | error e =>
       rw [hE'] at hR hS
       have ne := PW hE'
       have n1 : (e != 0) = true := by simpa using ne
       unfold aBR at hR
       subst hR
       simp (disch := omega) only [RQ, Sd, RN, Result.ok.injEq, Next.value.injEq, and_true, aA, true_and]
       refine eJ o9 rfl (by simp [one]) (by simp) fun w10 o10 x10 s10 => ?_
       unfold mS
       simp (disch := omega) only [aC, eT, n1, dL, aA, qO, eL, aHH, aHI, eD, Result.ok.injEq, Next.value.injEq, and_true, true_and, aF]
       have x710 : aS w7 w10 cM := x78.new x10 (by omega)
       exact avD (o27.ext x710 (fun h => h)) rfl fun w' x => err7 hS ((x710.mono fun _ _ h => h.elim).seq x)
     | ok yu =>
       obtain ⟨T, u⟩ := yu
       rw [hE'] at hR hS
       have hu := Q5 hE'
       unfold aBR at hR
       obtain ⟨t, rfl, hV⟩ := hR
       obtain ⟨ta, rfl⟩ := hV.form
       simp (disch := omega) only [RQ, Sd, RN, Result.ok.injEq, Next.value.injEq, and_true, aA, true_and]
       have hV8 := fun (w' : aJ2) (x : aS w8 w' (fun y => y = (dr w7).heap.size)) => hV.own (base := 0) (p := (dr w7).heap.size) o9 (by simp) (fun u => by simp) x
       refine eJ o9 rfl (by simp [one]) (by simp) fun w10 o10 x10 s10 => ?_
       have hV10 := hV8 w10 x10
       have o10 : cJ w10 (dr w7).heap.size [.int .i64 T.1, .slice ta T.2.length T.2.length] := o10
       have x710 : aS w7 w10 cM := x78.new x10 (by omega)
       have l10 := gL (off := 0) (dN o10) (by simp)
       simp only [aHM, aHG, aHO] at l10
       unfold mS
       simp (disch := omega) only [aC, eT, n0, dL, aA, qO, aHH, eL, aHI, eD, Result.ok.injEq, Next.value.injEq, and_true, true_and, l10, aE]
       have x710 : aS w7 (dr w10) cM := x710.seq (aS.dr _ _)
       refine eJ (o8.ext x710 (fun h => h)) rfl (by simp [one]) (by simp [c6]; omega) fun w11 o11 x11 s11 => ?_
       have o11 : cJ w11 p8 (c6 (SD t' k T) (upA a' k ta)) := by rw [<- aAp _ _ hk3]; exact o11
       have hbn : Bs w7 (.slice (iH ba bc u 1) (l'.length - u) (bc - u)) (l'.drop u) := by
        have := hb7.drop' (k := u) (by omega)
        rwa [<- aJW] at this
       have han := hat7.sub (mx := bc) (k := u) (sz := 1) (m := l'.length - u) (c' := bc - u) (by omega)
       have hV11 : GF w11 0 T (tvL T ta) := (hV10.ext (aS.dr w10 cM) (fun _ _ _ h => h)).own (o8.ext x710 (fun h => h)) (by simp [c6]) (fun u => by simp [c6]) x11
       have hT11 : OO w11 t' a' := (hT7.ext x710).own (o8.ext x710 (fun h => h)) (by simp [c6]) (fun u => by simp [c6]) x11
       have hbn11 := (hbn.ext x710 (cB _)).ext x11 (han _ fun b hb => by omega)
       have hld : (l'.drop u).length <= l.length := by rw [aIb]; omega
       have e3 : ((k : Int) + 1) = ((3 - n : Nat) : Int) := by omega
       unfold sN
       simp (disch := omega) only [aC, bM, e3, aT, aA]
       exact ⟨n, by omega, _, _, _, _, _, rfl, by omega, rfl, hbn11, han, hld, o11, hT11.up hV11, by rw [hE, hS], x7.seq ((x710.mono fun _ _ h => h.elim).seq x11)⟩
def upS (st : Nat -> Nat) (k x : Nat) : Nat -> Nat := fun i => if i = k then x else st i
def Lw (r : Nat) : Nat := if r = 0 then 0 else if r = 1 then 2 else 1
theorem Z4 (r : Nat) : Lw r < 3 := by unfold Lw; split <;> (try split) <;> omega
def nxs (t : Nat -> TT) (B : List Bool) : Nat -> (Nat -> Nat) -> Int -> (Nat -> Nat) × Int
 | 0, st, left => (st, left)
 | j + 1, st, left => nxs t B j (upS st (Lw (2 - j)) (nR (t (Lw (2 - j))).2 (st (Lw (2 - j)) : Nat) B left).1.toNat) (nR (t (Lw (2 - j))).2 (st (Lw (2 - j)) : Nat) B left).2
def sts (t : Nat -> TT) (B : List Bool) : Nat -> (Nat -> Nat) -> Int -> (Nat -> Nat) × Int
 | 0, st, left => (st, left)
 | j + 1, st, left => sts t B j (upS st (2 - j) (rdL B left (t (2 - j)).1)) (left - (t (2 - j)).1)
def sqF (t : Nat -> TT) (B : List Bool) (n : Nat) (st : Nat -> Nat) (left : Int) : List Sq × Int := sqR (t 0).2 (t 1).2 (t 2).2 B n (st 0 : Nat) (st 1 : Nat) (st 2 : Nat) left
def v3 (t : Nat -> TT) (B : List Bool) (st : Nat -> Nat) (left : Int) : Sq × Int :=
 let o := vR 1 (t 1).2 (st 1 : Nat) B left
 let m := vR 2 (t 2).2 (st 2 : Nat) B o.2
 let l := vR 0 (t 0).2 (st 0 : Nat) B m.2
 (⟨l.1, m.1, o.1⟩, l.2)
theorem apK (t : Nat -> TT) (B : List Bool) (n : Nat) (k : Int) : runT t B n k = sqF t B n (sts t B 3 (fun _ => 0) k).1 (sts t B 3 (fun _ => 0) k).2 := rfl
theorem atM (t : Nat -> TT) (B : List Bool) (st : Nat -> Nat) (left : Int) : sqF t B 1 st left = ([(v3 t B st left).1], (v3 t B st left).2) := rfl
def RX (t : Nat -> TT) (st : Nat -> Nat) : Prop := ∀ k, k < 3 -> yD k (t k) /\ st k < (t k).2.length
theorem anD {t : Nat -> TT} {st : Nat -> Nat} (h : RX t st) (B : List Bool) (m : Nat) (left : Int) :
 sqF t B (m + 2) st left = ((v3 t B st left).1 :: (sqF t B (m + 1) (nxs t B 3 st (v3 t B st left).2).1 (nxs t B 3 st (v3 t B st left).2).2).1, (sqF t B (m + 1) (nxs t B 3 st (v3 t B st left).2).1 (nxs t B 3 st (v3 t B st left).2).2).2) := by
 have hn : ∀ k, k < 3 -> ∀ x : Int, (((nR (t k).2 (st k : Nat) B x).1.toNat : Nat) : Int) = (nR (t k).2 (st k : Nat) B x).1 := fun k hk x => by
  obtain ⟨s', h1, _⟩ := QD (h k hk).1 (h k hk).2 B x
  rw [h1] <;> rfl
 unfold sqF
 rw [sqR, if_neg (by omega)]
 show ((v3 t B st left).1 :: _, _) = _
 have h0 := hn 0 (by omega) (v3 t B st left).2
 have h2 := hn 2 (by omega) (nR (t 0).2 (st 0 : Nat) B (v3 t B st left).2).2
 have h1 := hn 1 (by omega) (nR (t 2).2 (st 2 : Nat) B (nR (t 0).2 (st 0 : Nat) B (v3 t B st left).2).2).2
 have e0 : (nxs t B 3 st (v3 t B st left).2).1 0 = (nR (t 0).2 (st 0 : Nat) B (v3 t B st left).2).1.toNat := rfl
 have e2 : (nxs t B 3 st (v3 t B st left).2).1 2 = (nR (t 2).2 (st 2 : Nat) B (nR (t 0).2 (st 0 : Nat) B (v3 t B st left).2).2).1.toNat := rfl
 have e1 : (nxs t B 3 st (v3 t B st left).2).1 1 = (nR (t 1).2 (st 1 : Nat) B (nR (t 2).2 (st 2 : Nat) B (nR (t 0).2 (st 0 : Nat) B (v3 t B st left).2).2).2).1.toNat := rfl
 have e3 : (nxs t B 3 st (v3 t B st left).2).2 = (nR (t 1).2 (st 1 : Nat) B (nR (t 2).2 (st 2 : Nat) B (nR (t 0).2 (st 0 : Nat) B (v3 t B st left).2).2).2).2 := rfl
 rw [e0, e1, e2, e3, h0, h1, h2]
 rfl
theorem Zy {t : Nat -> TT} {B : List Bool} : ∀ {j : Nat} {st : Nat -> Nat} {left : Int}, RX t st -> RX t (nxs t B j st left).1 /\ left - 20 * j <= (nxs t B j st left).2 /\ (nxs t B j st left).2 <= left
 | 0, st, left, h => ⟨h, by unfold nxs; simp, by unfold nxs; simp⟩
 | j + 1, st, left, h => by
   obtain ⟨s', h1, h2, h3, h4⟩ := QD (h _ (Z4 (2 - j))).1 (h _ (Z4 (2 - j))).2 B left
   rw [nxs]
   obtain ⟨g1, g2, g3⟩ := Zy (B := B) (j := j) (st := upS st (Lw (2 - j)) (nR (t (Lw (2 - j))).2 (st (Lw (2 - j)) : Nat) B left).1.toNat) (left := (nR (t (Lw (2 - j))).2 (st (Lw (2 - j)) : Nat) B left).2) (fun k hk => by
    unfold upS
    split
    .rename_i he; rw [he, h1]; exact ⟨(h _ (Z4 _)).1, h2⟩
    .exact h k hk)
   exact ⟨g1, by omega, by omega⟩
theorem aAO {t : Nat -> TT} {st : Nat -> Nat} (h : RX t st) (B : List Bool) (left : Int) : left - 93 <= (v3 t B st left).2 /\ (v3 t B st left).2 <= left := by
 obtain ⟨_, a1, a2⟩ := IN (by omega) (h 1 (by omega)).1 (h 1 (by omega)).2 B left
 obtain ⟨_, b1, b2⟩ := IN (by omega) (h 2 (by omega)).1 (h 2 (by omega)).2 B (vR 1 (t 1).2 (st 1 : Nat) B left).2
 obtain ⟨_, c1, c2⟩ := IN (by omega) (h 0 (by omega)).1 (h 0 (by omega)).2 B (vR 2 (t 2).2 (st 2 : Nat) B (vR 1 (t 1).2 (st 1 : Nat) B left).2).2
 have e : (v3 t B st left).2 = (vR 0 (t 0).2 (st 0 : Nat) B (vR 2 (t 2).2 (st 2 : Nat) B (vR 1 (t 1).2 (st 1 : Nat) B left).2).2).2 := rfl
 rw [e]; omega
theorem anO {t : Nat -> TT} {B : List Bool} : ∀ {n : Nat} {st : Nat -> Nat} {left : Int}, RX t st -> left - 160 * n <= (sqF t B n st left).2 /\ (sqF t B n st left).2 <= left /\ (sqF t B n st left).1.length = n
 | 0, st, left, h => ⟨by unfold sqF sqR; simp, by unfold sqF sqR; simp, rfl⟩
 | 1, st, left, h => by
   rw [atM]
   have := aAO h B left
   exact ⟨by simp only; omega, by simp only; omega, rfl⟩
 | n + 2, st, left, h => by
   rw [anD h]
   have h1 := aAO h B left
   obtain ⟨g1, g2, g3⟩ := Zy (B := B) (j := 3) (left := (v3 t B st left).2) h
   obtain ⟨k1, k2, k3⟩ := anO (B := B) (n := n + 1) (left := (nxs t B 3 st (v3 t B st left).2).2) g1
   exact ⟨by simp only; omega, by simp only; omega, by simp only [aH5]; omega⟩
theorem GF.tbl {w : aJ2} {base : Nat} {T : TT} {v : aJ3} (h : GF w base T v) (h0 : 0 < T.2.length) : ∃ b, Tbl w base b T.1 T.2 v := by
 rcases h with ⟨e, _⟩ | h
 .rw [e] at h0; simp at h0
 .exact h
theorem aFH {w : aJ2} {base b log p : Nat} {L : List T3} {v : aJ3} {cs : List aJ3} (h : Tbl w base b log L v) (hL : 0 < L.length) (o : cJ w p cs) (hc : ∀ u, cs[0]? ≠ some (.int .u8 u)) : b ≠ p := by
 rintro rfl
 have e := UW h.2.2 o
 subst e
 cases hT : L with
 | nil => rw [hT] at hL; simp at hL
 | cons a r =>
   have := (Qd (k := .u8) (L := L) (i := 0) (e := a) (by rw [hT] <;> rfl)).1
   exact hc _ this
def s3L (st : Nat -> Nat) : List aJ3 := [.int .i64 (st 0 : Nat), .int .i64 (st 1 : Nat), .int .i64 (st 2 : Nat)]
theorem aqQ (st : Nat -> Nat) {k : Nat} (h : k < 3) : (s3L st)[k]? = some (.int .i64 (st k : Nat)) := by
 rcases (show k = 0 ∨ k = 1 ∨ k = 2 by omega) with rfl | rfl | rfl <;> rfl
theorem asY (st : Nat -> Nat) {k : Nat} (h : k < 3) (x : Nat) : (s3L st).set k (.int .i64 (x : Nat)) = s3L (upS st k x) := by
 rcases (show k = 0 ∨ k = 1 ∨ k = 2 by omega) with rfl | rfl | rfl <;> rfl
theorem Yf.hd {w : aJ2} {lo hi : Nat} {l : List UInt8} {left : Int} (h : Yf w lo hi l left) : ∃ cs, cJ w hi cs /\ ∀ u, cs[0]? ≠ some (.int .u8 u) := by
 obtain ⟨v, h1, h2, h3⟩ := h
 obtain ⟨va, vc, rfl, _⟩ := h2.len
 exact ⟨_, h1, fun u => by simp⟩
theorem awR {k5 : K8} {t5 n8 out t76 t77 : aJ3} {pt ps lo hi : Nat} {t : Nat -> TT} {a : Nat -> Option Addr} {st : Nat -> Nat} {l : List UInt8} {left : Int} {w : aJ2} (oT : cJ w pt (c6 t a)) (hT : OO w t a) (oS : cJ w ps (s3L st)) (hB : Yf w lo hi l left)
 (h1 : pt < lo) (h2 : lo <= hi) (h3 : hi < ps) (hG : RX t st) (hl : l.length <= 1000000) (hb1 : left <= 8 * l.length) (hb2 : -90000000 <= left)
 (hk : ∀ w', cJ w' ps (s3L (nxs t (bE l) 3 st left).1) -> Yf w' lo hi l (nxs t (bE l) 3 st left).2 -> aS w w' (fun y => y = hi ∨ y = ps) -> k5 t5 n8 (.pointer (some ⟨pt, 0, none⟩)) (.pointer (some ⟨hi, 0, none⟩)) (.pointer (some ⟨ps, 0, none⟩)) out t76 t77 w') :
 xH k5 t5 n8 (.pointer (some ⟨pt, 0, none⟩)) (.pointer (some ⟨hi, 0, none⟩)) (.pointer (some ⟨ps, 0, none⟩)) out t76 t77 (.agg #[.int .i64 0, .int .i64 2, .int .i64 1]) (.int .i64 0) w := by
 have hps := oS.lt
 unfold xH
 refine cG.rule (fun n (v : aJ3) w' => ∃ (j : Nat) (st' : Nat -> Nat) (left' : Int), n = j /\ j <= 3 /\ v = .int .i64 (3 - j : Nat) /\ cJ w' ps (s3L st') /\ Yf w' lo hi l left' /\ RX t st' /\ OO w' t a /\ nxs t (bE l) 3 st left = nxs t (bE l) j st' left' /\ left - 20 * (3 - j : Nat) <= left' /\ left' <= left /\ aS w w' (fun y => y = hi ∨ y = ps)) 3
  ⟨3, st, left, rfl, aHS _, rfl, oS, hB, hG, hT, rfl, by simp, Int.le_refl _, aS.refl _ _⟩ ?_
 rintro j v w1 ⟨n, st', left', rfl, hj, rfl, oS1, hB1, hG1, hT1, hE, hc1, hc2, x1⟩
 unfold xF
 rcases j with _ | j
 .have d1 : decide (((3 - 0 : Nat) : Int) < 3) = false := rfl
  simp (disch := omega) only [aC, aX, d1, bM, aT, aA, true_and, aE]
  rw [hE] at hk
  exact hk _ oS1 hB1 x1
 .obtain ⟨r, hr⟩ : ∃ r, r = 2 - j := ⟨_, rfl⟩
  have hr3 : r < 3 := by omega
  have ek : ((3 - (j + 1) : Nat) : Int) = (r : Int) := by omega
  have d1 : decide ((r : Int) < 3) = true := by simp; omega
  rw [ek]
  have hN : nxs t (bE l) (j + 1) st' left' = nxs t (bE l) j (upS st' (Lw r) (nR (t (Lw r)).2 (st' (Lw r) : Nat) (bE l) left').1.toNat) (nR (t (Lw r)).2 (st' (Lw r) : Nat) (bE l) left').2 := by rw [hr] <;> rfl
  have hx : (#[Value.int .i64 0, .int .i64 2, .int .i64 1] : Array aJ3)[r]? = some (.int .i64 (Lw r : Nat)) := by
   rcases (show r = 0 ∨ r = 1 ∨ r = 2 by omega) with rfl | rfl | rfl <;> rfl
  have hk3 := Z4 r
  obtain ⟨k, hkk⟩ : ∃ k, k = Lw r := ⟨_, rfl⟩
  rw [<- hkk] at hx hk3 hN
  obtain ⟨hGk, hsk⟩ := hG1 k hk3
  have oT1 := oT.ext x1 (by omega)
  have l2 := gL (off := k * 2) (dN oT1) (by simp [c6]; omega)
  rw [aqR _ _ hk3] at l2
  have c2 := (dN oS1).cell (off := k)
  rw [aqQ _ hk3] at c2
  simp (disch := omega) only [aC, aX, d1, BO, aHH, hx, aI, bM, aT, aA, true_and, eL, aHI, yF, cA, l2, c2, aF]
  obtain ⟨b, htb⟩ := (hT1.ext (aS.dr w1 cM) k hk3).tbl (by omega)
  have hB1d : Yf (dr w1) lo hi l left' := hB1.ext (aS.dr _ cM) (fun _ _ _ h => h) h2
  obtain ⟨cs, oc, hcs⟩ := hB1d.hd
  have hne := aFH htb (by omega) oc hcs
  have hlt512 : (t k).2.length <= 512 := by rw [hGk.len]; exact aHT (by omega) hGk.lg
  have hbl := oc.lt
  refine (aBG htb hGk.low (by omega) hB1d h2 hbl hne (by omega) (by omega) hl).mono ?_
  rintro v w2 ⟨rfl, hB2, x2⟩
  obtain ⟨s', g1, g2, g3, g4⟩ := QD hGk hsk (bE l) left'
  have q1 : yH (t k).2 (st' k : Nat) (tB ((bE l).take left'.toNat) (oM (t k).2 (st' k : Nat))) = (nR (t k).2 (st' k : Nat) (bE l) left').1 := rfl
  have q2 : left' - (oM (t k).2 (st' k : Nat) : Nat) = (nR (t k).2 (st' k : Nat) (bE l) left').2 := rfl
  rw [q1, g1]
  rw [q2] at hB2
  rw [g1, aHH] at hN
  have x12 : aS w1 w2 (fun y => y = hi) := (aS.dr _ _).seq x2
  have hTd : OO (dr w1) t a := hT1.ext (aS.dr w1 cM)
  have hT2 : OO w2 t a := hTd.own oc (by
   rcases hcl : cs with _ | ⟨c0, cr⟩
   .obtain ⟨v, hv, _⟩ := hB1d
    have := UW oc hv
    rw [hcl] at this; cases this
   .simp) hcs x2
  have oS2 := oS1.ext x12 (by omega)
  refine tA oS2 rfl (by simp [s3L]; omega) fun w3 o3 x3 s3 => ?_
  rw [asY _ hk3] at o3
  have hT3 := hT2.own oS2 (by simp [s3L]) (fun u => by simp [s3L]) x3
  have e1 : (r : Int) + 1 = ((3 - j : Nat) : Int) := by omega
  simp (disch := omega) only [e1]
  refine ⟨j, by omega, _, _, _, rfl, by omega, rfl, o3, hB2.ext x3 (fun b _ _ => by omega) h2, fun i hi => ?_, hT3, by rw [hE, hN], by omega, by omega, (x1.seq (x12.mono fun _ _ h => .inl h)).seq (x3.mono fun _ _ h => .inr h)⟩
  unfold upS
  split
  .rename_i he; rw [he]; exact ⟨hGk, g2⟩
  .exact hG1 i hi
end Go.Proofs.YtaggdjhhmbnhoaaDoor
namespace Go.En
open Go
theorem OSS.ext {w w' : aJ2} {S M : Nat -> Prop} {sz n : Nat} {v : aJ3} {l : List aJ3} (h : OSS w S sz v n l) (hx : aS w w' M) (hM : ∀ b, S b -> ¬ M b) : OSS w' S sz v n l := by
 refine ⟨h.1, ?_⟩
 rcases h.2 with h2 | ⟨b, c, rest, h1, h2, h3, h4, h5⟩
 .exact .inl h2
 .exact .inr ⟨b, c, rest, h1, h2, h3.ext hx (hM b h2), h4, h5⟩
theorem rN.ne {w : aJ2} {base p sz n : Nat} {v : aJ3} {l : List aJ3} (h : rN w base sz v n l) (hp : w.heap.size <= p) : OSS w (fun b => base <= b /\ b ≠ p) sz v n l := by
 refine ⟨h.1, ?_⟩
 rcases h.2 with h2 | ⟨b, c, rest, h1, h2, h3, h4, h5⟩
 .exact .inl h2
 .have := h3.lt
  exact .inr ⟨b, c, rest, h1, ⟨h2, by omega⟩, h3, h4, h5⟩
theorem OSS.osl {w : aJ2} {base p sz n : Nat} {v : aJ3} {l : List aJ3} (h : OSS w (fun b => base <= b /\ b ≠ p) sz v n l) : rN w base sz v n l := by
 refine ⟨h.1, ?_⟩
 rcases h.2 with h2 | ⟨b, c, rest, h1, h2, h3, h4, h5⟩
 .exact .inl h2
 .exact .inr ⟨b, c, rest, h1, h2.1, h3, h4, h5⟩
theorem OSS.len {w : aJ2} {S : Nat -> Prop} {sz n : Nat} {v : aJ3} {l : List aJ3} (h : OSS w S sz v n l) : ∃ a c, v = .slice a n c := by
 rcases h.2 with ⟨h1, rfl⟩ | ⟨b, c, rest, h1, _⟩
 .exact ⟨_, _, h1⟩
 .exact ⟨_, _, h1⟩
end Go.En
namespace Go.Proofs.YtaggdjhhmbnhoaaDoor
open Go Go.En Go.Pu
set_option maxRecDepth 4000
def Tc (q : Sq) : List aJ3 := [.int .u32 q.ll, .int .u32 q.ml, .int .u32 q.of]
def Tb (l : List Sq) : List aJ3 := l.flatMap Tc
theorem amG (l : List Sq) (q : Sq) : Tb (l ++ [q]) = Tb l ++ Tc q := by unfold Tb; rw [List.flatMap_append]; simp
theorem Yf.hd0 {w : aJ2} {lo hi : Nat} {l : List UInt8} {left : Int} {cs : List aJ3} (h : Yf w lo hi l left) (o : cJ w hi cs) : 0 < cs.length := by
 obtain ⟨v, h1, _⟩ := h
 rw [UW o h1]; simp
theorem OO.ownM {w w' : aJ2} {o : Nat -> TT} {a : Nat -> Option Addr} {M : Nat -> Prop} (h : OO w o a) (hM : ∀ b, M b -> ∃ cs, cJ w b cs /\ 0 < cs.length /\ ∀ u, cs[0]? ≠ some (.int .u8 u)) (x : aS w w' M) : OO w' o a := fun k hk => by
 rcases h k hk with h | ⟨b, h1, h2, h3⟩
 .exact .inl h
 .refine .inr ⟨b, h1, h2, h3.ext x fun hb => ?_⟩
  obtain ⟨cs, hc1, hc2, hc3⟩ := hM b hb
  have e := UW h3 hc1
  subst e
  cases hT : (o k).2 with
  | nil => rw [hT] at hc2; simp [fe] at hc2
  | cons y r =>
    have := (Qd (k := .u8) (L := (o k).2) (i := 0) (e := y) (by rw [hT] <;> rfl)).1
    exact hc3 _ this
theorem aAf {k3 : K4} {t5 : aJ3} {n pt ps lo hi : Nat} {t : Nat -> TT} {a : Nat -> Option Addr} {st : Nat -> Nat} {l : List UInt8} {left : Int} {w0 w : aJ2} (hn : 1 <= n /\ n <= 98047) (hg : tR w0) (x0 : aS w0 w cM) (oT : cJ w pt (c6 t a)) (hT : OO w t a) (oS : cJ w ps (s3L st)) (hB : Yf w lo hi l left)
 (h0 : w0.heap.size <= pt) (h1 : pt < lo) (h2 : lo <= hi) (h3 : hi < ps) (hG : RX t st) (hl : l.length <= 1000000) (hb1 : left <= 8 * l.length) (hb2 : -1000 <= left)
 (hk : ∀ w' out, rN w' w.heap.size 3 out n (Tb (sqF t (bE l) n st left).1) -> Yf w' lo hi l (sqF t (bE l) n st left).2 -> cJ w' pt (c6 t a) -> OO w' t a -> aS w w' (fun y => y = hi ∨ y = ps) -> k3 t5 (.pointer (some ⟨pt, 0, none⟩)) (.pointer (some ⟨hi, 0, none⟩)) out w') :
 uN k3 t5 (.int .i64 n) (.pointer (some ⟨pt, 0, none⟩)) (.pointer (some ⟨hi, 0, none⟩)) (.pointer (some ⟨ps, 0, none⟩)) (.slice none 0 0) (.int .i64 n) (.int .i64 0) w := by
 have hps := oS.lt
 have z0 := x0.size
 have hTx : ∀ {w' : aJ2}, aS w w' (fun y => y = hi ∨ y = ps) -> OO w' t a := fun x => by
  obtain ⟨cs, oc, hcs⟩ := hB.hd
  refine hT.ownM (fun b hb => ?_) x
  rcases hb with rfl | rfl
  .exact ⟨cs, oc, hB.hd0 oc, hcs⟩
  .exact ⟨_, oS, by simp [s3L], fun u => by simp [s3L]⟩
 unfold uN
 refine cG.rule (fun m (v : aJ3 × aJ3) w' => ∃ (i : Nat) (out : aJ3) (qs : List Sq) (st' : Nat -> Nat) (left' : Int), m = n - i /\ i < n /\ v = (out, .int .i64 i) /\ qs.length = i /\ rN w' w.heap.size 3 out i (Tb qs) /\ cJ w' ps (s3L st') /\ Yf w' lo hi l left' /\ RX t st' /\ OO w' t a /\
  sqF t (bE l) n st left = (qs ++ (sqF t (bE l) (n - i) st' left').1, (sqF t (bE l) (n - i) st' left').2) /\ left - 160 * i <= left' /\ left' <= left /\ aS w w' (fun y => y = hi ∨ y = ps)) n
  ⟨0, _, [], st, left, rfl, by omega, rfl, rfl, rN.nil _ _ _, oS, hB, hG, hT, rfl, by simp, Int.le_refl _, aS.refl _ _⟩ ?_
 rintro m v w1 ⟨i, out, qs, st', left', rfl, hin, rfl, hqs, os1, oS1, hB1, hG1, hT1, hE, hc1, hc2, x1⟩
 have d1 : decide ((i : Int) < (n : Int)) = true := by simp; omega
 unfold uQ BC
 simp (disch := omega) only [aC, aX, d1, aA, aF]
 unfold DO DZ Mn Dx
 refine GS fun w2 o2 x2 s2 => ?_
 obtain ⟨hG0, hs0⟩ := hG1 0 (by omega)
 obtain ⟨hGo, hso⟩ := hG1 1 (by omega)
 obtain ⟨hGm, hsm⟩ := hG1 2 (by omega)
 have z1 := x1.size
 have oT2 := (oT.ext x1 (by omega)).ext x2 (fun h => h)
 have oS2 := oS1.ext x2 (fun h => h)
 have hB2 := hB1.ext x2 (fun _ _ _ h => h) h2
 have hT2 := hT1.ext x2
 have os2 := (os1.ne (aHS w1.heap.size)).ext x2 (fun b _ h => h)
 have x02 : aS w0 w2 cM := x0.trans (x1.seq (x2.mono fun _ _ h => h.elim)) fun b hb h => by omega
 have t1 : (1 : Int).toNat = 1 := rfl
 have t2 : (2 : Int).toNat = 2 := rfl
 have t0 : (0 : Int).toNat = 0 := rfl
 obtain ⟨pq, hpq⟩ : ∃ pq, pq = w1.heap.size := ⟨_, rfl⟩
 rw [<- hpq] at o2 os2 ⊢
 have hpq2 : ps < pq := by have := oS1.lt; omega
 have hpw : w.heap.size <= pq := by omega
 have hnb : ∀ (w' : aJ2), Yf w' lo hi l left -> True := fun _ _ => trivial
 have xx2 : aS w1 w2 (fun y => y = hi ∨ y = pq) := x2.mono fun _ _ h => h.elim
 have hc3 : -90000000 <= left' - 200 := by omega
 have l2 := gL (off := 2) oT2 (by simp [c6])
 have c2 := oS2.cell (off := 1)
 rw [aqQ _ (by omega)] at c2
 simp only [c6, aIs, aHM, aHG, aHO] at l2
 simp (disch := omega) only [aC, eL, t1, aHI, yF, jI, t2, jW, t0, iI, eA, aT, qK, aA, cR, cA, l2, c2, aI]
 obtain ⟨b2, ht2⟩ := (hT2 1 (by omega)).tbl (by omega)
 obtain ⟨cs2, oc2, hcs2⟩ := hB2.hd
 have hhi2 := oc2.lt
 refine (WQ (k := 1) (T := t 1) (s := st' 1) (hg.ext x02) (by omega) ht2 hGo hso hB2 h2 hhi2 (by omega) (by omega) hl).mono ?_
 rintro r u2 ⟨rfl, hBv2, xv2⟩
 obtain ⟨hv2, hw21, hw22⟩ := IN (k := 1) (by omega) hGo hso (bE l) left'
 have oTv2 := oT2.ext xv2 (by omega)
 have oSv2 := oS2.ext xv2 (by omega)
 have hTv2 := hT2.own oc2 (hB2.hd0 oc2) hcs2 xv2
 have osv2 := os2.ext xv2 (fun b h e => by omega)
 have oqv2 := o2.ext xv2 (by omega)
 have x0v2 : aS w0 u2 cM := x02.trans xv2 fun b hb h => by omega
 refine EJ oqv2 rfl (by simp) fun w3 o3 x3 s3 => ?_
 simp only [aHL, aHN] at o3
 have oT3 := oTv2.ext x3 (by omega)
 have oS3 := oSv2.ext x3 (by omega)
 have hT3 := hTv2.own oqv2 (by simp) (fun u => by simp) x3
 have os3 := osv2.ext x3 (fun b h e => h.2 e)
 have hB3 := hBv2.ext x3 (fun b _ _ => by omega) h2
 have x03 : aS w0 w3 cM := x0v2.trans x3 fun b hb h => by omega
 have xx3 : aS w1 w3 (fun y => y = hi ∨ y = pq) := (xx2.seq (xv2.mono fun _ _ h => .inl h)).seq (x3.mono fun _ _ h => .inr h)
 have l3 := gL (off := 4) oT3 (by simp [c6])
 have c3 := oS3.cell (off := 2)
 rw [aqQ _ (by omega)] at c3
 simp only [c6, aIs, aHM, aHG, aHO] at l3
 simp (disch := omega) only [l3, aA, c3, aI]
 obtain ⟨b3, ht3⟩ := (hT3 2 (by omega)).tbl (by omega)
 obtain ⟨cs3, oc3, hcs3⟩ := hB3.hd
 have hhi3 := oc3.lt
 refine (WQ (k := 2) (T := t 2) (s := st' 2) (hg.ext x03) (by omega) ht3 hGm hsm hB3 h2 hhi3 (by omega) (by omega) hl).mono ?_
 rintro r u3 ⟨rfl, hBv3, xv3⟩
 obtain ⟨hv3, hw31, hw32⟩ := IN (k := 2) (by omega) hGm hsm (bE l) (vR 1 (t 1).2 (st' 1 : Nat) (bE l) left').2
 have oTv3 := oT3.ext xv3 (by omega)
 have oSv3 := oS3.ext xv3 (by omega)
 have hTv3 := hT3.own oc3 (hB3.hd0 oc3) hcs3 xv3
 have osv3 := os3.ext xv3 (fun b h e => by omega)
 have oqv3 := o3.ext xv3 (by omega)
 have x0v3 : aS w0 u3 cM := x03.trans xv3 fun b hb h => by omega
 refine EJ oqv3 rfl (by simp) fun w4 o4 x4 s4 => ?_
 simp only [aHL, aHN] at o4
 have oT4 := oTv3.ext x4 (by omega)
 have oS4 := oSv3.ext x4 (by omega)
 have hT4 := hTv3.own oqv3 (by simp) (fun u => by simp) x4
 have os4 := osv3.ext x4 (fun b h e => h.2 e)
 have hB4 := hBv3.ext x4 (fun b _ _ => by omega) h2
 have x04 : aS w0 w4 cM := x0v3.trans x4 fun b hb h => by omega
 have xx4 : aS w1 w4 (fun y => y = hi ∨ y = pq) := (xx3.seq (xv3.mono fun _ _ h => .inl h)).seq (x4.mono fun _ _ h => .inr h)
 have l4 := gL (off := 0) oT4 (by simp [c6])
 have c4 := oS4.cell (off := 0)
 rw [aqQ _ (by omega)] at c4
 simp only [c6, aIs, aHM, aHG, aHO] at l4
 simp (disch := omega) only [l4, aA, c4, aI]
 obtain ⟨b4, ht4⟩ := (hT4 0 (by omega)).tbl (by omega)
 obtain ⟨cs4, oc4, hcs4⟩ := hB4.hd
 have hhi4 := oc4.lt
 refine (WQ (k := 0) (T := t 0) (s := st' 0) (hg.ext x04) (by omega) ht4 hG0 hs0 hB4 h2 hhi4 (by omega) (by omega) hl).mono ?_
 rintro r u4 ⟨rfl, hBv4, xv4⟩
 obtain ⟨hv4, hw41, hw42⟩ := IN (k := 0) (by omega) hG0 hs0 (bE l) (vR 2 (t 2).2 (st' 2 : Nat) (bE l) (vR 1 (t 1).2 (st' 1 : Nat) (bE l) left').2).2
 have oTv4 := oT4.ext xv4 (by omega)
 have oSv4 := oS4.ext xv4 (by omega)
 have hTv4 := hT4.own oc4 (hB4.hd0 oc4) hcs4 xv4
 have osv4 := os4.ext xv4 (fun b h e => by omega)
 have oqv4 := o4.ext xv4 (by omega)
 have x0v4 : aS w0 u4 cM := x04.trans xv4 fun b hb h => by omega
 refine EJ oqv4 rfl (by simp) fun w5 o5 x5 s5 => ?_
 simp only [aHL, aHN] at o5
 have oT5 := oTv4.ext x5 (by omega)
 have oS5 := oSv4.ext x5 (by omega)
 have hT5 := hTv4.own oqv4 (by simp) (fun u => by simp) x5
 have os5 := osv4.ext x5 (fun b h e => h.2 e)
 have hB5 := hBv4.ext x5 (fun b _ _ => by omega) h2
 have x05 : aS w0 w5 cM := x0v4.trans x5 fun b hb h => by omega
 have xx5 : aS w1 w5 (fun y => y = hi ∨ y = pq) := (xx4.seq (xv4.mono fun _ _ h => .inl h)).seq (x5.mono fun _ _ h => .inr h)
 obtain ⟨q, lf, hq⟩ : ∃ q lf, v3 t (bE l) st' left' = (q, lf) := ⟨_, _, rfl⟩
 have hq1 : (v3 t (bE l) st' left').1 = q := by rw [hq]
 have hq2 : (v3 t (bE l) st' left').2 = lf := by rw [hq]
 have hlf := aAO hG1 (bE l) left'
 rw [hq2] at hlf
 have o5 : cJ w5 pq (Tc (v3 t (bE l) st' left').1) := o5
 have hB5 : Yf w5 lo hi l (v3 t (bE l) st' left').2 := hB5
 rw [hq1] at o5
 rw [hq2] at hB5
 have l5 := EW (off := 0) o5 (by simp [Tc])
 simp only [Tc, aHM, aHG, aHO] at l5
 simp (disch := omega) only [l5, aA]
 refine uR (cells := #[.int .u32 q.ll, .int .u32 q.ml, .int .u32 q.of]) (by decide) (by decide) (by kernel_rfl) fun w6 o6 x6 s6 => ?_
 have os6 := (os5.ext x6 (fun b _ h => h)).osl
 have z5 := xx5.size
 have z6 := x6.size
 refine lX (m := 1) (news := Tc q) os6 (o6.cl (off := 0) (l := Tc q) (n := 1) rfl (fun i hi => by rw [aHI] <;> rfl)) (by simp [Tc, one]) (by omega) (by omega) fun v7 w7 o7 x7 => ?_
 rw [<- amG] at o7
 have oT7 := (oT5.ext x6 (fun h => h)).ext x7 (by omega)
 have oS7 := (oS5.ext x6 (fun h => h)).ext x7 (by omega)
 have hw6 : aS w1 w6 (fun y => y = hi ∨ y = ps) := (xx5.mono fun b hb h => by omega : aS w1 w5 (fun y => y = hi ∨ y = ps)).more x6
 have hw7 : aS w w7 (fun y => y = hi ∨ y = ps) := (x1.seq hw6).trans x7 fun b hb h => by omega
 have hB7 := (hB5.ext x6 (fun _ _ _ h => h) h2).ext x7 (fun b _ _ => by omega) h2
 have hT6 := hT5.ext x6
 have hT7 : OO w7 t a := hTx hw7
 by_cases hlast : i + 1 = n
 .have n1 : ((i : Int) == (n : Int) - 1) = true := by simp; omega
  simp (disch := omega) only [n1, aF]
  have h1 : n - i = 1 := by omega
  rw [h1, atM, hq] at hE
  rw [hE] at hk
  rw [hlast] at o7
  exact hk _ _ o7 hB7 oT7 hT7 hw7
 .have n1 : ((i : Int) == (n : Int) - 1) = false := by simp; omega
  simp (disch := omega) only [n1, aE]
  unfold C1
  obtain ⟨m, hm⟩ : ∃ m, n - i = m + 2 := ⟨n - i - 2, by omega⟩
  have hm1 : n - (i + 1) = m + 1 := by omega
  have hE2 := anD hG1 (bE l) m left'
  rw [hq] at hE2
  simp only at hE2
  obtain ⟨g1, g2, g3⟩ := Zy (B := bE l) (j := 3) (left := lf) hG1
  refine awR oT7 hT7 oS7 hB7 h1 h2 h3 hG1 hl (by omega) (by omega) fun w8 oS8 hB8 x8 => ?_
  unfold xJ
  have e1 : (i : Int) + 1 = ((i + 1 : Nat) : Int) := by omega
  simp (disch := omega) only [aC, bM, e1, aT, aA]
  have hT8 : OO w8 t a := hTx (hw7.seq x8)
  refine ⟨n - (i + 1), by omega, i + 1, _, qs ++ [q], _, _, rfl, by omega, rfl, by rw [aHR, hqs] <;> rfl, o7.ext x8 (fun b hb h => by omega), oS8, hB8, g1, hT8, ?_, by omega, by omega, hw7.seq x8⟩
  rw [hE, hm, hE2, hm1, aHV]
  rfl
def kv (q : Sq) (k : Nat) : Nat := if k = 0 then q.ll else if k = 1 then q.of else q.ml
def kvL (q : Sq) : List aJ3 := [.int .u32 (kv q 0 : Nat), .int .u32 (kv q 1 : Nat), .int .u32 (kv q 2 : Nat)]
theorem aFI (q : Sq) {k : Nat} (h : k < 3) : (kvL q).toArray[k]? = some (.int .u32 (kv q k : Nat)) := by
 rcases (show k = 0 ∨ k = 1 ∨ k = 2 by omega) with rfl | rfl | rfl <;> rfl
theorem avR (q : Sq) (w : aJ2) : aR pg qV #[.agg (Tc q).toArray] w (fun r w' => r = .agg (kvL q).toArray /\ aS w w' cM) := by
 refine Sy ?_
 unfold P3 Al
 refine fV fun w1 o1 x1 s1 => ?_
 have o1 : cJ w1 w.heap.size (Tc q) := o1
 refine V5 fun w2 o2 x2 s2 => ?_
 have o1 := o1.ext x2 (fun h => h)
 have z1 := x1.size
 have c0 := o1.cell (off := 0)
 have c1 := o1.cell (off := 1)
 have c2 := o1.cell (off := 2)
 simp only [Tc, aHJ, aHK] at c0 c1 c2
 simp (disch := omega) only [aC, iI, jI, aHI, jW, aA, rT, c0, aI, c2, c1, Au]
 refine Tk o2 rfl (by simp [one]) (by simp) fun w3 o3 x3 s3 => ?_
 refine anK o3 (by simp [aV]) ?_
 simp only [aV, aHL, aHN, aHM, aHG, aHO]
 exact ⟨rfl, (x1.seq x2).new x3 (by omega)⟩
theorem Om {w w' : aJ2} {sz n : Nat} {v : aJ3} {l : List aJ3} {M : Nat -> Prop} (h : Cl w sz v n l) (x : aS w w' M) (hM : ¬ inB v M) (hs : 0 < sz) : Cl w' sz v n l := by
 obtain ⟨a, c, rfl, h1, h2⟩ := h
 refine ⟨a, c, rfl, h1, fun h0 => ?_⟩
 obtain ⟨b, off, rfl, h3⟩ := h2 h0
 refine ⟨b, off, rfl, fun i hi => ?_⟩
 have h4 := h3 i hi
 rw [aHQ hi] at h4 ⊢
 refine aoN h4 x fun hb => hM ?_
 obtain ⟨n, rfl⟩ : ∃ m, n = m + 1 := ⟨n - 1, by omega⟩
 exact hb
theorem aBc {l : List Sq} {i : Nat} {q : Sq} (h : l[i]? = some q) : ((Tb l).drop (i * 3)).take 3 = Tc q := by
 induction l generalizing i with
 | nil => simp at h
 | cons a l ih =>
   have e : Tb (a :: l) = Tc a ++ Tb l := rfl
   rw [e]
   cases i with
   | zero =>
     simp only [aHJ, Option.some.injEq] at h
     subst h
     simp [Tc]
   | succ i =>
     simp only [aHK] at h
     have hl : (Tc a).length = 3 := rfl
     rw [show (i + 1) * 3 = 3 + i * 3 by omega, List.drop_append, hl, show 3 + i * 3 - 3 = i * 3 by omega, aIQ (by omega), aIv]
     exact ih h
theorem alS {l : List Sq} {v : aJ3} {w : aJ2} (h : Cl w 3 v l.length (Tb l)) {i : Nat} {q : Sq} (hq : l[i]? = some q) : ∃ b off c, v = .slice (some ⟨b, off, none⟩) l.length c /\
 (∀ w', (∀ x, w'.cell? x = w.cell? x) -> (aH 47 (.pointer (some ⟨b, off + i * 3, none⟩))).run pg w' = .ok (.value (.agg (Tc q).toArray)) w') := by
 obtain ⟨a, c, rfl, h1, h2⟩ := h
 have hi : i < l.length := by
  rcases aH6 i l.length with h | h
  .exact h
  .rw [aH3 h] at hq; cases hq
 obtain ⟨b, off, rfl, h3⟩ := h2 (by omega)
 refine ⟨b, off, c, rfl, fun w' hw => adQ (l := Tc q) rfl fun j hj => ?_⟩
 have hj3 : j < 3 := hj
 have h4 := h3 (i * 3 + j) (by rw [h1]; omega)
 rw [hw, aI5, h4, <- aBc hq, aIl hj3, aIV]
structure C3 (w : aJ2) (base : Nat) (L : Nat -> List Nat) (v : Nat -> aJ3) (D : Nat -> Nat -> Prop) : Prop where
 row : ∀ k, k < 3 -> OSS w (D k) 1 (v k) (L k).length ((L k).map fun (n : Nat) => Value.int .i64 n)
 bd : ∀ k, k < 3 -> ∀ b, D k b -> base <= b /\ b < w.heap.size
 sep : ∀ j, j < 3 -> ∀ k, k < 3 -> j ≠ k -> ∀ b, D j b -> ¬ D k b
theorem C3.ext {w w' : aJ2} {base : Nat} {L : Nat -> List Nat} {v : Nat -> aJ3} {D : Nat -> Nat -> Prop} {M : Nat -> Prop} (h : C3 w base L v D) (x : aS w w' M) (hM : ∀ b, base <= b -> b < w.heap.size -> ¬ M b) : C3 w' base L v D :=
 ⟨fun k hk => (h.row k hk).ext x fun b hb => hM b (h.bd k hk b hb).1 (h.bd k hk b hb).2, fun k hk b hb => ⟨(h.bd k hk b hb).1, by have := (h.bd k hk b hb).2; have := x.size; omega⟩, h.sep⟩
def upL (L : Nat -> List Nat) (k : Nat) (x : List Nat) : Nat -> List Nat := fun i => if i = k then x else L i
def upV (v : Nat -> aJ3) (k : Nat) (x : aJ3) : Nat -> aJ3 := fun i => if i = k then x else v i
theorem C3.app {w w' : aJ2} {base k : Nat} {L : Nat -> List Nat} {v : Nat -> aJ3} {D : Nat -> Nat -> Prop} {x : aJ3} {c : List Nat} (h : C3 w base L v D) (hk : k < 3) (hb : base <= w.heap.size)
 (o : OSS w' (fun b => D k b ∨ w.heap.size <= b) 1 x c.length (c.map fun (n : Nat) => Value.int .i64 n)) (y : aS w w' (fun b => D k b ∨ w.heap.size <= b)) : C3 w' base (upL L k c) (upV v k x) (fun j b => if j = k then (D k b ∨ w.heap.size <= b) /\ b < w'.heap.size else D j b) := by
 have hz := y.size
 refine ⟨fun j hj => ?_, fun j hj b hb' => ?_, fun i hi j hj hij b hbi hbj => ?_⟩
 .by_cases he : j = k
  .subst he
   have e1 : upL L j c j = c := by unfold upL; rw [if_pos rfl]
   have e2 : upV v j x j = x := by unfold upV; rw [if_pos rfl]
   rw [e1, e2]
   simp only [if_true]
   refine ⟨o.1, ?_⟩
   rcases o.2 with h2 | ⟨b, cc, rest, h1, h2, h3, h4, h5⟩
   .exact .inl h2
   .exact .inr ⟨b, cc, rest, h1, ⟨h2, h3.lt⟩, h3, h4, h5⟩
  .have e1 : upL L k c j = L j := by unfold upL; rw [if_neg he]
   have e2 : upV v k x j = v j := by unfold upV; rw [if_neg he]
   rw [e1, e2]
   simp only [if_neg he]
   refine (h.row j hj).ext y fun b hb hb2 => ?_
   rcases hb2 with hb2 | hb2
   .exact h.sep j hj k hk he b hb hb2
   .have := (h.bd j hj b hb).2; omega
 .by_cases he : j = k
  .simp only [if_pos he] at hb'
   rcases hb'.1 with h1 | h1
   .exact ⟨(h.bd k hk b h1).1, hb'.2⟩
   .exact ⟨by omega, hb'.2⟩
  .simp only [if_neg he] at hb'
   have := h.bd j hj b hb'
   exact ⟨this.1, by omega⟩
 .by_cases he : i = k
  .have hj' : j ≠ k := fun h => hij (by rw [he, h])
   simp only [if_pos he, if_neg hj'] at hbi hbj
   rcases hbi.1 with h1 | h1
   .exact h.sep j hj k hk hj' b hbj h1
   .have := (h.bd j hj b hbj).2; omega
  .simp only [if_neg he] at hbi
   by_cases hj' : j = k
   .simp only [if_pos hj'] at hbj
    rcases hbj.1 with h1 | h1
    .exact h.sep i hi k hk he b hbi h1
    .have := (h.bd i hi b hbi).2; omega
   .simp only [if_neg hj'] at hbj
    exact h.sep i hi j hj hij b hbi hbj
def XB (k : Nat) (l : List Sq) (L : List Nat) : Prop := L.length = l.length /\ ∀ (i : Nat) (q : Sq) (c : Nat), l[i]? = some q -> L[i]? = some c -> uK k (kv q k) c
theorem XB.snoc {k : Nat} {l : List Sq} {L : List Nat} {q : Sq} {c : Nat} (h : XB k l L) (hc : uK k (kv q k) c) : XB k (l ++ [q]) (L ++ [c]) := by
 refine ⟨by rw [aHR, aHR, h.1] <;> rfl, fun i p d hp hd => ?_⟩
 rcases aH6 i l.length with hi | hi
 .rw [aHW hi] at hp
  rw [aHW (by rw [h.1]; exact hi)] at hd
  exact h.2 i p d hp hd
 .rw [aIn hi] at hp
  rw [aIn (by rw [h.1]; exact hi), h.1] at hd
  rcases aIN (i - l.length) with h0 | h0
  .rw [h0] at hp hd
   cases hp; cases hd; exact hc
  .rw [aH3 (by simp; omega)] at hp; cases hp
def vL (v : Nat -> aJ3) : List aJ3 := [v 0, v 1, v 2]
theorem aAS (v : Nat -> aJ3) {k : Nat} (h : k < 3) : (vL v)[k]? = some (v k) := by
 rcases (show k = 0 ∨ k = 1 ∨ k = 2 by omega) with rfl | rfl | rfl <;> rfl
theorem aFD (v : Nat -> aJ3) {k : Nat} (h : k < 3) (x : aJ3) : (vL v).set k x = vL (upV v k x) := by
 rcases (show k = 0 ∨ k = 1 ∨ k = 2 by omega) with rfl | rfl | rfl <;> rfl
def aDE (w : aJ2) (base : Nat) (l : List Sq) (r : aJ3) : Prop :=
 (∃ v D L, r = .tuple #[.agg (vL v).toArray, .int .i64 0] /\ C3 w base L v D /\ ∀ k, k < 3 -> XB k l (L k)) ∨
 ((∃ q ∈ l, ∃ k, k < 3 /\ ∀ c, ¬ uK k (kv q k) c) /\ ∃ x y z : Option Addr × Nat × Nat, r = .tuple #[.agg #[.slice x.1 x.2.1 x.2.2, .slice y.1 y.2.1 y.2.2, .slice z.1 z.2.1 z.2.2], .int .i64 1])
theorem C3.lower {w : aJ2} {base base' : Nat} {L : Nat -> List Nat} {v : Nat -> aJ3} {D : Nat -> Nat -> Prop} (h : C3 w base L v D) (hb : base' <= base) : C3 w base' L v D :=
 ⟨h.row, fun k hk b hd => ⟨by have := (h.bd k hk b hd).1; omega, (h.bd k hk b hd).2⟩, h.sep⟩
theorem C3.ones {w : aJ2} {base : Nat} {L : Nat -> List Nat} {v : Nat -> aJ3} {D : Nat -> Nat -> Prop} (h : C3 w base L v D) : ∀ x ∈ vL v, one x = true := by
 intro x hx
 have : ∀ k, k < 3 -> one (v k) = true := fun k hk => by
  obtain ⟨a, c, e⟩ := (h.row k hk).len
  rw [e] <;> rfl
 rcases aIz.1 hx with rfl | hx
 .exact this 0 (by omega)
 rcases aIz.1 hx with rfl | hx
 .exact this 1 (by omega)
 rcases aIz.1 hx with rfl | hx
 .exact this 2 (by omega)
 .cases hx
theorem C3.form {w : aJ2} {base : Nat} {L : Nat -> List Nat} {v : Nat -> aJ3} {D : Nat -> Nat -> Prop} (h : C3 w base L v D) : ∃ x y z : Option Addr × Nat × Nat, v 0 = .slice x.1 x.2.1 x.2.2 /\ v 1 = .slice y.1 y.2.1 y.2.2 /\ v 2 = .slice z.1 z.2.1 z.2.2 := by
 obtain ⟨a0, c0, e0⟩ := (h.row 0 (by omega)).len
 obtain ⟨a1, c1, e1⟩ := (h.row 1 (by omega)).len
 obtain ⟨a2, c2, e2⟩ := (h.row 2 (by omega)).len
 exact ⟨(a0, _, c0), (a1, _, c1), (a2, _, c2), e0, e1, e2⟩
theorem aFi {p : Nat} {w : aJ2} {v0 v1 v2 : aJ3} {c : List aJ3} {e : aJ3} (o : cJ w p c) (hc : c.length = 3) (h0 : one v0 = true) (h1 : one v1 = true) (h2 : one v2 = true) {RR : aJ3 -> aJ2 -> Prop}
 (hR : ∀ w', aS w w' (fun y => y = p) -> RR (.tuple #[.agg #[v0, v1, v2], e]) w') :
 aC pg (aJ 98 (.pointer (some ⟨p, 0, none⟩)) (.agg #[v0, v1, v2])) w fun _u w => kI pg 98 (.pointer (some ⟨p, 0, none⟩)) w fun r0 => RR (.tuple #[r0, e]) w := by
 match c, hc with
 | [c0, c1, c2], _ =>
   refine Js o rfl (by simp [h0, h1, h2]) (by simp) fun w6 o6 x6 s6 => ?_
   refine amO o6 (by simp [aV]) ?_
   simp only [aV, aHL, aHN, aHM, aHG, aHO]
   exact hR _ x6
theorem aEM {lv : aJ3} {l : List Sq} {w : aJ2} (hg : tR w) (h : Cl w 3 lv l.length (Tb l)) (hu : ∀ q ∈ l, ∀ k, kv q k < 4294967296) (hl : l.length <= 1000000) :
 aR pg xD #[lv] w (fun r w' => aDE w' w.heap.size l r /\ aS w w' cM) := by
 refine TB ?_
 obtain ⟨RR, hRR⟩ : ∃ RR : aJ3 -> aJ2 -> Prop, RR = fun r w' => aDE w' w.heap.size l r /\ aS w w' cM := ⟨_, rfl⟩
 rw [<- hRR]
 have hf := h
 obtain ⟨la, lc, rfl, _⟩ := hf
 unfold RJ Aq Ak
 refine FB fun w1 o1 x1 s1 => ?_
 refine FB fun w2 o2 x2 s2 => ?_
 have o1 := o1.ext x2 (fun h => h)
 have x02 := x1.seq x2
 obtain ⟨pt, hpt⟩ : ∃ pt, pt = w.heap.size := ⟨_, rfl⟩
 obtain ⟨po, hpo⟩ : ∃ po, po = w1.heap.size := ⟨_, rfl⟩
 rw [<- hpt] at o1 ⊢
 rw [<- hpo] at o2 ⊢
 have hg2 := hg.ext x02
 unfold Av As Am
 simp (disch := omega) only [aC, dO, aA]
 unfold Ao Ay
 refine cG.rule (fun m (t : aJ3) w' => ∃ (i : Nat) (v : Nat -> aJ3) (D : Nat -> Nat -> Prop) (L : Nat -> List Nat), m = l.length - i /\ i <= l.length /\ t = .int .i64 i /\ cJ w' po (vL v) /\ C3 w' w2.heap.size L v D /\ (∀ k, k < 3 -> XB k (l.take i) (L k)) /\ (∀ q ∈ l.take i, ∀ k, k < 3 -> ∃ c, uK k (kv q k) c) /\ aS w2 w' (fun y => y = po)) l.length
  ⟨0, fun _ => .slice none 0 0, fun _ _ => False, fun _ => [], rfl, by omega, rfl, o2, ⟨fun k _ => ⟨rfl, .inl ⟨rfl, rfl⟩⟩, fun _ _ _ h => h.elim, fun _ _ _ _ _ _ h => h.elim⟩, fun k _ => ⟨rfl, fun i q c h => by simp at h⟩, fun q hq => by simp at hq, aS.refl _ _⟩ ?_
 rintro m t w3 ⟨i, v, D, L, rfl, hi, rfl, o3, hC, hK, hA, x3⟩
 unfold tH AE
 have o13 := o1.ext x3 (by omega)
 have z2 := x02.size
 have z3 := x3.size
 have x03 : aS w w3 cM := x02.trans x3 fun b hb h => by omega
 by_cases hlt : i < l.length
 rotate_left
 .obtain rfl : i = l.length := by omega
  have d1 : decide ((l.length : Int) < (l.length : Int)) = false := by simp
  have l3 := LI (off := 0) o3 (by simp [vL])
  simp only [vL, aHM, aHG, aHO] at l3
  obtain ⟨y0, y1, y2, e0, e1, e2⟩ := hC.form
  simp (disch := omega) only [aC, aX, d1, aA, aE]
  unfold vZ
  simp (disch := omega) only [aC, l3, aA]
  refine aFi o13 rfl (by rw [e0] <;> rfl) (by rw [e1] <;> rfl) (by rw [e2] <;> rfl) fun w' x => ?_
  rw [hRR]
  refine ⟨.inl ⟨v, D, L, rfl, (hC.ext x fun b h1 h2 h3 => by omega).lower (by omega), ?_⟩, x03.new x (by omega)⟩
  rw [aJi] at hK
  exact hK
 have d1 : decide ((i : Int) < (l.length : Int)) = true := by simp; omega
 obtain ⟨q, hq⟩ : ∃ q, l[i]? = some q := ⟨_, aHQ hlt⟩
 have hqm := aIX hq
 obtain ⟨b, off, c, e, lq⟩ := alS (Om h x03 (cB _) (by omega)) hq
 cases e
 have lq3 := lq w3 (fun _ => rfl)
 simp only [Tc] at lq3
 simp (disch := omega) only [aC, aX, d1, aA, aF]
 unfold Ce BA Jp BH
 simp (disch := omega) only [aC, lY, aHH, aA, lq3]
 refine GS fun w4 o4 x4 s4 => ?_
 refine adE o4 rfl (by simp [one]) (by simp) fun w5 o5 x5 s5 => ?_
 have o5 : cJ w5 w3.heap.size (Tc q) := o5
 have x35 : aS w3 w5 cM := x4.new x5 (aHS _)
 have l5 := EW (off := 0) o5 (by simp [Tc])
 simp only [Tc, aHM, aHG, aHO] at l5
 simp (disch := omega) only [l5, aA]
 refine (avR q _).mono ?_
 rintro r w6 ⟨rfl, x6⟩
 have x36 := x35.seq x6
 have z36 := x36.size
 unfold B2 BG
 refine cG.rule (fun m (t : aJ3) w' => ∃ (j : Nat) (v : Nat -> aJ3) (D : Nat -> Nat -> Prop) (L : Nat -> List Nat), m = j /\ j <= 3 /\ t = .int .i64 (3 - j : Nat) /\ cJ w' po (vL v) /\ C3 w' w2.heap.size L v D /\ (∀ k, k < 3 -> XB k (if k < 3 - j then l.take (i + 1) else l.take i) (L k)) /\ (∀ k, k < 3 - j -> ∃ c, uK k (kv q k) c) /\ aS w2 w' (fun y => y = po)) 3
  ⟨3, v, D, L, rfl, aHS _, rfl, o3.ext x36 (fun h => h), hC.ext x36 (fun _ _ _ h => h), fun k hk => by rw [if_neg (by omega)]; exact hK k hk, fun k hk => by omega, x3.more x36⟩ ?_
 rintro j t w7 ⟨n, v7, D7, L7, rfl, hj, rfl, o7, hC7, hK7, hA7, x7⟩
 have z7 := x7.size
 have x07 : aS w w7 cM := x02.trans x7 fun b hb h => by omega
 have hgw := hg.ext x07
 have htk : l.take (i + 1) = l.take i ++ [q] := by rw [aIr, hq] <;> rfl
 unfold vQ
 rcases j with _ | j
 .have d2 : decide (((3 - 0 : Nat) : Int) < 3) = false := rfl
  have e1 : (i : Int) + 1 = ((i + 1 : Nat) : Int) := by omega
  simp (disch := omega) only [aC, aX, d2, bM, aT, aA, aE]
  unfold uO
  simp (disch := omega) only [aC, bM, e1, aT, aA]
  refine ⟨l.length - (i + 1), by omega, i + 1, v7, D7, L7, rfl, by omega, rfl, o7, hC7, fun k hk => ?_, fun p hp k hk => ?_, x7⟩
  .have := hK7 k hk
   rw [if_pos (by omega)] at this
   exact this
  .rw [htk] at hp
   rcases aI2.1 hp with hp | hp
   .exact hA p hp k hk
   .obtain rfl := aIW.1 hp
    exact hA7 k (by omega)
 obtain ⟨k, hkk⟩ : ∃ k, k = 2 - j := ⟨_, rfl⟩
 have hk3 : k < 3 := by omega
 have ek : ((3 - (j + 1) : Nat) : Int) = (k : Int) := by omega
 have hk2 : 3 - (j + 1) = k := by omega
 have d2 : decide ((k : Int) < 3) = true := by simp; omega
 rw [ek]
 rw [hk2] at hK7 hA7
 have hx := aFI q hk3
 simp (disch := omega) only [aC, aX, d2, MR, aHH, hx, aI, sZ, aHI, bM, aT, aA, cL, aF]
 refine (aHi hgw hk3 (hu q hqm k)).mono ?_
 rintro r w8 ⟨hr, x8⟩
 have x78 := x8
 have z8 := x8.size
 have o8 := o7.ext x8 (fun h => h)
 have hC8 := hC7.ext x8 (fun _ _ _ h => h)
 have o18 := (o1.ext x7 (by omega)).ext x8 (fun h => h)
 rcases hr with ⟨c, hcv, rfl⟩ | ⟨hno, rfl⟩
 rotate_left
 .have n1 : ((17 : Int) != 0) = true := rfl
  have l8 := LI (off := 0) o8 (by simp [vL])
  simp only [vL, aHM, aHG, aHO] at l8
  obtain ⟨y0, y1, y2, e0, e1, e2⟩ := hC8.form
  simp (disch := omega) only [RQ, Sd, RN, aA, eT, n1, aF, l8]
  refine aFi o18 rfl (by rw [e0] <;> rfl) (by rw [e1] <;> rfl) (by rw [e2] <;> rfl) fun w' x => ?_
  rw [hRR]
  refine ⟨.inr ⟨⟨q, hqm, k, hk3, hno⟩, y0, y1, y2, by rw [e0, e1, e2]⟩, (x07.seq x8).new x (by omega)⟩
 have n1 : ((0 : Int) != 0) = false := rfl
 have c8 := o8.cell (off := k)
 rw [aAS _ hk3] at c8
 obtain ⟨va, vc, ev⟩ := (hC8.row k hk3).len
 simp (disch := omega) only [RQ, Sd, RN, aA, eT, n1, aE, c8, aI]
 refine wQ (cells := #[.int .i64 (c : Nat)]) (by decide) (by decide) (by kernel_rfl) fun w9 o9 x9 s9 => ?_
 have o9 : cJ w9 w8.heap.size [.int .i64 (c : Nat)] := o9
 have hlen : (L7 k).length <= l.length := by
  have := (hK7 k hk3).1
  rw [this]
  split
  .rw [aHZ]; omega
  .rw [aHZ]; omega
 have hC9 := hC8.ext x9 (fun _ _ _ h => h)
 have hb9 : ∀ b, w9.heap.size <= b -> (D7 k b ∨ w9.heap.size <= b) := fun b hb => .inr hb
 have os9 : OSS w9 (fun b => D7 k b ∨ w9.heap.size <= b) 1 (v7 k) (L7 k).length ((L7 k).map fun (n : Nat) => Value.int .i64 n) := by
  have := hC9.row k hk3
  refine ⟨this.1, ?_⟩
  rcases this.2 with h2 | ⟨b, cc, rest, h1, h2, h3⟩
  .exact .inl h2
  .exact .inr ⟨b, cc, rest, h1, .inl h2, h3⟩
 refine uL (m := 1) (news := [.int .i64 (c : Nat)]) (i := Tryd.t3) Tryd.underlying77 Tryd.underlying77 CF rfl rfl rfl os9 (o9.cl (off := 0) (l := [.int .i64 (c : Nat)]) (n := 1) rfl (fun i hi => by rw [aHI])) (by simp [one]) hb9 (by omega) (by rw [show Tryd.t3.bytes = 8 from rfl]; omega) (by decide) fun v10 w10 o10 x10 => ?_
 have z9 := x9.size
 have hC10 := hC9.app (c := L7 k ++ [c]) hk3 (by omega) (by rw [aHR, aIo]; exact o10) x10
 have hpo2 : po < w2.heap.size := by omega
 have o10p : cJ w10 po (vL v7) := (o8.ext x9 (fun h => h)).ext x10 (fun h => by
  rcases h with h | h
  .have := (hC9.bd k hk3 po h).1; omega
  .omega)
 obtain ⟨va', vc', ev'⟩ := o10.len
 refine U5 o10p (by rw [ev'] <;> rfl) (by simp [vL]; omega) fun w11 o11 x11 s11 => ?_
 rw [aFD _ hk3] at o11
 have e1 : (k : Int) + 1 = ((3 - j : Nat) : Int) := by omega
 simp (disch := omega) only [e1]
 refine ⟨j, by omega, j, _, _, _, rfl, by omega, rfl, o11, hC10.ext x11 (fun b hb _ h => by omega), fun i' hi' => ?_, fun i' hi' => ?_, ?_⟩
 .unfold upL
  by_cases he : i' = k
  .subst he
   rw [if_pos rfl, if_pos (by omega), htk]
   have := hK7 i' hi'
   rw [if_neg (by omega)] at this
   exact this.snoc hcv
  .rw [if_neg he]
   have := hK7 i' hi'
   by_cases hlt' : i' < k
   .rw [if_pos hlt'] at this
    rw [if_pos (by omega)]; exact this
   .rw [if_neg hlt'] at this
    rw [if_neg (by omega)]; exact this
 .by_cases he : i' = k
  .rw [he]; exact ⟨c, hcv⟩
  .exact hA7 i' (by omega)
 .have x29 : aS w2 w9 (fun y => y = po) := (x7.more x8).more x9
  refine (x29.trans x10 fun b hb h => ?_).seq x11
  rcases h with h | h
  .have := (hC9.bd k hk3 b h).1; omega
  .have := x29.size; omega
theorem ND {w w' : aJ2} {S M : Nat -> Prop} {sz n : Nat} {v : aJ3} {l : List aJ3} (h : OSS w S sz v n l) (hx : aS w w' M) (hM : ∀ b, S b -> ¬ M b) : OSS w' S sz v n l := by
 refine ⟨h.1, ?_⟩
 rcases h.2 with h2 | ⟨b, c, rest, h1, h2, h3, h4, h5⟩
 .exact .inl h2
 .exact .inr ⟨b, c, rest, h1, h2, h3.ext hx (hM b h2), h4, h5⟩
def Wr (w : aJ2) (lo p : Nat) (B : List Bool) : Prop := lo <= p /\ ∃ v bytes, cJ w p [v, .int .i64 B.length] /\ OSS w (fun b => lo <= b /\ b ≠ p) 1 v bytes.length (bytes.map GI) /\ agF B bytes
def Rm (w : aJ2) (lo p : Nat) (B : List Bool) : Prop := lo <= p /\ ∃ v bytes, cJ w p [v, .int .i64 B.length] /\ OSS w (fun b => lo <= b /\ b ≠ p) 1 v bytes.length (bytes.map GI) /\
 bE bytes = B ++ List.replicate (8 * bytes.length - B.length) false /\ bytes.length = (B.length + 1 + 7) / 8
theorem Wr.ext {w w' : aJ2} {lo p : Nat} {B : List Bool} {M : Nat -> Prop} (h : Wr w lo p B) (hx : aS w w' M) (hM : ∀ b, lo <= b -> ¬ M b) : Wr w' lo p B := by
 obtain ⟨h0, v, bytes, h1, h2, h3⟩ := h
 exact ⟨h0, v, bytes, h1.ext hx (hM _ h0), ND h2 hx fun b hb => hM b hb.1, h3⟩
theorem avX (w : aJ2) : aR pg qI #[] w (fun r w' => r = .pointer (some ⟨w.heap.size, 0, none⟩) /\ w.heap.size < w'.heap.size /\ Wr w' w.heap.size w.heap.size [] /\ aS w w' cM) := by
 refine IG ?_
 unfold Jr xN
 simp (disch := omega) only [aC, Bm, aA]
 refine fV fun w1 o1 x1 s1 => ?_
 simp only [Value.cells] at o1
 exact ⟨rfl, by omega, ⟨aHS _, _, [], o1, ⟨rfl, .inl ⟨rfl, rfl⟩⟩, avQ⟩, x1⟩
theorem aFv {lo p x i : Nat} {B : List Bool} {t17 : aJ3} {w : aJ2} (h : Rm w lo p B) (hx : x < 2 ^ 64) (hi : i <= 60) (hB : B.length <= 1000000000)
 {kn : aJ3 -> aJ3 -> aJ3 -> aJ3 -> aJ2 -> Prop} (hR : ∀ w', Wr w' lo p (B ++ [x.testBit i]) -> aS w w' (fun y => lo <= y) -> kn (.pointer (some ⟨p, 0, none⟩)) (.int .u64 x) t17 (.int .i64 i) w') :
 kL kn (.pointer (some ⟨p, 0, none⟩)) (.int .u64 x) (.int .i64 i) t17 (.int .i64 i) w := by
 obtain ⟨h0, v, bytes, o, os, hbits, hlen⟩ := h
 obtain ⟨hlt, hheld, hval, hor⟩ := axW (y := x.testBit i) hbits hlen
 rcases os.2 with ⟨rfl, hz⟩ | ⟨b, c, rest, rfl, hS, ob, hc, hn⟩
 .rw [hlen] at hz; omega
 generalize hq : B.length = q at *
 have hcell : (bytes.map GI ++ rest)[q / 8]? = some (.int .u8 ((bytes[q / 8]'hlt).toNat : Nat)) := by
  rw [aHW (by rw [aHU]; exact hlt), aH9, aHQ hlt] <;> rfl
 have hcl : (bytes[q / 8]'hlt).toNat < 2 ^ 8 := aIc _
 have hset : (bytes.map GI ++ rest).set (q / 8) (.int .u8 (((bytes[q / 8]'hlt).toNat + 2 ^ (q % 8) * (x.testBit i).toNat : Nat))) = (bytes.set (q / 8) (UInt8.ofNat ((bytes[q / 8]'hlt).toNat + 2 ^ (q % 8) * (x.testBit i).toNat))).map GI ++ rest := by
  rw [aJf _ _ (by rw [aHU]; exact hlt), aJl, GI, UInt8.toNat_ofNat_of_lt' (by simpa using hval)]
 have hbl : (bytes.set (q / 8) (UInt8.ofNat ((bytes[q / 8]'hlt).toNat + 2 ^ (q % 8) * (x.testBit i).toNat))).length = bytes.length := aJv
 generalize bytes.set (q / 8) (UInt8.ofNat ((bytes[q / 8]'hlt).toNat + 2 ^ (q % 8) * (x.testBit i).toNat)) = bytes' at *
 generalize (bytes[q / 8]'hlt).toNat = y at *
 have e1 : (q : Int).tdiv 8 = ((q / 8 : Nat) : Int) := by rw [aId (by omega)]; omega
 have e2 : (q : Int).tmod 8 = ((q % 8 : Nat) : Int) := by rw [aIa (by omega)]; omega
 have e3 := UX x i (by omega)
 have hxl : x / 2 ^ i < 2 ^ 64 := by have := aJI x (2 ^ i); omega
 have e4 := awK hxl
 rw [<- agY] at e4
 have hbt : (x.testBit i).toNat <= 1 := Bool.toNat_le _
 have hp8 : 2 ^ (q % 8) <= 2 ^ 7 := aHT (by omega) (by omega)
 have hm : (x.testBit i).toNat * 2 ^ (q % 8) <= 2 ^ (q % 8) := by
  have := aIp (2 ^ (q % 8)) hbt
  omega
 have e5 : IntKind.u8.wrap (((x.testBit i).toNat : Int) * 2 ^ (min (q % 8) IntKind.u8.bits)) = (((x.testBit i).toNat * 2 ^ (q % 8) : Nat) : Int) := by
  rw [show min (q % 8) IntKind.u8.bits = q % 8 from aIA (by have h8 : IntKind.u8.bits = 8 := rfl; omega)]
  have e : ((x.testBit i).toNat : Int) * 2 ^ (q % 8) = (((x.testBit i).toNat * 2 ^ (q % 8) : Nat) : Int) := by simp
  rw [e]
  exact QN (by omega) (by omega)
 have e6 := awM (a := y) (b := (x.testBit i).toNat * 2 ^ (q % 8)) hcl (by omega)
 rw [hor] at e6
 have e7 : (q : Int) + 1 = ((q + 1 : Nat) : Int) := by omega
 have od := dN o
 have obd := dN ob
 have c0 := od.cell (off := 0)
 have c1 := od.cell (off := 1)
 have g := obd.cell (off := q / 8)
 rw [hcell] at g
 simp only [aHJ, aHK] at c0 c1
 unfold kL
 simp (disch := omega) only [aC, rM, lM, hP, aA, kS, aHI, cA, c1, aI, CA, e2, true_and, xL, aHH, e3, R9, e4, pP, QN, mN, e5, Ee, e1, aT, iU, gA, c0, oU, mU, g, auM, e6]
 refine Z3 obd rfl (by rw [aHR, aHU]; omega) fun w2 o2 x2 s2 => ?_
 rw [hset] at o2
 have op2 := od.ext x2 (fun h => hS.2 h.symm)
 have c12 := op2.cell (off := 1)
 simp only [aHJ, aHK] at c12
 simp (disch := omega) only [c12, aI, aA, bM, e7, aT]
 refine tA op2 rfl (by simp) fun w3 o3 x3 s3 => ?_
 simp only [aHL, aHN] at o3
 have hBl : (B ++ [x.testBit i]).length = q + 1 := by rw [aHR, hq] <;> rfl
 refine hR _ ⟨h0, _, bytes', by rw [hBl]; exact o3, ⟨by simp, .inr ⟨b, c, rest, by rw [hbl], hS, o2.ext x3 hS.2, ?_, by rw [hbl]; exact hn⟩⟩, hheld⟩ ?_
 .rw [aHR, aHU] at hc ⊢; rw [hbl]; exact hc
 .exact ((aS.dr _ _).seq (x2.mono fun z _ h => by omega)).seq (x3.mono fun z _ h => by omega)
theorem aG1 {lo p x i n : Nat} {B : List Bool} {w : aJ2} (hw : Wr w lo p B) (hx : x < 2 ^ 64) (hi : i <= 60) (hB : B.length <= 1000000000)
 {kn : aJ3 -> aJ3 -> aJ3 -> aJ3 -> aJ2 -> Prop} (hR : ∀ w', Wr w' lo p (B ++ [x.testBit i]) -> aS w w' (fun y => lo <= y) -> kn (.pointer (some ⟨p, 0, none⟩)) (.int .u64 x) (.int .i64 n) (.int .i64 i) w') :
 oP kn (.pointer (some ⟨p, 0, none⟩)) (.int .u64 x) (.int .i64 n) (.int .i64 i) w := by
 unfold oP sF
 obtain ⟨h0, v, bytes, o, os, hh⟩ := hw
 have c1 := o.cell (off := 1)
 have c0 := o.cell (off := 0)
 simp only [aHJ, aHK] at c0 c1
 have e2 : (B.length : Int).tmod 8 = ((B.length % 8 : Nat) : Int) := by rw [aIa (by omega)]; omega
 by_cases h8 : B.length % 8 = 0
 .have d4 : (((B.length % 8 : Nat) : Int) == 0) = true := by rw [h8] <;> rfl
  obtain ⟨hr1, hr2⟩ := arI hh h8
  have hl2 := hh.len
  have lp := o.lt
  simp (disch := omega) only [aC, rM, aA, iU, gA, kS, aHI, cA, c1, aI, CA, e2, cR, d4, c0, aF]
  refine uM (cells := #[.int .u8 0]) (by decide) (by decide) (by kernel_rfl) fun w2 o2 x2 s2 => ?_
  refine uL (m := 1) (news := [GI 0]) (i := Tryd.t5) Tryd.underlying22 Tryd.underlying22 U9 rfl rfl rfl (ND os x2 (fun _ _ h => h)) (o2.cl (off := 0) (l := [GI 0]) (n := 1) rfl (fun i hi => by rw [aHI] <;> rfl)) (by simp [one, GI]) (fun b hb => ⟨by omega, by omega⟩) (by omega) (by rw [show Tryd.t5.bytes = 1 from rfl]; omega) (by decide) fun v3 w3 o3 x3 => ?_
  have x13 : aS w w3 (fun y => lo <= y /\ y ≠ p) := (x2.mono fun _ _ h => h.elim).seq x3
  have op3 := o.ext x13 (fun h => h.2 rfl)
  have hv3 : ∃ a n c, v3 = .slice a n c := by
   rcases o3.2 with ⟨rfl, _⟩ | ⟨b, c, rest, rfl, _⟩
   .exact ⟨_, _, _, rfl⟩
   .exact ⟨_, _, _, rfl⟩
  obtain ⟨a3, n3, c3, rfl⟩ := hv3
  refine Gu op3 rfl (by simp) fun w4 o4 x4 s4 => ?_
  simp only [aHL, aHN] at o4
  have x14 : aS w w4 (fun y => lo <= y) := (x13.mono fun y _ h => h.1).seq (x4.mono fun y _ h => by omega)
  refine aFv (w := w4) ⟨h0, _, bytes ++ [0], o4, ?_, ?_, hr2⟩ hx hi hB fun w5 h5 x5 => hR w5 h5 (x14.seq x5)
  .have := ND o3 x4 (fun b hb h => hb.2 h)
   rw [aHR, aIo]
   exact this
  .rw [aHR]; exact hr1
 .have d4 : (((B.length % 8 : Nat) : Int) == 0) = false := by simp; omega
  simp (disch := omega) only [aC, rM, aA, iU, gA, kS, aHI, cA, c1, aI, CA, e2, cR, d4, aE]
  refine aFv (w := w) ⟨h0, v, bytes, o, os, hh.bits, ?_⟩ hx hi hB fun w5 h5 x5 => hR w5 h5 x5
  rw [hh.len]; omega
theorem Qg {lo p x n : Nat} {B : List Bool} {w : aJ2} (h : Wr w lo p B) (hx : x < 2 ^ 64) (hn : n <= 56) (hB : B.length <= 100000000) :
 aR pg eZ #[.pointer (some ⟨p, 0, none⟩), .int .u64 x, .int .i64 n] w (fun r w' => r = .tuple #[] /\ Wr w' lo p (B ++ gD x n) /\ aS w w' (fun y => lo <= y)) := by
 refine Dl ?_
 unfold C8 rK rI
 by_cases hn0 : n = 0
 .subst hn0
  have d1 : decide (((0 : Nat) : Int) < 1) = true := rfl
  simp (disch := omega) only [aC, kM, aH7, true_and, aA, dB, bN, aHP, if_false, bP, aX, d1, jE, if_true, aF, dV]
  exact ⟨by rw [EA, aIy]; exact h, aS.refl _ _⟩
 have d1 : decide ((n : Int) < 1) = false := by simp; omega
 have d2 : decide ((56 : Int) < (n : Int)) = false := by simp; omega
 simp (disch := omega) only [aC, kM, aH7, true_and, aA, dB, bN, aHP, if_false, bP, aX, d1, dM, d2, aE]
 unfold rG sL
 refine cG.rule (fun m (t : aJ3) w' => ∃ i : Nat, m = n - i /\ t = .int .i64 i /\ i <= n /\ Wr w' lo p (B ++ gD x i) /\ aS w w' (fun y => lo <= y)) n
  ⟨0, rfl, rfl, by omega, by rw [EA, aIy]; exact h, aS.refl _ _⟩ ?_
 rintro m t w1 ⟨i, rfl, rfl, hi, hw, x1⟩
 unfold oZ rW
 by_cases hlt : i < n
 .have d3 : decide ((i : Int) < (n : Int)) = true := by simp; omega
  simp (disch := omega) only [aC, aX, d3, aA, aF]
  unfold sK sG
  refine aG1 hw hx (by omega) (by rw [aHR, dH]; omega) fun w3 hw3 x3 => ?_
  unfold pC
  simp (disch := omega) only [aC, bM, aT, aA]
  refine ⟨n - (i + 1), by omega, i + 1, rfl, rfl, by omega, ?_, x1.seq x3⟩
  rw [JU, <- aHV]
  exact hw3
 .have d3 : decide ((i : Int) < (n : Int)) = false := by simp; omega
  obtain rfl : i = n := by omega
  simp (disch := omega) only [aC, aX, d3, aA, aE]
  exact ⟨hw, x1⟩
def Ws (w : aJ2) (S : Nat -> Prop) (p : Nat) (B : List Bool) : Prop := ¬ S p /\ ∃ v bytes, cJ w p [v, .int .i64 B.length] /\ OSS w S 1 v bytes.length (bytes.map GI) /\ agF B bytes
def Rs (w : aJ2) (S : Nat -> Prop) (p : Nat) (B : List Bool) : Prop := ¬ S p /\ ∃ v bytes, cJ w p [v, .int .i64 B.length] /\ OSS w S 1 v bytes.length (bytes.map GI) /\
 bE bytes = B ++ List.replicate (8 * bytes.length - B.length) false /\ bytes.length = (B.length + 1 + 7) / 8
theorem Ws.ext {w w' : aJ2} {S M : Nat -> Prop} {p : Nat} {B : List Bool} (h : Ws w S p B) (hx : aS w w' M) (hp : ¬ M p) (hM : ∀ b, S b -> ¬ M b) : Ws w' S p B := by
 obtain ⟨h0, v, bytes, h1, h2, h3⟩ := h
 exact ⟨h0, v, bytes, h1.ext hx hp, ND h2 hx hM, h3⟩
theorem Ws.turn {w : aJ2} {S T : Nat -> Prop} {p : Nat} {B : List Bool} (h : Ws w S p B) (hp : ¬ T p) (hT : ∀ b, S b -> b < w.heap.size -> T b) : Ws w T p B := by
 obtain ⟨h0, v, bytes, h1, h2, h3⟩ := h
 refine ⟨hp, v, bytes, h1, ⟨h2.1, ?_⟩, h3⟩
 rcases h2.2 with h2 | ⟨b, c, rest, e, hb, o, hc, hn⟩
 .exact .inl h2
 .exact .inr ⟨b, c, rest, e, hT b hb o.lt, o, hc, hn⟩
theorem aDr {S : Nat -> Prop} {p x i : Nat} {B : List Bool} {t17 : aJ3} {w : aJ2} (h : Rs w S p B) (hx : x < 2 ^ 64) (hi : i <= 60) (hB : B.length <= 1000000000)
 {kn : aJ3 -> aJ3 -> aJ3 -> aJ3 -> aJ2 -> Prop} (hR : ∀ w', Ws w' S p (B ++ [x.testBit i]) -> aS w w' (fun y => y = p ∨ S y) -> kn (.pointer (some ⟨p, 0, none⟩)) (.int .u64 x) t17 (.int .i64 i) w') :
 kL kn (.pointer (some ⟨p, 0, none⟩)) (.int .u64 x) (.int .i64 i) t17 (.int .i64 i) w := by
 obtain ⟨h0, v, bytes, o, os, hbits, hlen⟩ := h
 obtain ⟨hlt, hheld, hval, hor⟩ := axW (y := x.testBit i) hbits hlen
 rcases os.2 with ⟨rfl, hz⟩ | ⟨b, c, rest, rfl, hS, ob, hc, hn⟩
 .rw [hlen] at hz; omega
 generalize hq : B.length = q at *
 have hcell : (bytes.map GI ++ rest)[q / 8]? = some (.int .u8 ((bytes[q / 8]'hlt).toNat : Nat)) := by
  rw [aHW (by rw [aHU]; exact hlt), aH9, aHQ hlt] <;> rfl
 have hcl : (bytes[q / 8]'hlt).toNat < 2 ^ 8 := aIc _
 have hset : (bytes.map GI ++ rest).set (q / 8) (.int .u8 (((bytes[q / 8]'hlt).toNat + 2 ^ (q % 8) * (x.testBit i).toNat : Nat))) = (bytes.set (q / 8) (UInt8.ofNat ((bytes[q / 8]'hlt).toNat + 2 ^ (q % 8) * (x.testBit i).toNat))).map GI ++ rest := by
  rw [aJf _ _ (by rw [aHU]; exact hlt), aJl, GI, UInt8.toNat_ofNat_of_lt' (by simpa using hval)]
 have hbl : (bytes.set (q / 8) (UInt8.ofNat ((bytes[q / 8]'hlt).toNat + 2 ^ (q % 8) * (x.testBit i).toNat))).length = bytes.length := aJv
 generalize bytes.set (q / 8) (UInt8.ofNat ((bytes[q / 8]'hlt).toNat + 2 ^ (q % 8) * (x.testBit i).toNat)) = bytes' at *
 generalize (bytes[q / 8]'hlt).toNat = y at *
 have e1 : (q : Int).tdiv 8 = ((q / 8 : Nat) : Int) := by rw [aId (by omega)]; omega
 have e2 : (q : Int).tmod 8 = ((q % 8 : Nat) : Int) := by rw [aIa (by omega)]; omega
 have e3 := UX x i (by omega)
 have hxl : x / 2 ^ i < 2 ^ 64 := by have := aJI x (2 ^ i); omega
 have e4 := awK hxl
 rw [<- agY] at e4
 have hbt : (x.testBit i).toNat <= 1 := Bool.toNat_le _
 have hp8 : 2 ^ (q % 8) <= 2 ^ 7 := aHT (by omega) (by omega)
 have hm : (x.testBit i).toNat * 2 ^ (q % 8) <= 2 ^ (q % 8) := by
  have := aIp (2 ^ (q % 8)) hbt
  omega
 have e5 : IntKind.u8.wrap (((x.testBit i).toNat : Int) * 2 ^ (min (q % 8) IntKind.u8.bits)) = (((x.testBit i).toNat * 2 ^ (q % 8) : Nat) : Int) := by
  rw [show min (q % 8) IntKind.u8.bits = q % 8 from aIA (by have h8 : IntKind.u8.bits = 8 := rfl; omega)]
  have e : ((x.testBit i).toNat : Int) * 2 ^ (q % 8) = (((x.testBit i).toNat * 2 ^ (q % 8) : Nat) : Int) := by simp
  rw [e]
  exact QN (by omega) (by omega)
 have e6 := awM (a := y) (b := (x.testBit i).toNat * 2 ^ (q % 8)) hcl (by omega)
 rw [hor] at e6
 have e7 : (q : Int) + 1 = ((q + 1 : Nat) : Int) := by omega
 have od := dN o
 have obd := dN ob
 have c0 := od.cell (off := 0)
 have c1 := od.cell (off := 1)
 have g := obd.cell (off := q / 8)
 rw [hcell] at g
 simp only [aHJ, aHK] at c0 c1
 unfold kL
 simp (disch := omega) only [aC, rM, lM, hP, aA, kS, aHI, cA, c1, aI, CA, e2, true_and, xL, aHH, e3, R9, e4, pP, QN, mN, e5, Ee, e1, aT, iU, gA, c0, oU, mU, g, auM, e6]
 refine Z3 obd rfl (by rw [aHR, aHU]; omega) fun w2 o2 x2 s2 => ?_
 rw [hset] at o2
 have op2 := od.ext x2 (fun h => h0 (h ▸ hS))
 have c12 := op2.cell (off := 1)
 simp only [aHJ, aHK] at c12
 simp (disch := omega) only [c12, aI, aA, bM, e7, aT]
 refine tA op2 rfl (by simp) fun w3 o3 x3 s3 => ?_
 simp only [aHL, aHN] at o3
 have hBl : (B ++ [x.testBit i]).length = q + 1 := by rw [aHR, hq] <;> rfl
 refine hR _ ⟨h0, _, bytes', by rw [hBl]; exact o3, ⟨by simp, .inr ⟨b, c, rest, by rw [hbl], hS, o2.ext x3 (fun h => h0 (h ▸ hS)), ?_, by rw [hbl]; exact hn⟩⟩, hheld⟩ ?_
 .rw [aHR, aHU] at hc ⊢; rw [hbl]; exact hc
 .exact ((aS.dr _ _).seq (x2.mono fun z _ h => .inr (h ▸ hS))).seq (x3.mono fun z _ h => .inl h)
theorem aFS {S : Nat -> Prop} {p x i n : Nat} {B : List Bool} {w : aJ2} (hw : Ws w S p B) (hN : ∀ b, w.heap.size <= b -> S b) (hx : x < 2 ^ 64) (hi : i <= 60) (hB : B.length <= 1000000000)
 {kn : aJ3 -> aJ3 -> aJ3 -> aJ3 -> aJ2 -> Prop} (hR : ∀ w', Ws w' S p (B ++ [x.testBit i]) -> aS w w' (fun y => y = p ∨ S y) -> kn (.pointer (some ⟨p, 0, none⟩)) (.int .u64 x) (.int .i64 n) (.int .i64 i) w') :
 oP kn (.pointer (some ⟨p, 0, none⟩)) (.int .u64 x) (.int .i64 n) (.int .i64 i) w := by
 unfold oP sF
 obtain ⟨h0, v, bytes, o, os, hh⟩ := hw
 have c1 := o.cell (off := 1)
 have c0 := o.cell (off := 0)
 simp only [aHJ, aHK] at c0 c1
 have e2 : (B.length : Int).tmod 8 = ((B.length % 8 : Nat) : Int) := by rw [aIa (by omega)]; omega
 by_cases h8 : B.length % 8 = 0
 .have d4 : (((B.length % 8 : Nat) : Int) == 0) = true := by rw [h8] <;> rfl
  obtain ⟨hr1, hr2⟩ := arI hh h8
  have hl2 := hh.len
  have lp := o.lt
  simp (disch := omega) only [aC, rM, aA, iU, gA, kS, aHI, cA, c1, aI, CA, e2, cR, d4, c0, aF]
  refine uM (cells := #[.int .u8 0]) (by decide) (by decide) (by kernel_rfl) fun w2 o2 x2 s2 => ?_
  refine uL (m := 1) (news := [GI 0]) (i := Tryd.t5) Tryd.underlying22 Tryd.underlying22 U9 rfl rfl rfl (ND os x2 (fun _ _ h => h)) (o2.cl (off := 0) (l := [GI 0]) (n := 1) rfl (fun i hi => by rw [aHI] <;> rfl)) (by simp [one, GI]) (fun b hb => hN b (by omega)) (by omega) (by rw [show Tryd.t5.bytes = 1 from rfl]; omega) (by decide) fun v3 w3 o3 x3 => ?_
  have x13 : aS w w3 S := (x2.mono fun _ _ h => h.elim).seq x3
  have op3 := o.ext x13 h0
  have hv3 : ∃ a n c, v3 = .slice a n c := by
   rcases o3.2 with ⟨rfl, _⟩ | ⟨b, c, rest, rfl, _⟩
   .exact ⟨_, _, _, rfl⟩
   .exact ⟨_, _, _, rfl⟩
  obtain ⟨a3, n3, c3, rfl⟩ := hv3
  refine Gu op3 rfl (by simp) fun w4 o4 x4 s4 => ?_
  simp only [aHL, aHN] at o4
  have x14 : aS w w4 (fun y => y = p ∨ S y) := (x13.mono fun y _ h => .inr h).seq (x4.mono fun y _ h => .inl h)
  refine aDr (w := w4) ⟨h0, _, bytes ++ [0], o4, ?_, ?_, hr2⟩ hx hi hB fun w5 h5 x5 => hR w5 h5 (x14.seq x5)
  .have := ND o3 x4 (fun b hb h => h0 (h ▸ hb))
   rw [aHR, aIo]
   exact this
  .rw [aHR]; exact hr1
 .have d4 : (((B.length % 8 : Nat) : Int) == 0) = false := by simp; omega
  simp (disch := omega) only [aC, rM, aA, iU, gA, kS, aHI, cA, c1, aI, CA, e2, cR, d4, aE]
  refine aDr (w := w) ⟨h0, v, bytes, o, os, hh.bits, ?_⟩ hx hi hB fun w5 h5 x5 => hR w5 h5 x5
  rw [hh.len]; omega
theorem apT {S : Nat -> Prop} {p x n : Nat} {B : List Bool} {w : aJ2} (h : Ws w S p B) (hN : ∀ b, w.heap.size <= b -> S b) (hx : x < 2 ^ 64) (hn : n <= 56) (hB : B.length <= 100000000) :
 aR pg eZ #[.pointer (some ⟨p, 0, none⟩), .int .u64 x, .int .i64 n] w (fun r w' => r = .tuple #[] /\ Ws w' S p (B ++ gD x n) /\ aS w w' (fun y => y = p ∨ S y)) := by
 refine Dl ?_
 unfold C8 rK rI
 by_cases hn0 : n = 0
 .subst hn0
  have d1 : decide (((0 : Nat) : Int) < 1) = true := rfl
  simp (disch := omega) only [aC, kM, aH7, true_and, aA, dB, bN, aHP, if_false, bP, aX, d1, jE, if_true, aF, dV]
  exact ⟨by rw [EA, aIy]; exact h, aS.refl _ _⟩
 have d1 : decide ((n : Int) < 1) = false := by simp; omega
 have d2 : decide ((56 : Int) < (n : Int)) = false := by simp; omega
 simp (disch := omega) only [aC, kM, aH7, true_and, aA, dB, bN, aHP, if_false, bP, aX, d1, dM, d2, aE]
 unfold rG sL
 refine cG.rule (fun m (t : aJ3) w' => ∃ i : Nat, m = n - i /\ t = .int .i64 i /\ i <= n /\ Ws w' S p (B ++ gD x i) /\ aS w w' (fun y => y = p ∨ S y)) n
  ⟨0, rfl, rfl, by omega, by rw [EA, aIy]; exact h, aS.refl _ _⟩ ?_
 rintro m t w1 ⟨i, rfl, rfl, hi, hw, x1⟩
 unfold oZ rW
 by_cases hlt : i < n
 .have d3 : decide ((i : Int) < (n : Int)) = true := by simp; omega
  simp (disch := omega) only [aC, aX, d3, aA, aF]
  unfold sK sG
  refine aFS hw (fun b hb => hN b (by have := x1.size; omega)) hx (by omega) (by rw [aHR, dH]; omega) fun w3 hw3 x3 => ?_
  unfold pC
  simp (disch := omega) only [aC, bM, aT, aA]
  refine ⟨n - (i + 1), by omega, i + 1, rfl, rfl, by omega, ?_, x1.seq x3⟩
  rw [JU, <- aHV]
  exact hw3
 .have d3 : decide ((i : Int) < (n : Int)) = false := by simp; omega
  obtain rfl : i = n := by omega
  simp (disch := omega) only [aC, aX, d3, aA, aE]
  exact ⟨hw, x1⟩
theorem aDX {lo p : Nat} {B : List Bool} {w : aJ2} (h : Wr w lo p B) (hB : B.length <= 10000000) :
 aR pg sE #[.pointer (some ⟨p, 0, none⟩)] w (fun r w' => ∃ bytes, Bs w' r bytes /\ agF (B ++ [true]) bytes /\ AtI r w.heap.size w'.heap.size /\ aS w w' cM) := by
 refine Pe ?_
 obtain ⟨h0, v, bytes, o, os, hh⟩ := h
 have c0 := (dN o).cell (off := 0)
 have c1 := (dN o).cell (off := 1)
 simp only [aHJ, aHK] at c0 c1
 have hs : Bs w v bytes := by
  have h1 := os.1
  rcases os.2 with ⟨rfl, h2⟩ | ⟨b, c, rest, rfl, h2, h3, h4, h5⟩
  .exact ⟨_, _, _, rfl, by omega, by omega, fun h => by omega⟩
  .refine ⟨_, _, _, rfl, by omega, h5, fun _ => ⟨b, 0, rfl, fun i hi => ?_⟩⟩
   rw [h3.cell, aHI, aHW (by omega)]
 have hl := hh.len
 unfold Le wV
 simp (disch := omega) only [aC, kM, aH7, rM, eD, Result.ok.injEq, Next.value.injEq, and_true, true_and, aA, kS, aHI, cA, iU, gA, c0, aI, c1, aE]
 refine (U6 (hs.ext (aS.dr _ cM) (cB _)) (by omega)).mono ?_
 rintro r w1 ⟨o1, x1⟩
 have z1 := x1.size
 have x01 : aS w w1 cM := (aS.dr w cM).seq x1
 have c11 := (o.ext x01 (fun h => h)).cell (off := 1)
 simp only [aHJ, aHK] at c11
 have hdr : (dr w).heap.size = w.heap.size := rfl
 rw [hdr] at o1 z1
 obtain ⟨a1, cc1, rfl⟩ := o1.len
 simp (disch := omega) only [c11, aI, aA, BL, true_and]
 refine fV fun w2 o2 x2 s2 => ?_
 simp only [Value.cells] at o2
 have hw : Wr w2 w.heap.size w1.heap.size B := by
  refine ⟨z1, _, bytes, o2, ⟨o1.1, ?_⟩, hh⟩
  rcases o1.2 with h2 | ⟨b, c, rest, h1, h2, h3, h4, h5⟩
  .exact .inl h2
  .have := h3.lt
   exact .inr ⟨b, c, rest, h1, ⟨h2, by omega⟩, h3.ext x2 (fun h => h), h4, h5⟩
 refine (Qg (x := 1) (n := 1) hw (by omega) (by omega) (by omega)).mono ?_
 rintro r w3 ⟨rfl, ⟨h0', v3, bytes3, o3, os3, hh3⟩, x3⟩
 have c03 := o3.cell (off := 0)
 simp only [aHJ, aHK] at c03
 simp (disch := omega) only [rM, aA, iU, gA, c03, aI]
 have e1 : gD 1 1 = [true] := by decide
 rw [e1] at hh3
 refine ⟨bytes3, ?_, hh3, ?_, ?_⟩
 .have h1 := os3.1
  rcases os3.2 with ⟨rfl, h2⟩ | ⟨b, c, rest, rfl, h2, h3, h4, h5⟩
  .exact ⟨_, _, _, rfl, by omega, by omega, fun h => by omega⟩
  .refine ⟨_, _, _, rfl, by omega, h5, fun _ => ⟨b, 0, rfl, fun i hi => ?_⟩⟩
   rw [h3.cell, aHI, aHW (by omega)]
 .intro M hM
  rcases os3.2 with ⟨rfl, h2⟩ | ⟨b, c, rest, rfl, h2, h3, h4, h5⟩
  .exact fun h => h
  .exact At.at b 0 _ c M (hM b h2.1 h3.lt)
 .exact (x01.seq x2).trans x3 fun b hb h => by omega
def aDu (L : List T3) (s sy : Int) (r : aJ3) : Prop :=
 (∃ (i : Nat) (e : T3), L[i]? = some e /\ inE sy s e = true /\ r = .tuple #[.int .i64 (i : Nat), .int .u64 (s - e.2.2), .int .i64 e.2.1, .int .i64 0]) ∨
 ((∀ (i : Nat) (e : T3), L[i]? = some e -> inE sy s e = false) /\ r = .tuple #[.int .i64 0, .int .u64 0, .int .i64 0, .int .i64 21])
theorem aCU {w : aJ2} {base b log : Nat} {L : List T3} {v : aJ3} (h : Tbl w base b log L v) (hL : Low L) (hl : L.length <= 1000000) (s : Nat) (hs : s < L.length) (sy : Int) :
 aR pg Jh #[v, .int .i64 s, .int .u8 sy] w (fun r w' => aDu L s sy r /\ aS w w' cM) := by
 refine ajL ?_
 obtain ⟨rfl, hb, ob⟩ := h
 unfold aoY Nn Oz
 refine fV fun w1 o1 x1 s1 => ?_
 have c1 := o1.cell (off := 1)
 simp only [Value.cells, aHJ, aHK] at c1
 have d1 : decide ((s : Int) < 0) = false := by simp
 have d2 : decide ((L.length : Int) <= (s : Int)) = false := by simp; omega
 simp (disch := omega) only [aC, aX, d1, bZ, aHI, aA, dB, bN, aHP, if_false, bP, dU, c1, aI, iA, pG, d2, aE]
 unfold OH Od Nd NS OL
 simp (disch := omega) only [aC, bZ, aHI, aA, dU, c1, aI, iA]
 refine cG.rule (fun m t w' => ∃ i : Nat, m = L.length - i /\ t = .int .i64 i /\ i <= L.length /\ (∀ (j : Nat) (e : T3), j < i -> L[j]? = some e -> inE sy s e = false) /\ aS w w' cM) L.length ⟨0, rfl, rfl, by omega, fun j e hj => by omega, x1⟩ ?_
 rintro m t w2 ⟨i, rfl, rfl, hi, hno, x2⟩
 unfold FD
 by_cases hlt : i < L.length
 .have d3 : decide ((i : Int) < (L.length : Int)) = true := by simp; omega
  have l1 := NK (off := i * 3) (ob.ext x2 (fun h => h)) (by rw [kX]; omega)
  rw [atQ hlt] at l1
  obtain ⟨n, hn, hn2, hb0, hb1⟩ := hL _ (aH1 hlt)
  have hge : L[i]? = some L[i] := aHQ hlt
  have hinE : inE sy s L[i] = decide (L[i].1 = sy /\ L[i].2.2 <= s /\ (s : Int) < L[i].2.2 + ((2 ^ n : Nat) : Int)) := by
   unfold inE; rw [hn]; simp
  generalize L[i] = e at *
  obtain ⟨e1, e2, e3⟩ := e
  simp only at hn hb0 hb1 l1 hinE
  subst hn
  simp (disch := omega) only [aC, aX, d3, lW, aHH, aHI, true_and, bM, aT, aA, l1, aF]
  refine QI fun w3 o3 x3 s3 => ?_
  refine MT o3 rfl (by simp [one]) (by simp) fun w4 o4 x4 s4 => ?_
  simp only [aV, aHL, aHN] at o4
  have k0 := o4.cell (off := 0)
  have k1 := o4.cell (off := 1)
  have k2 := o4.cell (off := 2)
  simp only [aHJ, aHK] at k0 k1 k2
  have x5 : aS w w4 cM := (x2.seq x3).new x4 x2.size
  have hsh := atZ hn2
  have od := dN o4
  have k1d := od.cell (off := 1)
  simp only [aHJ, aHK] at k1d
  have no : ∀ {b : Bool}, inE sy s (e1, (n : Int), e3) = b -> b = false -> ∀ (j : Nat) (e : T3), j < i + 1 -> L[j]? = some e -> inE sy s e = false := fun h1 h2 j e hj he => by
   by_cases hji : j = i
   .subst hji; rw [hge] at he; rw [<- aH2 he, h1, h2]
   .exact hno j e (by omega) he
  by_cases he : e1 = sy
  .have d4 : (e1 == sy) = true := by simpa using he
   by_cases h5 : e3 <= (s : Int)
   .have d5 : decide ((0 : Int) <= (s : Int) - e3) = true := by simp; omega
    by_cases h6 : (s : Int) - e3 < ((2 ^ n : Nat) : Int)
    .have d6 : decide ((s : Int) - e3 < ((2 ^ n : Nat) : Int)) = true := by simpa using h6
     have hw : IntKind.u64.wrap ((s : Int) - e3) = (s : Int) - e3 := hP (by omega) (by omega)
     simp (disch := omega) only [lJ, aHI, fS, jY, aA, cA, true_and, mU, k2, aI, eA, aT, k0, fY, hw, cR, d4, sX, bN, if_true, bP, pG, d5, k1, mN, aHH, hsh, aX, d6, k1d, aF]
     exact ⟨.inl ⟨i, _, hge, by rw [hinE, decide_eq_true ⟨he, h5, by omega⟩], rfl⟩, x5.seq (aS.dr _ _)⟩
    .have d6 : decide ((s : Int) - e3 < ((2 ^ n : Nat) : Int)) = false := by simpa using h6
     simp (disch := omega) only [lJ, aHI, fS, jY, aA, cA, true_and, mU, k2, aI, eA, aT, k0, fY, hP, cR, d4, sX, bN, if_true, bP, pG, d5, k1, mN, aHH, hsh, aX, d6, aE]
     exact ⟨L.length - (i + 1), by omega, i + 1, rfl, rfl, by omega, no hinE (decide_eq_false (by omega)), x5⟩
   .have d5 : decide ((0 : Int) <= (s : Int) - e3) = false := by simp; omega
    simp (disch := omega) only [lJ, aHI, fS, jY, aA, cA, true_and, mU, k2, aI, eA, aT, k0, fY, cR, d4, sX, bN, if_true, bP, pG, d5, Fm, aHP, if_false, aE, dV]
    exact ⟨L.length - (i + 1), by omega, i + 1, rfl, rfl, by omega, no hinE (decide_eq_false (by omega)), x5⟩
  .have d4 : (e1 == sy) = false := by simpa using he
   simp (disch := omega) only [lJ, aHI, fS, jY, aA, cA, true_and, mU, k2, aI, eA, aT, k0, fY, cR, d4, Fm, bN, aHP, if_false, aE, dV]
   exact ⟨L.length - (i + 1), by omega, i + 1, rfl, rfl, by omega, no hinE (decide_eq_false (by omega)), x5⟩
 .have d3 : decide ((i : Int) < (L.length : Int)) = false := by simp; omega
  unfold FT
  simp (disch := omega) only [aC, aX, d3, true_and, bM, aT, aA, aE]
  exact ⟨.inr ⟨fun j e he => hno j e (by
   rcases aH6 j L.length with h | h
   .omega
   .rw [aH3 h] at he; cases he) he, rfl⟩, x2⟩
def aEw (L : List T3) (s : Int) (r : aJ3) : Prop :=
 (∃ i, ∃ h : i < L.length, r = .tuple #[.int .i64 (i : Nat), .int .i64 0] /\ L[i].1 = s /\ ∀ j (hj : j < i), L[j].1 ≠ s) ∨
 (r = .tuple #[.int .i64 0, .int .i64 21] /\ ∀ j (hj : j < L.length), L[j].1 ≠ s)
theorem aEV {w : aJ2} {base b log : Nat} {L : List T3} {v : aJ3} (h : Tbl w base b log L v) (hl : L.length <= 1000000) (s : Int) :
 aR pg Mr #[v, .int .u8 s] w (fun r w' => aEw L s r /\ aS w w' cM) := by
 refine aoA ?_
 obtain ⟨rfl, hb, ob⟩ := h
 unfold asH QO Q2
 refine fV fun w1 o1 x1 s1 => ?_
 have c1 := o1.cell (off := 1)
 simp only [Value.cells, aHJ, aHK] at c1
 unfold Rb Qv Qp QH Qf
 simp (disch := omega) only [aC, bZ, aHI, aA, dU, c1, aI, iA]
 refine cG.rule (fun m t w' => ∃ i : Nat, m = L.length - i /\ t = .int .i64 i /\ i <= L.length /\ (∀ j (hj : j < i) (hj2 : j < L.length), L[j].1 ≠ s) /\ aS w w' cM) L.length ⟨0, rfl, rfl, by omega, fun j hj => by omega, x1⟩ ?_
 rintro m t w2 ⟨i, rfl, rfl, hi, hno, x2⟩
 unfold Ja
 by_cases hlt : i < L.length
 .have d1 : decide ((i : Int) < (L.length : Int)) = true := by simp; omega
  have l1 := NK (off := i * 3) (ob.ext x2 (fun h => h)) (by rw [kX]; omega)
  rw [atQ hlt] at l1
  simp (disch := omega) only [aC, aX, d1, lW, aHH, aHI, bM, aT, aA, l1, aF]
  refine QI fun w3 o3 x3 s3 => ?_
  refine MT o3 rfl (by simp [one]) (by simp) fun w4 o4 x4 s4 => ?_
  simp only [aV, aHL, aHN] at o4
  have c0 := o4.cell (off := 0)
  simp only [aHJ] at c0
  have x5 : aS w w4 cM := (x2.seq x3).new x4 x2.size
  by_cases he : L[i].1 = s
  .have d2 : (L[i].1 == s) = true := by simpa using he
   simp (disch := omega) only [fS, aA, mU, c0, aI, cR, d2, aF]
   exact ⟨.inl ⟨i, hlt, rfl, he, fun j hj => hno j hj (by omega)⟩, x5⟩
  .have d2 : (L[i].1 == s) = false := by simpa using he
   simp (disch := omega) only [fS, aA, mU, c0, aI, cR, d2, aE]
   refine ⟨L.length - (i + 1), by omega, i + 1, rfl, rfl, by omega, fun j hj hj2 => ?_, x5⟩
   by_cases hji : j = i
   .subst hji; exact he
   .exact hno j (by omega) hj2
 .have d1 : decide ((i : Int) < (L.length : Int)) = false := by simp; omega
  unfold Jg
  simp (disch := omega) only [aC, aX, d1, bM, aT, aA, aE]
  exact ⟨.inr ⟨rfl, fun j hj => hno j (by omega) hj⟩, x2⟩
end Go.Proofs.YtaggdjhhmbnhoaaDoor
namespace Go.Pu
theorem azF {B : Nat} : ∀ {l : List Nat}, (∀ n ∈ l, n <= B) -> l.sum <= l.length * B
 | [], _ => by simp
 | n :: l, h => by
   have h1 := h n (aIL ..)
   have h2 := azF (l := l) fun m hm => h m (aH0 _ hm)
   rw [aI6, aH5, aJM]; omega
theorem atW {n : Nat} : ∀ {l : List Nat}, n ∈ l -> n <= l.sum
 | [], h => by cases h
 | m :: l, h => by
   rw [aI6]
   rcases aIz.1 h with rfl | h
   .omega
   .have := atW h; omega
def qQ (R S n : Nat) : Nat := if n = 0 then 0 else 1 + n * R / S
def sH (R S n : Nat) : Nat := n * R / S
def iW (n : Nat) : Bool := decide (0 < n)
def Rx (ns : List Nat) (i last : Nat) : Prop := (last = 0 /\ ∀ j, j < i -> ns.getD j 0 = 0) ∨ (last < i /\ 0 < ns.getD last 0 /\ ∀ j, last < j -> j < i -> ns.getD j 0 = 0)
theorem Rx.step {ns : List Nat} {i last : Nat} (h : Rx ns i last) : Rx ns (i + 1) (if 0 < ns.getD i 0 then i else last) := by
 split
 .rename_i h0
  exact .inr ⟨by omega, h0, fun j h1 h2 => by omega⟩
 .rename_i h0
  rcases h with ⟨rfl, h⟩ | ⟨h1, h2, h3⟩
  .refine .inl ⟨rfl, fun j hj => ?_⟩
   rcases aH6 j i with h' | h'
   .exact h j h'
   .have : j = i := by omega
    subst this; omega
  .refine .inr ⟨by omega, h2, fun j hj hj2 => ?_⟩
   rcases aH6 j i with h' | h'
   .exact h3 j hj h'
   .have : j = i := by omega
    subst this; omega
theorem Rx.one {ns : List Nat} {i a b : Nat} (ha : Rx ns i a) (hb : Rx ns i b) : a = b := by
 rcases ha with ⟨rfl, h⟩ | ⟨h1, h2, h3⟩
 .rcases hb with ⟨rfl, _⟩ | ⟨k1, k2, _⟩
  .rfl
  .have := h b k1; omega
 .rcases hb with ⟨rfl, k⟩ | ⟨k1, k2, k3⟩
  .have := k a h1; omega
  .rcases aJg a b with h | h | h
   .have := h3 b h k1; omega
   .exact h
   .have := k3 a h h1; omega
theorem mL {ns : List Nat} {i : Nat} (h : i < ns.length) : ns.getD i 0 = ns[i] := by rw [aHX, aHQ h] <;> rfl
theorem aBY {α : Type} {ns : List α} {i : Nat} (h : i < ns.length) : ns.take (i + 1) = ns.take i ++ [ns[i]] := by
 rw [aIr, aHQ h] <;> rfl
theorem Ri {ns : List Nat} {i : Nat} (h : i < ns.length) : ns.take (i + 1) = ns.take i ++ [ns.getD i 0] := by rw [aBY h, mL h]
theorem arF : ∀ {l : List Nat}, (∀ n ∈ l, n = 0) -> l.sum = 0
 | [], _ => rfl
 | n :: l, h => by rw [aI6, h n (aIL ..), arF fun m hm => h m (aH0 _ hm)]
theorem CD : ∀ {l : List Nat}, (∀ n ∈ l, n = 0) -> l.countP iW = 0
 | [], _ => rfl
 | n :: l, h => by
   rw [aJa, h n (aIL ..), CD fun m hm => h m (aH0 _ hm)] <;> rfl
theorem azV (a b S : Nat) : a / S + b / S <= (a + b) / S := by
 rcases aIN S with h | h
 .subst h; simp
 .rw [aJC h, aIJ]
  have := aJG a S
  have := aJG b S
  omega
theorem avH (R S : Nat) : ∀ l : List Nat, (l.map (sH R S)).sum <= l.sum * R / S
 | [] => by simp
 | n :: l => by
   rw [aJh, aI6, aI6, aIJ]
   have := avH R S l
   have h2 := azV (n * R) (l.sum * R) S
   unfold sH at *
   omega
theorem aiQ {R S : Nat} {l : List Nat} (h : l.sum <= S) (hS : 0 < S) : (l.map (sH R S)).sum <= R := by
 have h1 := avH R S l
 have h2 : l.sum * R / S <= S * R / S := Nat.div_le_div_right (aIp _ h)
 rw [Nat.mul_div_cancel_left _ hS] at h2
 omega
theorem awN (R S : Nat) : ∀ l : List Nat, (l.map (qQ R S)).sum = l.countP iW + (l.map (sH R S)).sum
 | [] => by simp
 | n :: l => by
   rw [aJh, aI6, aJh, aI6, aJa, awN R S l]
   by_cases h : n = 0
   .subst h
    simp [qQ, sH, iW]
   .have : iW n = true := by unfold iW; simpa using (by omega : 0 < n)
    rw [this]
    simp only [qQ, sH, if_neg h, if_true]
    omega
theorem aA4 : ∀ {l : List Nat} {i : Nat} (y : Nat) (h : i < l.length), (l.set i (l[i] + y)).sum = l.sum + y
 | [], i, y, h => by simp at h
 | n :: l, 0, y, h => by simp only [aHL, aJj, aI6]; omega
 | n :: l, i + 1, y, h => by
   simp only [aHN, aJS, aI6]
   rw [aA4 y (by simpa using h)]; omega
theorem axB : ∀ l : List Nat, rR (l.map fun (n : Nat) => (n : Int)) = (l.sum : Nat)
 | [] => rfl
 | n :: l => by
   rw [aJh, wO, axB l, aI6]
   have : cW (n : Int) = n := by unfold cW; rw [if_neg (by omega)]
   rw [this]; simp
theorem aCM {P : List Nat} {gr i : Nat} (x : Nat) (hg : gr < P.length) (hi : i < P.length) : (P.set gr x).getD i 0 = if i = gr then x else P.getD i 0 := by
 rw [aHX, aHX, List.getElem?_set]
 by_cases h : i = gr
 .subst h; simp [hi]
 .rw [if_neg (fun e => h e.symm), if_neg h]
def Bp (log there S last gr left : Nat) (ns : List Nat) : List Nat :=
 ((ns.take (last + 1)).map (qQ (2 ^ log - there) S)).set gr (((ns.take (last + 1)).map (qQ (2 ^ log - there) S)).getD gr 0 + left)
theorem aGg {log there last gr left : Nat} {ns : List Nat} (h5 : 5 <= log) (h15 : log <= 15) (hlen : ns.length <= 256) (hth : there = ns.countP iW) (h2 : 2 <= there) (h3 : there <= 2 ^ log) (hl : Rx ns ns.length last) (hgr : gr <= last) (hgr2 : 0 < ns.getD gr 0)
 (hleft : left + ((ns.take (last + 1)).map (sH (2 ^ log - there) ns.sum)).sum = 2 ^ log - there) :
 Sk log ((Bp log there ns.sum last gr left ns).map fun (n : Nat) => (n : Int)) /\ (Bp log there ns.sum last gr left ns).length = last + 1 /\ last < ns.length /\ ∀ i, i < last + 1 -> (0 < (Bp log there ns.sum last gr left ns).getD i 0 ↔ 0 < ns.getD i 0) := by
 have hlast : last < ns.length /\ 0 < ns.getD last 0 /\ ∀ j, last < j -> j < ns.length -> ns.getD j 0 = 0 := by
  rcases hl with ⟨rfl, h⟩ | h
  .exfalso
   have : ns.countP iW = 0 := CD fun n hn => by
    obtain ⟨i, hi, rfl⟩ := aIf hn
    rw [<- mL hi]; exact h i hi
   omega
  .exact h
 obtain ⟨l1, l2, l3⟩ := hlast
 have hz : ∀ n ∈ ns.drop (last + 1), n = 0 := fun n hn => by
  obtain ⟨i, hi, rfl⟩ := aIf hn
  rw [aIb] at hi
  rw [List.getElem_drop, <- mL (by omega)]
  exact l3 _ (by omega) (by omega)
 have hcnt : (ns.take (last + 1)).countP iW = there := by
  have : ns.countP iW = (ns.take (last + 1) ++ ns.drop (last + 1)).countP iW := by rw [aJb]
  rw [List.countP_append, CD hz] at this
  omega
 have hpl : ((ns.take (last + 1)).map (qQ (2 ^ log - there) ns.sum)).length = last + 1 := by rw [aHU, aHZ]; omega
 have hpart : ∀ i, i < last + 1 -> ((ns.take (last + 1)).map (qQ (2 ^ log - there) ns.sum)).getD i 0 = qQ (2 ^ log - there) ns.sum (ns.getD i 0) := fun i hi => by
  rw [mL (by omega), aIm, List.getElem_take, mL (by omega)]
 have hsum := awN (2 ^ log - there) ns.sum (ns.take (last + 1))
 rw [hcnt] at hsum
 have hl' : (Bp log there ns.sum last gr left ns).length = last + 1 := by unfold Bp; rw [aJv, hpl]
 have hon : ∀ n, 0 < qQ (2 ^ log - there) ns.sum n ↔ 0 < n := fun n => by
  unfold qQ
  split
  .omega
  .generalize n * (2 ^ log - there) / ns.sum = q
   constructor <;> intro <;> omega
 have hget : ∀ i, i < last + 1 -> (Bp log there ns.sum last gr left ns).getD i 0 = if i = gr then qQ (2 ^ log - there) ns.sum (ns.getD gr 0) + left else qQ (2 ^ log - there) ns.sum (ns.getD i 0) := fun i hi => by
  unfold Bp
  rw [aCM _ (by omega) (by omega), hpart gr (by omega), hpart i hi]
 have hiff : ∀ i, i < last + 1 -> (0 < (Bp log there ns.sum last gr left ns).getD i 0 ↔ 0 < ns.getD i 0) := fun i hi => by
  rw [hget i hi]
  split
  .rename_i h
   subst h
   have := (hon (ns.getD i 0)).2 hgr2
   constructor <;> intro <;> omega
  .exact hon _
 refine ⟨⟨h5, h15, by rw [aHU, hl']; omega, by rw [aHU, hl']; omega, ?_, ?_, ?_⟩, hl', l1, hiff⟩
 .intro h
  rw [aJq, aHU, hl', aH9, aID] at h
  have h1 := (hiff last (by omega)).2 l2
  rw [mL (by omega)] at h1
  rw [aHQ (by omega)] at h
  have h2 := aH2 h
  simp only at h2
  omega
 .intro p hp
  obtain ⟨n, _, rfl⟩ := aIx.1 hp
  omega
 .rw [axB]
  have : (Bp log there ns.sum last gr left ns).sum = 2 ^ log := by
   unfold Bp
   rw [mL (show gr < ((ns.take (last + 1)).map (qQ (2 ^ log - there) ns.sum)).length by omega), aA4 _ (by omega), hsum]
   omega
  rw [this]; simp
def LZ (S : List Int) : List Nat := (List.range 256).map fun (s : Nat) => S.count (s : Int)
theorem qW (S : List Int) : (LZ S).length = 256 := by simp [LZ]
theorem UO {S : List Int} {s : Nat} (h : s < 256) : (LZ S).getD s 0 = S.count (s : Int) := by
 rw [mL (by rw [qW]; exact h)]; simp [LZ]
theorem atO : LZ [] = List.replicate 256 0 := by
 unfold LZ
 apply aIG
 .rw [aHU, aJp, aI4]
 .intro i h1 h2
  simp only [aIm, aIC, List.count_nil, aJT]
theorem axH {S : List Int} {c : Nat} (h : c < 256) : LZ (S ++ [(c : Int)]) = (LZ S).set c (S.count (c : Int) + 1) := by
 apply aIG
 .simp [LZ]
 .intro j h1 h2
  have hj : j < 256 := by simpa [LZ] using h1
  rw [aJF]
  simp only [LZ, aIm, aIC, aIR, aJr]
  by_cases hij : c = j
  .subst hij; simp
  .have : ((c : Int) == (j : Int)) = false := by simp; omega
   rw [if_neg hij, this]; simp
theorem Wm : ∀ {l : List Nat} {i x : Nat} (h : i < l.length) (hx : 0 < x), (l.set i x).countP iW = l.countP iW + if l.getD i 0 = 0 then 1 else 0
 | n :: l, 0, x, h, hx => by
   have e1 : iW x = true := by unfold iW; simp; omega
   rw [aHL, aJa, aJa, e1]
   simp only [List.getD_cons_zero]
   by_cases hn : n = 0
   .subst hn; simp [iW]
   .have e2 : iW n = true := by unfold iW; simp; omega
    rw [e2, if_neg hn]; simp
 | n :: l, i + 1, x, h, hx => by
   have := Wm (l := l) (i := i) (Nat.lt_of_succ_lt_succ h) hx
   rw [aHN, aJa, aJa, this, List.getD_cons_succ]
   omega
def gmx (S : List Int) : Int := S.foldl max 0
theorem aCP (S : List Int) (c : Int) : gmx (S ++ [c]) = max (gmx S) c := by unfold gmx; rw [List.foldl_append] <;> rfl
theorem aGb {S : List Int} {n : Int} : ∀ {a : Int}, a <= n -> (∀ x ∈ S, x <= n) -> a <= S.foldl max a /\ S.foldl max a <= n /\ ∀ x ∈ S, x <= S.foldl max a := by
 induction S with
 | nil => intro a h _; exact ⟨by simp, by simpa using h, by simp⟩
 | cons y S ih =>
   intro a h hx
   have hy := hx y (aIL ..)
   obtain ⟨h1, h2, h3⟩ := ih (a := max a y) (by omega) (fun x h => hx x (aH0 _ h))
   rw [List.foldl_cons]
   refine ⟨by omega, h2, fun x hx' => ?_⟩
   rcases aIz.1 hx' with rfl | hx'
   .omega
   .exact h3 x hx'
theorem afO {S : List Int} {x : Int} (h : x ∈ S) : 0 < S.count x := List.count_pos_iff.2 h
theorem aAZ {S : List Int} {n : Nat} (hn : n < 256) (h : ∀ x ∈ S, 0 <= x /\ x <= n) :
 ∃ g : Nat, gmx S = g /\ g <= n /\ ((LZ S).take (g + 1)).length = g + 1 /\ (∀ s, s <= g -> ((LZ S).take (g + 1)).getD s 0 = S.count (s : Int)) /\ (∀ x ∈ S, x <= g) /\
   ((LZ S).take (g + 1)).countP iW = (LZ S).countP iW := by
 obtain ⟨h1, h2, h3⟩ := aGb (S := S) (n := n) (a := 0) (by omega) (fun x hx => (h x hx).2)
 have h1 : 0 <= gmx S := h1
 have h2 : gmx S <= n := h2
 have h3 : ∀ x ∈ S, x <= gmx S := h3
 obtain ⟨g, hg⟩ : ∃ g : Nat, gmx S = g := ⟨(gmx S).toNat, by omega⟩
 rw [hg] at h2 h3
 refine ⟨g, hg, by omega, by rw [aHZ, qW]; omega, fun s hs => ?_, h3, ?_⟩
 .rw [aHX, aIl (by omega), <- aHX, UO (by omega)]
 .have : (LZ S).countP iW = ((LZ S).take (g + 1) ++ (LZ S).drop (g + 1)).countP iW := by rw [aJb]
  rw [this, List.countP_append]
  have hz : ((LZ S).drop (g + 1)).countP iW = 0 := CD fun x hx => ?_
  .omega
  obtain ⟨i, hi, rfl⟩ := aIf hx
  rw [aIb, qW] at hi
  rw [List.getElem_drop]
  simp only [LZ, aIm, aIC]
  exact List.count_eq_zero.2 fun hm => by have := h3 _ hm; omega
theorem aEF {S : List Int} (h : ∀ x ∈ S, 0 <= x /\ x <= 255) (hne : S ≠ []) : 0 < (LZ S).countP iW := by
 obtain ⟨x, hx⟩ := aJJ _ hne
 obtain ⟨h0, h1⟩ := h x hx
 rw [List.countP_pos_iff]
 obtain ⟨c, rfl⟩ : ∃ c : Nat, x = c := ⟨x.toNat, by omega⟩
 refine ⟨(LZ S).getD c 0, ?_, ?_⟩
 .rw [mL (by rw [qW]; omega)]; exact aH1 _
 .rw [UO (by omega)]; unfold iW; simpa using hx
theorem auR : ∀ {l : List Nat} {i j : Nat}, i < j -> 0 < l.getD i 0 -> 0 < l.getD j 0 -> 2 <= l.countP iW
 | [], i, j, _, h, _ => by simp at h
 | n :: l, 0, j + 1, _, h1, h2 => by
   rw [List.getD_cons_zero] at h1
   rw [List.getD_cons_succ] at h2
   have e1 : iW n = true := by unfold iW; simp; omega
   have hj : j < l.length := by
    rcases aH6 j l.length with h | h
    .exact h
    .rw [aHX, aH3 h] at h2; simp at h2
   have : 0 < l.countP iW := by
    rw [List.countP_pos_iff]
    refine ⟨l[j], aH1 _, ?_⟩
    rw [mL hj] at h2
    unfold iW; simpa using h2
   rw [aJa, if_pos e1]; omega
 | n :: l, i + 1, j + 1, h, h1, h2 => by
   rw [List.getD_cons_succ] at h1 h2
   have := auR (l := l) (by omega) h1 h2
   rw [aJa]; omega
theorem aFf {S : List Int} (h : ∀ x ∈ S, 0 <= x /\ x <= 255) (h1 : (LZ S).countP iW = 1) : ∀ x ∈ S, ∀ y ∈ S, x = y := by
 intro x hx y hy
 obtain ⟨a, rfl⟩ : ∃ c : Nat, x = c := ⟨x.toNat, by have := h x hx; omega⟩
 obtain ⟨b, rfl⟩ : ∃ c : Nat, y = c := ⟨y.toNat, by have := h y hy; omega⟩
 have ha := h _ hx
 have hb := h _ hy
 have c1 : 0 < (LZ S).getD a 0 := by rw [UO (by omega)]; exact afO hx
 have c2 : 0 < (LZ S).getD b 0 := by rw [UO (by omega)]; exact afO hy
 rcases aJg a b with h | h | h
 .have := auR h c1 c2; omega
 .rw [h]
 .have := auR h c2 c1; omega
theorem aA7 {S : List Int} {c : Nat} (hc : c < 256) (h : ∀ x ∈ S, x = (c : Int)) (hne : S ≠ []) : (LZ S).countP iW = 1 := by
 have e : LZ S = (List.replicate 256 0).set c S.length := by
  apply aIG
  .rw [qW, aJv, aI4]
  .intro j h1 h2
   have hj : j < 256 := by rw [qW] at h1; exact h1
   rw [aJF, aJT]
   simp only [LZ, aIm, aIC]
   by_cases hij : c = j
   .subst hij
    rw [if_pos rfl, List.count_eq_length]
    intro b hb; exact (h b hb).symm
   .rw [if_neg hij]
    exact List.count_eq_zero.2 fun hm => by have := h _ hm; omega
 have hl : 0 < S.length := aII.2 hne
 rw [e, Wm (by rw [aI4]; exact hc) hl]
 rw [CD (l := List.replicate 256 0) (fun n hn => aJs hn)]
 rw [aHX, aJt]
 simp [hc]
theorem azE (S : List Int) : ∀ n, ((List.range n).map fun (s : Nat) => S.count (s : Int)).sum <= S.length := by
 induction S with
 | nil => intro n; rw [arF]; · simp
          intro x hx; obtain ⟨i, _, rfl⟩ := aIx.1 hx; simp
 | cons y S ih =>
   intro n
   have key : ∀ m, ((List.range m).map fun (s : Nat) => (y :: S).count (s : Int)).sum = ((List.range m).map fun (s : Nat) => S.count (s : Int)).sum + (if 0 <= y /\ y < m then 1 else 0) := by
    intro m
    induction m with
    | zero => rw [if_neg (by omega)] <;> rfl
    | succ m im =>
      rw [aJH, aIo, aIo, aJK, aJK, im]
      simp only [aJh, List.map_nil, aI6, List.sum_nil, aJe]
      by_cases hy : y = (m : Int)
      .subst hy
       have a1 : ¬ (0 <= (m : Int) /\ (m : Int) < (m : Nat)) := by omega
       have a2 : 0 <= (m : Int) /\ (m : Int) < ((m + 1 : Nat) : Int) := by omega
       have a3 : ((m : Int) == (m : Int)) = true := beq_self_eq_true _
       rw [if_neg a1, if_pos a2, if_pos a3]; omega
      .have e1 : ¬ (y == (m : Int)) = true := by rw [beq_eq_false_iff_ne.2 hy]; decide
       rw [if_neg e1]
       by_cases h2 : 0 <= y /\ y < (m : Int)
       .have a2 : 0 <= y /\ y < ((m + 1 : Nat) : Int) := by omega
        rw [if_pos h2, if_pos a2]; omega
       .have a2 : ¬ (0 <= y /\ y < ((m + 1 : Nat) : Int)) := by omega
        rw [if_neg h2, if_neg a2]; omega
   rw [key n, aH5]
   have := ih n
   split <;> omega
theorem atS (S : List Int) (k : Nat) (hk : k <= 256) : ((LZ S).take k).sum <= S.length := by
 have e : (LZ S).take k = (List.range k).map fun (s : Nat) => S.count (s : Int) := by
  unfold LZ
  rw [<- aJu, List.take_range]
  congr 2; omega
 rw [e]; exact azE S k
theorem aGa (S : List Int) : ∀ n ∈ LZ S, n <= S.length := by
 intro n hn
 obtain ⟨s, _, rfl⟩ := aIx.1 hn
 exact aJ1
end Go.Pu
namespace Go.Proofs.YtaggdjhhmbnhoaaDoor
open Go Go.En Go.Pu
set_option maxRecDepth 4000
def OC (L : List Bool) (v st1 : Nat) : Option (Nat × Nat) := if v = 1 then noR L (L.length + 1) st1 else some (0, st1)
theorem aFb {L : List Bool} {sym f st left : Nat} {ps : List Int} (h0 : left ≠ 0) : U7 L sym (f + 1) st left ps = match VB L st left with
 | none => .error 10
 | some (v, st1) => match OC L v st1 with
   | none => .error 10
   | some (k, st2) => if sym < ps.length + 1 + k then .error 11 else U7 L sym f st2 (left - (cW ((v : Int) - 1)).toNat) (ps ++ ((v : Int) - 1) :: List.replicate k 0) := by
 rw [amD, if_neg h0]
 cases VB L st left with
 | none => rfl
 | some x =>
   obtain ⟨v, st1⟩ := x
   simp only
   unfold OC
   by_cases h : v = 1
   .subst h
    rw [if_pos rfl, if_pos rfl]
    have : cW (((1 : Nat) : Int) - 1) = 0 := rfl
    rw [this] <;> rfl
   .rw [if_neg h, if_neg h]
    rfl
theorem acQ {p6 : Nat} {w0 w : aJ2} {e : Int} (o6 : cJ w p6 [.int .i64 0, .slice none 0 0]) (hx : aS w0 w cM) (hp : w0.heap.size <= p6) {RR : aJ3 -> aJ2 -> Prop}
 (hR : ∀ w', aS w0 w' cM -> RR (.tuple #[.agg #[.int .i64 0, .slice none 0 0], .int .i64 0, .int .i64 e]) w') :
 aC pg (aJ 130 (.pointer (some ⟨p6, 0, none⟩)) (.agg #[.int .i64 0, .slice none 0 0])) w fun _u w => kI pg 130 (.pointer (some ⟨p6, 0, none⟩)) w fun r0 => RR (.tuple #[r0, .int .i64 0, .int .i64 e]) w := by
 refine iN o6 rfl (by simp [one]) (by simp) fun w6 o6 x6 s6 => ?_
 refine nO o6 (by simp [aV]) ?_
 simp only [aV, aHL, aHN, aHM, aHG, aHO]
 exact hR _ (hx.new x6 hp)
structure RdS (w : aJ2) (p6 pf pc log st : Nat) (bv : aJ3) (L : List Bool) (ps : List Int) (v : aJ3) : Prop where
 o6 : cJ w p6 [.int .i64 0, .slice none 0 0]
 of : cJ w pf [bv, .int .i64 st]
 oc : cJ w pc [.int .i64 log, v]
 os : rN w (pc + 1) 1 v ps.length (ps.map (Value.int .i64))
 bl : Bl w bv L
 at' : AtI bv 0 pf
 h6 : p6 < pf
 hf : pf < pc
theorem RdS.ext {w w' : aJ2} {p6 pf pc log st : Nat} {bv : aJ3} {L : List Bool} {ps : List Int} {v : aJ3} (h : RdS w p6 pf pc log st bv L ps v) (hx : aS w w' cM) : RdS w' p6 pf pc log st bv L ps v :=
 ⟨h.o6.ext hx (fun h => h), h.of.ext hx (fun h => h), h.oc.ext hx (fun h => h), h.os.ext hx (fun _ _ h => h), h.bl.ext hx (cB _), h.at', h.h6, h.hf⟩
theorem RdS.setF {w w' : aJ2} {p6 pf pc log st st' : Nat} {bv : aJ3} {L : List Bool} {ps : List Int} {v : aJ3} (h : RdS w p6 pf pc log st bv L ps v) (hx : aS w w' (fun y => y = pf)) (o : cJ w' pf [bv, .int .i64 st']) : RdS w' p6 pf pc log st' bv L ps v := by
 have h6 := h.h6
 have hf := h.hf
 exact ⟨h.o6.ext hx (by omega), o, h.oc.ext hx (by omega), h.os.ext hx (fun _ _ h => by omega), h.bl.ext hx (h.at' _ fun b _ hb => by omega), h.at', h.h6, h.hf⟩
theorem aDp {w : aJ2} {p6 pf pc log st : Nat} {bv : aJ3} {L : List Bool} {ps : List Int} {v : aJ3} (h : RdS w p6 pf pc log st bv L ps v) (p : Int) (hl : ps.length <= 100000000) {K : aJ2 -> Prop}
 (hK : ∀ w' v', RdS w' p6 pf pc log st bv L (ps ++ [p]) v' -> aS w w' (fun y => pc <= y) -> K w') :
 aC pg (bX 77 1 [(0, .int .i64 p)]) w fun t64 w => aC pg (jM .append #[77, 77] 77 [v, t64]) w fun t65 w => aC pg (aL 130 (.pointer (some ⟨pc, 0, none⟩)) 1) w fun t66 w => aC pg (aJ 77 t66 t65) w fun _ w => K w := by
 have lpc := h.oc.lt
 have h6 := h.h6
 have hf := h.hf
 refine wQ (cells := #[.int .i64 p]) (by decide) (by decide) (by kernel_rfl) fun w4 o4 x4 s4 => ?_
 have z4 := x4.size
 refine EV (m := 1) (news := [.int .i64 p]) (h.os.ext x4 (fun _ _ h => h)) (o4.cl (off := 0) (l := [.int .i64 p]) (n := 1) rfl (fun i hi => by rw [aHI])) (by simp [one]) (by omega) (by omega) fun v5 w5 o5 x5 => ?_
 have z5 := x5.size
 obtain ⟨av5, cv5, rfl⟩ := o5.len
 have oc5 := (h.oc.ext x4 (fun h => h)).ext x5 (by omega)
 simp (disch := omega) only [aC, aY, aHI, aA]
 refine U5 oc5 rfl (by simp) fun w6 oc6 x6 s6 => ?_
 simp only [aHL, aHN] at oc6
 have ov6 := o5.ext x6 (fun b hb h => by omega)
 have x26 : aS w w6 (fun y => pc <= y) := ((x4.mono fun _ _ h => h.elim).seq (x5.mono fun y _ h => by omega)).seq (x6.mono fun y _ h => by omega)
 rw [show (ps.map (Value.int .i64) ++ [Value.int .i64 p]) = (ps ++ [p]).map (Value.int .i64) from by simp, show ps.length + 1 = (ps ++ [p]).length from by simp] at ov6
 rw [show ps.length + 1 = (ps ++ [p]).length from by simp] at oc6
 exact hK w6 _ ⟨h.o6.ext x26 (by omega), h.of.ext x26 (by omega), oc6, ov6, h.bl.ext x26 (h.at' _ fun b _ hb => by omega), h.at', h6, hf⟩ x26
theorem aBV {w : aJ2} {p6 pf pc log st sym left : Nat} {bv : aJ3} {L : List Bool} {ps : List Int} {v : aJ3} (h : RdS w p6 pf pc log st bv L ps v) {x : Nat} (hx3 : x <= 3) (hl : ps.length <= 90000000) {kn : aJ3 -> aJ3 -> aJ3 -> aJ3 -> aJ3 -> aJ3 -> aJ2 -> Prop}
 (hK : ∀ w' v', RdS w' p6 pf pc log st bv L (ps ++ List.replicate x 0) v' -> aS w w' (fun y => pc <= y) -> kn (.int .i64 sym) (.pointer (some ⟨p6, 0, none⟩)) (.pointer (some ⟨pf, 0, none⟩)) (.pointer (some ⟨pc, 0, none⟩)) (.int .i64 left) (.bool (((x : Nat) : Int) == 3)) w') :
 FV kn (.int .i64 sym) (.pointer (some ⟨p6, 0, none⟩)) (.pointer (some ⟨pf, 0, none⟩)) (.int .u64 x) (.pointer (some ⟨pc, 0, none⟩)) (.int .i64 left) w := by
 unfold FV NW MZ MX NX
 refine cG.rule (fun m (t : aJ3) w' => ∃ (i : Nat) (v' : aJ3), m = x - i /\ t = .int .i64 i /\ i <= x /\ RdS w' p6 pf pc log st bv L (ps ++ List.replicate i 0) v' /\ aS w w' (fun y => pc <= y)) x
  ⟨0, v, rfl, rfl, by omega, by simpa using h, aS.refl _ _⟩ ?_
 rintro m t w1 ⟨i, v', rfl, rfl, hi, h1, x1⟩
 unfold F3
 by_cases hlt : i < x
 .have d1 : decide ((i : Int) < (x : Int)) = true := by simp; omega
  have c1 := h1.oc.cell (off := 1)
  simp only [aHJ, aHK] at c1
  simp (disch := omega) only [aC, cZ, aT, aY, aHI, bM, aA, cL, aX, d1, c1, aI, aF]
  refine aDp h1 0 (by simp; omega) fun w2 v2 h2 x2 => ?_
  refine ⟨x - (i + 1), by omega, i + 1, v2, rfl, rfl, by omega, ?_, x1.seq x2⟩
  rw [aHV, <- List.replicate_succ'] at h2
  exact h2
 .have d1 : decide ((i : Int) < (x : Int)) = false := by simp; omega
  obtain rfl : i = x := by omega
  unfold FR
  simp (disch := omega) only [aC, cZ, aT, aY, aHI, bM, aA, cL, cR, aX, d1, aE]
  exact hK _ _ h1 x1
end Go.Proofs.YtaggdjhhmbnhoaaDoor
