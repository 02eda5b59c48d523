/- Parts of the proof of SequencesMany: merged and given short names by a program of ours. -/
import Derived.Laws.Strings
import Derived.Test.YtaggdjhhmbnhoaaDoorSmC
set_option linter.unusedVariables false
set_option linter.unusedSimpArgs false
open Array renaming length_toList → aH5
open Bool renaming false_eq_true → aGW, not_true → aHB, not_false → aId
open Int renaming toNat_natCast → aGO, tmod_eq_emod_of_nonneg → aHF, tdiv_eq_ediv_of_nonneg → aHj, fdiv_eq_ediv_of_nonneg → aIs
open List renaming length_map → aG1, append_assoc → aG2, getD_eq_getElem?_getD → aG3, length_take → aG4, getElem?_append_left → aG6, getElem_mem → aG7, mem_cons_of_mem → aG9, take_succ_cons → aGN, getElem?_cons_zero → aGQ, getElem?_cons_succ → aGR, set_cons_zero → aGS, drop_zero → aGT, set_cons_succ → aGU, take_zero → aGV, getElem?_eq_getElem → aGX, length_append → aGY, mem_cons_self → aH0, mem_singleton → aH2, map_congr_left → aH4, mem_append → aH7, length_singleton → aH8, length_replicate → aH9, take_add_one → aHA, append_nil → aHC, mem_range → aHD, mem_cons → aHE, mem_map → aHH, getElem_range → aHJ, ext_getElem → aHN, replicate_succ → aHO, length_pos_iff → aHP, cons_append → aHV, drop_of_length_le → aHW, count_append → aHX, getElem?_toArray → aHY, getElem?_eq_none → aHa, length_cons → aHc, getElem?_map → aHg, length_drop → aHh, take_of_length_le → aHk, getElem_of_mem → aHl, drop_eq_getElem_cons → aHn, length_eq_zero_iff → aHq, getElem?_take_of_lt → aHr, getElem_map → aHs, nil_append → aHv, map_append → aHw, drop_succ_cons → aHx, getElem?_append_right → aHy, getElem_replicate → aI0, takeWhile_sublist → aI2, map_drop → aI3, mem_of_mem_drop → aI7, count_le_length → aI8, length_set → aIA, length_range → aIF, getElem_set_self → aIH, getElem_set → aIL, map_take → aIM, range_succ → aIO, exists_mem_of_ne_nil → aIQ, sum_append → aIR, map_replicate → aIV, drop_left → aIX, getElem_cons_succ → aIZ, getElem?_drop → aIa, sum_cons → aIb, mem_of_getElem? → aIc, toList_toArray → aIe, countP_cons → aIg, take_append_drop → aIh, count_cons → aIk, set_append_left → aIl, map_cons → aIn, getElem_cons_zero → aIo, map_set → aIq, getLast?_eq_getElem? → aIu, count_singleton → aIv, take_length → aIw, eq_of_mem_replicate → aIx, getElem?_replicate → aIy
open Nat renaming pow_le_pow_right → aG0, zero_add → aGP, le_refl → aGZ, testBit_eq_decide_div_mod_eq → aH3, min_eq_left → aHG, add_zero → aHI, add_sub_cancel → aHK, add_mul → aHQ, le_trans → aHS, eq_zero_or_pos → aHT, mul_comm → aHU, zero_le → aHZ, lt_or_ge → aHd, pow_succ → aHf, mod_eq_of_lt → aHm, two_pow_pos → aHp, mul_le_mul_right → aHt, le_div_iff_mul_le → aII, div_mul_le_self → aIN, div_le_self → aIP, succ_mul → aIT, sub_zero → aIU, add_assoc → aIf, div_lt_iff_lt_mul → aIi, lt_trichotomy → aIm, mod_lt → aIz
open Option renaming isNone_some → aHe, map_some → aHz
open Option.some renaming inj → aG8
open Prod.mk renaming inj → aI1
open UInt8 renaming toNat_lt → aHi
namespace Go.Proofs.YtaggdjhhmbnhoaaDoor
open Go Go.En Go.Pu
set_option maxRecDepth 4000
theorem aDR (x : Nat) (hx : x < 4294967296) (w : aJa) : aR pg rT #[.int .u32 x] w (fun r w' => r = .int .i64 (bl x : Nat) /\ w' = w) := by
 refine SL ?_
 unfold Ro BN BD
 have last : ∀ (y n : Nat), y < 256 -> n <= 64 -> n + bl y = bl x -> qP (fun r w' => r = .int .i64 (bl x : Nat) /\ w' = w) (.int .u32 y) (.int .i64 n) w := by
  intro y n hy hn e
  have hg := anZ y hy
  have hs := O2
  have hb : bl y <= 8 := qT (n := 8) (by omega)
  unfold qP
  change aC pg _ w fun t21 w => aC pg (G4 9 (.string arR) t21) w _
  simp (disch := omega) only [aC, HG, Qf, aA, tK, aGO, hg, nO, aT, bM, and_true]
  rw [<- e] <;> rfl
 have step8 : ∀ (y n : Nat), y < 65536 -> n <= 32 -> n + bl y = bl x -> uB (fun r w' => r = .int .i64 (bl x : Nat) /\ w' = w) (.int .u32 y) (.int .i64 n) w := by
  intro y n hy hn e
  unfold uB By
  by_cases h : 256 <= y
  .have d : decide ((256 : Int) <= (y : Int)) = true := by simp; omega
   have sh : ((y : Int)).fdiv (2 ^ (min 8 IntKind.u32.bits)) = ((y / 2 ^ 8 : Nat) : Int) := by
    rw [show min 8 IntKind.u32.bits = 8 from rfl, <- TO]; simp
   have hq : y / 2 ^ 8 < 256 := by omega
   have := S3 (x := y) (j := 8) (by omega)
   have e2 : (n : Int) + 8 = ((n + 8 : Nat) : Int) := by omega
   simp (disch := omega) only [aC, pD, d, wV, bM, e2, aT, aA, aF]
   rw [show (8 : Int).toNat = 8 from rfl, sh]
   exact last _ _ hq (by omega) (by rw [<- e, this]; omega)
  .have d : decide ((256 : Int) <= (y : Int)) = false := by simp; omega
   simp (disch := omega) only [aC, pD, d, wV, bM, aT, aA, aE]
   exact last _ _ (by omega) (by omega) e
 by_cases h : 65536 <= x
 .have d : decide ((65536 : Int) <= (x : Int)) = true := by simp; omega
  have sh : ((x : Int)).fdiv (2 ^ (min 16 IntKind.u32.bits)) = ((x / 2 ^ 16 : Nat) : Int) := by
   rw [show min 16 IntKind.u32.bits = 16 from rfl, <- TO]; simp
  have hq : x / 2 ^ 16 < 65536 := by omega
  have := S3 (x := x) (j := 16) (by omega)
  simp (disch := omega) only [aC, pD, d, wV, aA, aF]
  rw [show (16 : Int).toNat = 16 from rfl, sh]
  exact step8 _ 16 hq (by omega) (by rw [this]; omega)
 .have d : decide ((65536 : Int) <= (x : Int)) = false := by simp; omega
  simp (disch := omega) only [aC, pD, d, wV, aA, aE]
  exact step8 _ 0 (by omega) (by omega) (by omega)
theorem aqE {k : Nat} (h : k = 0 ∨ k = 2) : avO (k : Int) = zW k /\ aE6 (k : Int) = Ac k /\ (aoS (k : Int)).length = kZ k - zW k := by
 rcases h with rfl | rfl <;> exact ⟨rfl, rfl, rfl⟩
theorem atX {k : Nat} (h : k = 0 ∨ k = 2) {i : Nat} (hi : zW k + i < kZ k) : (aoS (k : Int))[i]? = some (((kL k).getD (zW k + i) 0 : Nat) : Int) := by
 have h0 : ∀ i, i < 53 -> zW 0 + i < kZ 0 -> (aoS ((0 : Nat) : Int))[i]? = some (((kL 0).getD (zW 0 + i) 0 : Nat) : Int) := by decide +kernel
 have h2 : ∀ i, i < 53 -> zW 2 + i < kZ 2 -> (aoS ((2 : Nat) : Int))[i]? = some (((kL 2).getD (zW 2 + i) 0 : Nat) : Int) := by decide +kernel
 have := (VO h).2
 rcases h with rfl | rfl
 .exact h0 i (by omega) hi
 .exact h2 i (by omega) hi
theorem avX {k : Nat} (h : k < 3) : mM (k : Int) = ((kZ k : Nat) : Int) - 1 := by
 rcases (show k = 0 ∨ k = 1 ∨ k = 2 by omega) with rfl | rfl | rfl <;> rfl
theorem akI {n : Nat} (hn : n <= 31) : IntKind.u32.wrap (1 * 2 ^ (min n IntKind.u32.bits)) = ((2 ^ n : Nat) : Int) := by
 have hb : min n IntKind.u32.bits = n := aHG (by have : IntKind.u32.bits = 32 := rfl
                                                 omega)
 have hp : 2 ^ n <= 2 ^ 31 := aG0 (by omega) hn
 rw [hb, Int.one_mul]
 have e : (2 : Int) ^ n = ((2 ^ n : Nat) : Int) := by simp
 rw [e]
 generalize 2 ^ n = y at *
 rw [show IntKind.u32.wrap (y : Int) = (y : Int) % 4294967296 from rfl]
 omega
theorem aDm {k c : Nat} {w : aJa} (hg : uA w) (hk : k < 3) (hc : c < kZ k) :
 aR pg CU #[.int .i64 k, .int .i64 c] w (fun r w' => r = .tuple #[.int .u32 ((rF k).getD c 0 : Nat), .int .i64 ((kL k).getD c 0 : Nat), .int .i64 0] /\ aS w w' cM) := by
 refine ajE ?_
 have hl53 : kZ k <= 53 := by rcases (show k = 0 ∨ k = 1 ∨ k = 2 by omega) with rfl | rfl | rfl <;> decide
 unfold akW MT Ns
 simp (disch := omega) only [aC, aX, cW, mE, aGO, aA, wE, Yr, bO]
 refine (arT hg).mono ?_
 rintro r w1 ⟨rfl, x1⟩
 rw [avX hk]
 have d1 : decide (((kZ k : Nat) : Int) - 1 < 0) = false := by simp; omega
 have d2 : decide ((c : Int) < 0) = false := by simp
 have d3 : decide (((kZ k : Nat) : Int) - 1 < (c : Int)) = false := by simp; omega
 by_cases h1 : k = 1
 .subst h1
  have n1 : (((1 : Nat) : Int) == 1) = true := rfl
  have hc32 : c < 32 := hc
  have hs := akI (n := c) (by omega)
  have ho := aEa hc32
  rw [ho.1, ho.2]
  simp (disch := omega) only [aX, d1, d2, dG, aGW, if_false, n1, hs, true_and, aF, bP, dP, d3, aA, aE]
  first | exact x1 | exact ⟨rfl, x1⟩
 have n1 : ((k : Int) == 1) = false := beq_eq_false_iff_ne.2 (by omega)
 have h02 : k = 0 ∨ k = 2 := by omega
 simp (disch := omega) only [aX, d1, d2, dG, aGW, if_false, n1, aE, bP, dP, d3, aA]
 refine (aCn (hg.ext x1)).mono ?_
 rintro r w2 ⟨mv, rfl, hs, x2⟩
 obtain ⟨rp, ra, rl⟩ := aqE h02
 rw [rp, ra]
 have hpl := VO h02
 have hlow : Ac k <= 3 := by unfold Ac; split <;> omega
 have x12 := x1.seq x2
 by_cases hcp : c < zW k
 .have d4 : decide ((c : Int) < ((zW k : Nat) : Int)) = true := by simp; omega
  have hp := asX h02 hcp
  have e1 : IntKind.u32.wrap (c : Int) = c := by rw [show IntKind.u32.wrap (c : Int) = (c : Int) % 4294967296 from rfl]; omega
  have e2 : IntKind.u32.wrap (((Ac k : Nat) : Int) + (c : Int)) = ((Ac k + c : Nat) : Int) := by rw [show IntKind.u32.wrap (((Ac k : Nat) : Int) + (c : Int)) = (((Ac k : Nat) : Int) + (c : Int)) % 4294967296 from rfl]; omega
  rw [hp.1, hp.2]
  simp (disch := omega) only [SE, SF, SD, aA, bM, e2, aX, d4, wE, Yr, aF]
  first | exact x12 | exact ⟨rfl, x12⟩
 .have d4 : decide ((c : Int) < ((zW k : Nat) : Int)) = false := by simp; omega
  obtain ⟨j, hj⟩ : ∃ j, c = zW k + j := ⟨c - zW k, by omega⟩
  have e1 : IntKind.u32.wrap ((zW k : Nat) : Int) = ((zW k : Nat) : Int) := by rw [show IntKind.u32.wrap ((zW k : Nat) : Int) = ((zW k : Nat) : Int) % 4294967296 from rfl]; omega
  have e2 : IntKind.u32.wrap (((Ac k : Nat) : Int) + ((zW k : Nat) : Int)) = ((eS k 0 : Nat) : Int) := by
   rw [eS, aFa h02, show IntKind.u32.wrap (((Ac k : Nat) : Int) + ((zW k : Nat) : Int)) = (((Ac k : Nat) : Int) + ((zW k : Nat) : Int)) % 4294967296 from rfl]; omega
  have e3 : (c : Int) - ((zW k : Nat) : Int) = (j : Int) := by omega
  simp (disch := omega) only [SE, SF, SD, aA, bM, Yr, aX, d4, wE, e1, e2, aE]
  unfold Oa Nz Nt
  obtain ⟨av, cv, rfl, hcv⟩ := hs.lenI
  have hs0 := hs
  obtain ⟨b, off, c', hv, hcc, hcell⟩ := hs.openI (by omega)
  cases hv
  have hget : ∀ i, zW k + i < kZ k -> w2.cell? ⟨b, off + i, none⟩ = some (.int .i64 ((kL k).getD (zW k + i) 0 : Nat)) := by
   intro i hi
   have h1 := hcell i (by omega)
   have h2 := atX h02 hi
   rw [aGX (by omega)] at h2
   rw [h1, aG8 h2]
  have hsh : iO (some ⟨b, off, none⟩) cv 0 1 = some ⟨b, off, none⟩ := by unfold iO; split <;> simp [Addr.add]
  simp (disch := omega) only [aC, dZ, e3, aT, rl, aA, PY, hsh, aGO, aIU, eA]
  unfold MI Mv
  refine cG.rule (fun m (t : aJb × aJb) w' => ∃ i : Nat, m = j - i /\ i <= j /\ t = (.int .u32 (eS k i : Nat), .int .i64 i) /\ w' = w2) j ⟨0, rfl, by omega, rfl, rfl⟩ ?_
  rintro m t w3 ⟨i, rfl, hi, rfl, hw⟩
  rw [hw]; clear hw w3
  unfold FK
  by_cases hlt : i < j
  .have d5 : decide ((i : Int) < (j : Int)) = true := by simp; omega
   have g1 := hget i (by omega)
   have ha := aEB h02 (c := zW k + i) (by omega)
   have hsl := akI (n := (kL k).getD (zW k + i) 0) (by omega)
   have hle := aFU h02 (i := i + 1) (by omega)
   have hes : eS k (i + 1) = eS k i + 2 ^ ((kL k).getD (zW k + i) 0) := rfl
   have e5 : IntKind.u32.wrap (((eS k i : Nat) : Int) + ((2 ^ ((kL k).getD (zW k + i) 0) : Nat) : Int)) = ((eS k (i + 1) : Nat) : Int) := by
    rw [show IntKind.u32.wrap (((eS k i : Nat) : Int) + ((2 ^ ((kL k).getD (zW k + i) 0) : Nat) : Int)) = (((eS k i : Nat) : Int) + ((2 ^ ((kL k).getD (zW k + i) 0) : Nat) : Int)) % 4294967296 from rfl]
    omega
   generalize (kL k).getD (zW k + i) 0 = nn at *
   simp (disch := omega) only [aC, aX, d5, dJ, aGO, bM, aT, aA, bZ, g1, aI, mE, hsl, e5, and_true, aF]
   exact ⟨j - (i + 1), by omega, i + 1, rfl, by omega, rfl⟩
  .have d5 : decide ((i : Int) < (j : Int)) = false := by simp; omega
   obtain rfl : i = j := by omega
   have g1 := hget i (by omega)
   have g2 : (dr w2).cell? ⟨b, off + i, none⟩ = some (.int .i64 ((kL k).getD (zW k + i) 0 : Nat)) := g1
   simp (disch := omega) only [aC, aX, d5, bM, aT, aA, aE]
   unfold Ff
   have hat := apK hk i (by omega)
   rw [<- hj] at hat g2
   simp (disch := omega) only [aC, dZ, e3, aT, true_and, aA, dJ, aGO, bZ, g2, aI]
   exact ⟨by rw [hat], x12.seq (aS.dr _ _)⟩
def OfR (k v : Nat) (r : aJb) : Prop :=
 (∃ c, tW k v c /\ r = .tuple #[.int .i64 c, .int .u32 (v - (rF k).getD c 0 : Nat), .int .i64 0]) ∨ ((∀ c, ¬ tW k v c) /\ r = .tuple #[.int .i64 0, .int .u32 0, .int .i64 17])
theorem w32 {x : Int} (h0 : 0 <= x) (h1 : x < 4294967296) : IntKind.u32.wrap x = x := by
 rw [show IntKind.u32.wrap x = x % 4294967296 from rfl]; omega
theorem aGp {k v : Nat} {w : aJa} (hg : uA w) (hk : k < 3) (hv : v < 4294967296) :
 aR pg QM #[.int .i64 k, .int .u32 v] w (fun r w' => OfR k v r /\ aS w w' cM) := by
 refine aoU ?_
 obtain ⟨RR, hRR⟩ : ∃ RR : aJb -> aJa -> Prop, RR = fun r w' => OfR k v r /\ aS w w' cM := ⟨_, rfl⟩
 rw [<- hRR]
 have hl53 : kZ k <= 53 := by rcases (show k = 0 ∨ k = 1 ∨ k = 2 by omega) with rfl | rfl | rfl <;> decide
 have hl1 : 1 <= kZ k := by rcases (show k = 0 ∨ k = 1 ∨ k = 2 by omega) with rfl | rfl | rfl <;> decide
 unfold atW S5 S6
 refine (aCn hg).mono ?_
 rintro r w1 ⟨mv, rfl, hs, x1⟩
 simp (disch := omega) only [aC, SE, SF, SD, cW, true_and, aA, bO, aX, dZ, MH, wE]
 refine (arT (hg.ext x1)).mono ?_
 rintro r w2 ⟨rfl, x2⟩
 have x12 := x1.seq x2
 have hs := hs.ext x2 (cD _)
 rw [avX hk]
 have d1 : decide (((kZ k : Nat) : Int) - 1 < 0) = false := by simp; omega
 by_cases h1 : k = 1
 .subst h1
  have n1 : (((1 : Nat) : Int) == 1) = true := rfl
  by_cases hv0 : v = 0
  .subst hv0
   have n2 : (((0 : Nat) : Int) == 0) = true := rfl
   simp (disch := omega) only [aX, d1, n1, tR, if_true, aF, bP, cW, n2, aA, aE]
   rw [hRR]
   exact ⟨.inr ⟨avE, rfl⟩, x12⟩
  .have n2 : ((v : Int) == 0) = false := beq_eq_false_iff_ne.2 (by omega)
   simp (disch := omega) only [aX, d1, n1, tR, if_true, aF, bP, cW, n2, aA, aE]
   refine (aDR v hv w2).mono ?_
   rintro r w3 ⟨rfl, hw⟩
   rw [hw]; clear hw w3
   have hc := avF (by omega) hv
   have hb1 := GS (k := v) hv0
   have hb4 : bl v <= 32 := qT (n := 32) hv
   have hbl := Ua (k := v) hv0
   obtain ⟨j, hj⟩ : ∃ j, j = bl v - 1 := ⟨_, rfl⟩
   rw [<- hj] at hc hbl
   have e1 : ((bl v : Nat) : Int) - 1 = (j : Int) := by omega
   have hsl := akI (n := j) (by omega)
   have ho := aEa (c := j) (by omega)
   have e2 : IntKind.u32.wrap ((v : Int) - ((2 ^ j : Nat) : Int)) = ((v - (rF 1).getD j 0 : Nat) : Int) := by
    rw [ho.1]
    generalize 2 ^ j = y at *
    rw [w32 (by omega) (by omega)]; omega
   simp (disch := omega) only [dZ, e1, aT, aA, mE, aGO, hsl, e2, true_and]
   rw [hRR]
   exact ⟨.inl ⟨j, hc, rfl⟩, x12.seq (aS.dr _ _)⟩
 have n1 : ((k : Int) == 1) = false := beq_eq_false_iff_ne.2 (by omega)
 have h02 : k = 0 ∨ k = 2 := by omega
 obtain ⟨rp, ra, rl⟩ := aqE h02
 rw [rp, ra]
 have hpl := VO h02
 have hlow : Ac k <= 3 := by unfold Ac; split <;> omega
 have htop := aFa h02
 by_cases hvl : v < Ac k
 .have d2 : decide ((v : Int) < ((Ac k : Nat) : Int)) = true := by simp; omega
  simp (disch := omega) only [aX, d1, n1, ED, aGW, if_false, d2, Yr, aF, aE, dV, aA]
  rw [hRR]
  exact ⟨.inr ⟨axU h02 hvl, rfl⟩, x12⟩
 have d2 : decide ((v : Int) < ((Ac k : Nat) : Int)) = false := by simp; omega
 have e1 : IntKind.u32.wrap ((v : Int) - ((Ac k : Nat) : Int)) = ((v - Ac k : Nat) : Int) := by rw [w32 (by omega) (by omega)]; omega
 have e2 : IntKind.u32.wrap ((zW k : Nat) : Int) = ((zW k : Nat) : Int) := w32 (by omega) (by omega)
 by_cases hvp : v - Ac k < zW k
 .have d3 : decide (((v - Ac k : Nat) : Int) < ((zW k : Nat) : Int)) = true := by simp; omega
  have hc := alP h02 (by omega) hvp
  have hp := asX h02 hvp
  simp (disch := omega) only [aX, d1, n1, ED, aGW, if_false, d2, e1, e2, d3, aT, aF, aE, dV, aA]
  rw [hRR]
  refine ⟨.inl ⟨_, hc, ?_⟩, x12⟩
  rw [hp.1, show v - (Ac k + (v - Ac k)) = 0 by omega]
  rfl
 have d3 : decide (((v - Ac k : Nat) : Int) < ((zW k : Nat) : Int)) = false := by simp; omega
 have e3 : IntKind.u32.wrap (((v - Ac k : Nat) : Int) - ((zW k : Nat) : Int)) = ((v - eS k 0 : Nat) : Int) := by
  rw [eS, htop, w32 (by omega) (by omega)]; omega
 have hv0 : eS k 0 <= v := by rw [eS, htop]; omega
 simp (disch := omega) only [aX, d1, n1, ED, aGW, if_false, d2, e1, e2, d3, aT, e3, aE, dV, aA]
 unfold T4 Tk Tl
 obtain ⟨av, cv, rfl, hcv⟩ := hs.lenI
 obtain ⟨b, off, c', hv', hcc, hcell⟩ := hs.openI (by omega)
 cases hv'
 have hget : ∀ i, zW k + i < kZ k -> w2.cell? ⟨b, off + i, none⟩ = some (.int .i64 ((kL k).getD (zW k + i) 0 : Nat)) := by
  intro i hi
  have h1 := hcell i (by omega)
  have h2 := atX h02 hi
  rw [aGX (by omega)] at h2
  rw [h1, aG8 h2]
 simp (disch := omega) only [aC, rl, eA, aA]
 unfold TY To
 obtain ⟨n, hn⟩ : ∃ n, n = kZ k - zW k := ⟨_, rfl⟩
 rw [<- hn]
 refine cG.rule (fun m (t : aJb × aJb) w' => ∃ i : Nat, m = n - i /\ i <= n /\ t = (.int .u32 (v - eS k i : Nat), .int .i64 i) /\ eS k i <= v /\ w' = w2) n ⟨0, rfl, by omega, rfl, hv0, rfl⟩ ?_
 rintro m t w3 ⟨i, rfl, hi, rfl, hle, hw⟩
 rw [hw]; clear hw w3
 unfold LF
 by_cases hlt : i < n
 .have d5 : decide ((i : Int) < (n : Int)) = true := by simp; omega
  have g1 := hget i (by omega)
  have ha := aEB h02 (c := zW k + i) (by omega)
  have hsl := akI (n := (kL k).getD (zW k + i) 0) (by omega)
  have hes : eS k (i + 1) = eS k i + 2 ^ ((kL k).getD (zW k + i) 0) := rfl
  have hmore := apN (v := v) h02 (i := i) (by omega) hle
  have hat := apK hk i (by omega)
  generalize (kL k).getD (zW k + i) 0 = nn at *
  generalize 2 ^ nn = pp at *
  by_cases hin : v < eS k i + pp
  .have d6 : decide (((v - eS k i : Nat) : Int) < (pp : Int)) = true := by simp; omega
   have e6 : ((zW k : Nat) : Int) + (i : Int) = ((zW k + i : Nat) : Int) := by omega
   simp (disch := omega) only [aC, aX, d5, dJ, aGO, bM, e6, aT, aA, bZ, g1, aI, mE, hsl, dZ, d6, and_true, aF]
   rw [hRR]
   exact ⟨.inl ⟨_, hmore hin, by rw [<- hat]⟩, x12⟩
  .have d6 : decide (((v - eS k i : Nat) : Int) < (pp : Int)) = false := by simp; omega
   have e6 : IntKind.u32.wrap (((v - eS k i : Nat) : Int) - (pp : Int)) = ((v - eS k (i + 1) : Nat) : Int) := by
    rw [w32 (by omega) (by omega)]; omega
   simp (disch := omega) only [aC, aX, d5, dJ, aGO, bM, aT, aA, bZ, g1, aI, mE, hsl, dZ, e6, d6, and_true, aE, aF]
   exact ⟨n - (i + 1), by omega, i + 1, rfl, by omega, rfl, by omega⟩
 .have d5 : decide ((i : Int) < (n : Int)) = false := by simp; omega
  obtain rfl : i = n := by omega
  simp (disch := omega) only [aC, aX, d5, bM, aT, aA, aE]
  unfold Mc
  rw [hRR]
  exact ⟨.inr ⟨awN h02 (hn ▸ hle), rfl⟩, x12⟩
def Yt (a : Int) : Nat := if a = 1 then 5 else if a = 0 ∨ a = 2 then 6 else 0
def gvP (a : Int) : List Int := if a = 0 then zTL else if a = 1 then zTO else if a = 2 then zTM else []
theorem akS {a : Int} (h : a = 0 ∨ a = 1 ∨ a = 2) : Sw (Yt a) (gvP a) := by
 rcases h with rfl | rfl | rfl
 .exact ⟨by decide, by decide, by decide, by decide, by decide, by decide, by decide +kernel⟩
 .exact ⟨by decide, by decide, by decide, by decide, by decide, by decide, by decide +kernel⟩
 .exact ⟨by decide, by decide, by decide, by decide, by decide, by decide, by decide +kernel⟩
theorem aAs {a : Int} {w : aJa} (hg : uA w) :
 aR pg yP #[.int .i64 a] w (fun r w' => ∃ v, r = .agg #[.int .i64 (Yt a : Nat), v] /\ Sl w' v ((gvP a).map (Value.int .i64)) /\ aS w w' cM) := by
 refine Zj ?_
 unfold ZW Gw
 refine iS fun w1 o1 x1 s1 => ?_
 have hg1 := hg.ext x1
 have z1 := o1.lt
 by_cases h0 : a = 0
 .subst h0
  have n1 : ((0 : Int) == 0) = true := rfl
  have l1 := asK (b := 0) (off := 0) (l := zTL.map (Value.int .i64)) rfl hg1.tl.ld
  simp (disch := omega) only [aC, cW, n1, dY, aA, l1, aF]
  refine auL fun w2 o2 x2 s2 => ?_
  refine asD o2 rfl (Uc _) (by simp) fun w3 o3 x3 s3 => ?_
  have o3 : cJ w3 w1.heap.size (zTL.map (Value.int .i64)) := by
   rw [aIe, I6 zTL 36 rfl] at o3
   .exact o3
   .rfl
  have hsh : uN ⟨w1.heap.size, 0, none⟩ 36 0 1 = ⟨w1.heap.size, 0, none⟩ := El (by decide)
  have x13 : aS w1 w3 cM := x2.new x3 (by omega)
  simp (disch := omega) only [HB, hsh, aA, mA]
  refine eX (o1.ext x13 (fun h => h)) rfl (by simp [one]) (by simp) fun w4 o4 x4 s4 => ?_
  refine lE o4 (by simp [aV]) ?_
  simp only [aV, aGS, aGU, aGT, aGN, aGV]
  exact ⟨_, rfl, Tm (o3.ext x4 (by omega)) rfl, (x1.seq x13).new x4 (by omega)⟩
 have n1 : (a == 0) = false := beq_eq_false_iff_ne.2 h0
 by_cases h1 : a = 1
 .subst h1
  have n2 : ((1 : Int) == 1) = true := rfl
  have l1 := asE (b := 1) (off := 0) (l := zTO.map (Value.int .i64)) rfl hg1.to.ld
  simp (disch := omega) only [aC, cW, n1, n2, dY, aA, aF, l1, aE]
  refine awA fun w2 o2 x2 s2 => ?_
  refine aqU o2 rfl (Uc _) (by simp) fun w3 o3 x3 s3 => ?_
  have o3 : cJ w3 w1.heap.size (zTO.map (Value.int .i64)) := by
   rw [aIe, I6 zTO 29 rfl] at o3
   .exact o3
   .rfl
  have hsh : uN ⟨w1.heap.size, 0, none⟩ 29 0 1 = ⟨w1.heap.size, 0, none⟩ := El (by decide)
  have x13 : aS w1 w3 cM := x2.new x3 (by omega)
  simp (disch := omega) only [G1, hsh, aA, mA]
  refine eX (o1.ext x13 (fun h => h)) rfl (by simp [one]) (by simp) fun w4 o4 x4 s4 => ?_
  refine lE o4 (by simp [aV]) ?_
  simp only [aV, aGS, aGU, aGT, aGN, aGV]
  exact ⟨_, rfl, Tm (o3.ext x4 (by omega)) rfl, (x1.seq x13).new x4 (by omega)⟩
 have n2 : (a == 1) = false := beq_eq_false_iff_ne.2 h1
 by_cases h2 : a = 2
 .subst h2
  have n3 : ((2 : Int) == 2) = true := rfl
  have l1 := asA (b := 2) (off := 0) (l := zTM.map (Value.int .i64)) rfl hg1.tm.ld
  simp (disch := omega) only [aC, cW, n1, n2, n3, dY, aA, aF, aE, l1]
  refine atZ fun w2 o2 x2 s2 => ?_
  refine arV o2 rfl (Uc _) (by simp) fun w3 o3 x3 s3 => ?_
  have o3 : cJ w3 w1.heap.size (zTM.map (Value.int .i64)) := by
   rw [aIe, I6 zTM 53 rfl] at o3
   .exact o3
   .rfl
  have hsh : uN ⟨w1.heap.size, 0, none⟩ 53 0 1 = ⟨w1.heap.size, 0, none⟩ := El (by decide)
  have x13 : aS w1 w3 cM := x2.new x3 (by omega)
  simp (disch := omega) only [GP, hsh, aA, mA]
  refine eX (o1.ext x13 (fun h => h)) rfl (by simp [one]) (by simp) fun w4 o4 x4 s4 => ?_
  refine lE o4 (by simp [aV]) ?_
  simp only [aV, aGS, aGU, aGT, aGN, aGV]
  exact ⟨_, rfl, Tm (o3.ext x4 (by omega)) rfl, (x1.seq x13).new x4 (by omega)⟩
 have n3 : (a == 2) = false := beq_eq_false_iff_ne.2 h2
 simp (disch := omega) only [aC, cW, n1, n2, n3, dY, aA, aE]
 refine eX o1 rfl (by simp [one]) (by simp) fun w4 o4 x4 s4 => ?_
 refine lE o4 (by simp [aV]) ?_
 simp only [aV, aGS, aGU, aGT, aGN, aGV]
 unfold Yt gvP
 rw [if_neg h1, if_neg (by omega), if_neg h0, if_neg h1, if_neg h2]
 exact ⟨_, rfl, Sl.nil _, x1.new x4 (by omega)⟩
def Px (w : aJa) (base : Nat) (o : Except Int (Nat × List T3)) (t : aJb) (e : Int) : Prop := match o with
 | .error e' => t = .agg #[.int .i64 0, .slice none 0 0] /\ e = e'
 | .ok (lg, L) => (∃ b, Tbl w base b lg L t) /\ e = 0
def vP (a : Int) : Except Int (Nat × List T3) := if a = 0 ∨ a = 1 ∨ a = 2 then .ok (Yt a, jY (Yt a) (gvP a)) else .error 1
theorem Px.form {w : aJa} {base : Nat} {o : Except Int (Nat × List T3)} {t : aJb} {e : Int} (h : Px w base o t e) : ∃ (x : Int) (a : Option Addr) (n c : Nat), t = .agg #[.int .i64 x, .slice a n c] := by
 unfold Px at h
 split at h
 .exact ⟨_, _, _, _, h.1⟩
 .obtain ⟨⟨b, h, _⟩, _⟩ := h
  exact ⟨_, _, _, _, h⟩
theorem Px.ext {w w' : aJa} {base : Nat} {o : Except Int (Nat × List T3)} {t : aJb} {e : Int} {M : Nat -> Prop} (h : Px w base o t e) (x : aS w w' M) (hM : ∀ b, base <= b -> b < w.heap.size -> ¬ M b) : Px w' base o t e := by
 unfold Px at *
 split at h
 .exact h
 .obtain ⟨⟨b, ht⟩, he⟩ := h
  have hb := ht.2.1
  have hl := ht.2.2.lt
  exact ⟨⟨b, ht.ext x (hM b hb hl)⟩, he⟩
theorem Px.lower {w : aJa} {base base' : Nat} {o : Except Int (Nat × List T3)} {t : aJb} {e : Int} (h : Px w base o t e) (hb : base' <= base) : Px w base' o t e := by
 unfold Px at *
 split at h
 .exact h
 .obtain ⟨⟨b, h1, h2, h3⟩, he⟩ := h
  exact ⟨⟨b, h1, by omega, h3⟩, he⟩
theorem aAZ {a : Int} {w : aJa} (hg : uA w) :
 aR pg zI #[.int .i64 a] w (fun r w' => ∃ t e, r = .tuple #[t, .int .i64 e] /\ Px w' w.heap.size (vP a) t e /\ aS w w' cM) := by
 refine Vk ?_
 unfold SU Dm
 refine iK fun w1 o1 x1 s1 => ?_
 have z1 := o1.lt
 refine (aAs (hg.ext x1)).mono ?_
 rintro r w2 ⟨v, rfl, hs, x2⟩
 unfold vP
 have z2 := x2.size
 by_cases hk : a = 0 ∨ a = 1 ∨ a = 2
 .rw [if_pos hk]
  refine (akF (akS hk) hs).mono ?_
  rintro r w3 ⟨b, t, rfl, ⟨rfl, hb, ob⟩, x3⟩
  have z3 := x3.size
  simp (disch := omega) only [aC, Ch, B7, aA]
  have lb := ob.lt
  refine eI ((o1.ext x2 (fun h => h)).ext x3 (fun h => h)) rfl (by simp [one]) (by simp) fun w4 o4 x4 s4 => ?_
  refine pR o4 (by simp [aV]) ?_
  simp only [aV, aGS, aGU, aGT, aGN, aGV]
  exact ⟨_, _, rfl, ⟨⟨b, rfl, by omega, ob.ext x4 (by omega)⟩, rfl⟩, ((x1.seq x2).seq x3).new x4 (by omega)⟩
 .rw [if_neg hk]
  have e1 : Yt a = 0 := by unfold Yt; rw [if_neg (by omega), if_neg (by omega)]
  have e2 : gvP a = [] := by unfold gvP; rw [if_neg (by omega), if_neg (by omega), if_neg (by omega)]
  rw [e1]
  rw [e2] at hs
  refine (aAY (log := 0) (ps := []) (by decide) hs (by simp)).mono ?_
  rintro r w3 ⟨rfl, x3⟩
  simp (disch := omega) only [aC, Ch, B7, aA]
  refine eI ((o1.ext x2 (fun h => h)).ext x3 (fun h => h)) rfl (by simp [one]) (by simp) fun w4 o4 x4 s4 => ?_
  refine pR o4 (by simp [aV]) ?_
  simp only [aV, aGS, aGU, aGT, aGN, aGV]
  exact ⟨_, _, rfl, ⟨rfl, rfl⟩, ((x1.seq x2).seq x3).new x4 (by omega)⟩
def Cp (a : Int) : Int := if a = 0 ∨ a = 2 then 9 else if a = 1 then 8 else 0
theorem asQ (a : Int) (w : aJa) : aR pg sK #[.int .i64 a] w (fun r w' => r = .int .i64 (Cp a) /\ w' = w) := by
 refine afH ?_
 unfold afY Hd JA Lv JF Lr Jl TQ KM
 unfold Cp
 by_cases h0 : a = 0
 .subst h0
  have n1 : ((0 : Int) == 0) = true := rfl
  unfold qQ
  simp (disch := omega) only [aC, cW, n1, aA, and_true, aF]
  rfl
 have n1 : (a == 0) = false := beq_eq_false_iff_ne.2 h0
 by_cases h2 : a = 2
 .subst h2
  have n2 : ((2 : Int) == 2) = true := rfl
  unfold qQ
  simp (disch := omega) only [aC, cW, n1, aA, n2, aF, and_true, aE]
  rfl
 have n2 : (a == 2) = false := beq_eq_false_iff_ne.2 h2
 rw [if_neg (by omega)]
 by_cases h1 : a = 1
 .subst h1
  have n3 : ((1 : Int) == 1) = true := rfl
  unfold qQ
  simp (disch := omega) only [aC, cW, n1, if_true, n3, true_and, aA, aF, n2, aE, and_true]
 have n3 : (a == 1) = false := beq_eq_false_iff_ne.2 h1
 rw [if_neg h1]
 unfold qQ C7
 simp (disch := omega) only [aC, cW, n1, n3, true_and, aA, aE, n2, and_true]
end Go.Proofs.YtaggdjhhmbnhoaaDoor
namespace Go.Proofs.YtaggdjhhmbnhoaaDoor
open Go Go.En Go.Pu
theorem aEj : ((⟨#[]⟩ : ByteArray).toList == (⟨#[]⟩ : ByteArray).toList) = true := by simp
theorem axD {x : ByteArray} (h : 0 < x.size) : (x.toList == (⟨#[]⟩ : ByteArray).toList) = false := by
 rw [ByteArray.toList_eq, ByteArray.toList_eq]
 have hl := kG x
 unfold lC at hl
 cases hx : x.data.toList with
 | nil => rw [hx] at hl; simp at hl; omega
 | cons a l => rfl
end Go.Proofs.YtaggdjhhmbnhoaaDoor
namespace Go.Pu
open Go Go.En
def iX (L : List Bool) (st n : Nat) : Nat := sP ((L.drop st).take n)
theorem DD (L : List Bool) (st n : Nat) : iX L st n < 2 ^ n := by
 have h := Yc ((L.drop st).take n)
 have : ((L.drop st).take n).length <= n := by rw [aG4]; omega
 exact Nat.lt_of_lt_of_le h (aG0 (by omega) this)
theorem apP (A : List Bool) (x n : Nat) (C : List Bool) (h : x < 2 ^ n) : iX (A ++ (gC x n ++ C)) A.length n = x := by
 unfold iX
 rw [aIX, List.take_left' (dH x n), atJ h]
def Vj (L : List Bool) (st left : Nat) : Option (Nat × Nat) :=
 let n := bl (left + 1)
 if L.length < st + (n - 1) then none
 else
  let low := iX L st (n - 1)
  let free := 2 ^ n - 2 - left
  if low < free then some (low, st + (n - 1))
  else if L.length < st + (n - 1) + 1 then none
  else if iX L (st + (n - 1)) 1 = 0 then some (low, st + (n - 1) + 1)
  else some (low + 2 ^ (n - 1) - free, st + (n - 1) + 1)
def noR (L : List Bool) : Nat -> Nat -> Option (Nat × Nat)
 | 0, _ => none
 | f + 1, st => if L.length < st + 2 then none else if iX L st 2 < 3 then some (iX L st 2, st + 2) else match noR L f (st + 2) with
   | none => none
   | some (k, st') => some (3 + k, st')
def U7 (L : List Bool) (sym : Nat) : Nat -> Nat -> Nat -> List Int -> Except Int (List Int × Nat)
 | 0, _, _, _ => .error 10
 | f + 1, st, left, ps => if left = 0 then .ok (ps, st) else match Vj L st left with
   | none => .error 10
   | some (v, st1) =>
     if v = 1 then match noR L (L.length + 1) st1 with
       | none => .error 10
       | some (k, st2) => if sym < ps.length + 1 + k then .error 11 else U7 L sym f st2 left (ps ++ 0 :: List.replicate k 0)
     else if sym < ps.length + 1 then .error 11 else U7 L sym f st1 (left - (cR ((v : Int) - 1)).toNat) (ps ++ [(v : Int) - 1])
theorem Uk {L : List Bool} {st left v st1 : Nat} (h : Vj L st left = some (v, st1)) (h0 : 0 < left) : st < st1 /\ st1 <= L.length /\ v <= left + 1 := by
 have hb1 := GS (k := left + 1) (by omega)
 have hb2 := Ua (k := left + 1) (by omega)
 have hb3 := Vw (left + 1)
 have hn : 2 <= bl (left + 1) := by
  rcases aHd (bl (left + 1)) 2 with h | h
  .have : bl (left + 1) = 1 := by omega
   rw [this] at hb3; omega
  .exact h
 unfold Vj at h
 simp only at h
 generalize bl (left + 1) = n at *
 obtain ⟨m, rfl⟩ : ∃ m, n = m + 1 := ⟨n - 1, by omega⟩
 rw [aHK] at *
 rw [aHf] at *
 have hl := DD L st m
 generalize 2 ^ m = q at *
 generalize iX L st m = low at *
 split at h
 .cases h
 .split at h
  .obtain ⟨rfl, rfl⟩ := aI1 (aG8 h); omega
  .split at h
   .cases h
   .split at h
    .obtain ⟨rfl, rfl⟩ := aI1 (aG8 h); omega
    .obtain ⟨rfl, rfl⟩ := aI1 (aG8 h); omega
theorem akL {L : List Bool} : ∀ {f st k st1 : Nat}, noR L f st = some (k, st1) -> st < st1 /\ st1 <= L.length /\ 2 * k <= 3 * (st1 - st)
 | 0, st, k, st1, h => by cases h
 | f + 1, st, k, st1, h => by
   rw [noR] at h
   split at h
   .cases h
   .have hl := DD L st 2
    split at h
    .obtain ⟨rfl, rfl⟩ := aI1 (aG8 h); omega
    .cases hn : noR L f (st + 2) with
     | none => rw [hn] at h; cases h
     | some x =>
       obtain ⟨k', st'⟩ := x
       rw [hn] at h
       obtain ⟨rfl, rfl⟩ := aI1 (aG8 h)
       have := akL hn
       omega
def vV (L : List Bool) (most : Int) (sym : Nat) : Except Int (Nat × List Int × Nat) :=
 if L.length < 4 then .error 10
 else
  let log := iX L 0 4 + 5
  if most < log ∨ 15 < log then .error 12
  else match U7 L sym (L.length + 1) 4 (2 ^ log) [] with
   | .error e => .error e
   | .ok (ps, st) => .ok (log, ps, (st + 7) / 8)
theorem PM : ∀ k : Nat, rE (List.replicate k 0) = 0
 | 0 => rfl
 | k + 1 => by rw [aHO, wD, PM k] <;> rfl
theorem acD {L : List Bool} {sym : Nat} {out : List Int} {stE : Nat} {tot : Int} : ∀ {f st left : Nat} {ps : List Int}, U7 L sym f st left ps = .ok (out, stE) -> (∀ p ∈ ps, -1 <= p) -> rE ps + left = tot →
 (left = 0 -> ps.length <= sym /\ ps.getLast? ≠ some 0 /\ 1 <= ps.length) -> (∀ p ∈ out, -1 <= p) /\ rE out = tot /\ out.length <= sym /\ out.getLast? ≠ some 0 /\ 1 <= out.length
 | 0, st, left, ps, h, _, _, _ => by cases h
 | f + 1, st, left, ps, h, hlo, hs, hz => by
   rw [U7] at h
   split at h
   .rename_i h0
    cases h
    obtain ⟨z1, z2, z3⟩ := hz h0
    exact ⟨hlo, by omega, z1, z2, z3⟩
   .rename_i h0
    cases hv : Vj L st left with
    | none => rw [hv] at h; cases h
    | some x =>
      obtain ⟨v, st1⟩ := x
      obtain ⟨v1, v2, v3⟩ := Uk hv (by omega)
      rw [hv] at h
      simp only at h
      split at h
      .rename_i hv1
       cases hn : noR L (L.length + 1) st1 with
       | none => rw [hn] at h; cases h
       | some y =>
         obtain ⟨k, st2⟩ := y
         rw [hn] at h
         simp only at h
         split at h
         .cases h
         .refine acD h ?_ ?_ (fun h => absurd h h0)
          .intro p hp
           rcases aH7.1 hp with hp | hp
           .exact hlo p hp
           .rcases aHE.1 hp with rfl | hp
            .omega
            .rw [aIx hp]; omega
          .rw [Gq, wD]
           have e := PM k
           rw [e]
           have : cR 0 = 0 := rfl
           omega
      .rename_i hv1
       split at h
       .cases h
       .have hp1 : -1 <= (v : Int) - 1 := by omega
        have hpn := lK hp1
        have hpl : cR ((v : Int) - 1) <= left := by unfold cR; split <;> omega
        refine acD h ?_ ?_ ?_
        .intro p hp
         rcases aH7.1 hp with hp | hp
         .exact hlo p hp
         .rw [aH2.1 hp]; exact hp1
        .rw [Gq, wD]
         have e : rE [] = 0 := rfl
         rw [e]; omega
        .intro _
         rw [aGY, aH8, List.getLast?_concat]
         refine ⟨by omega, ?_, by omega⟩
         intro e
         have := aG8 e
         omega
def LB (left v : Nat) : List Bool :=
 let n := bl (left + 1)
 let free := 2 ^ n - 2 - left
 if v < free then gC v (n - 1) else if v < 2 ^ (n - 1) then gC v n else gC (v + free) n
def noW (k : Nat) : List Bool := if h : k < 3 then gC k 2 else gC 3 2 ++ noW (k - 3)
termination_by k
theorem T0 {L A C : List Bool} {x n : Nat} (hL : L = A ++ (gC x n ++ C)) (h : x < 2 ^ n) : iX L A.length n = x := by rw [hL, apP A x n C h]
theorem amZ (x n : Nat) : gC x (n + 1) = gC (x % 2 ^ n) n ++ gC (x / 2 ^ n % 2) 1 := by
 rw [Jz]
 congr 1
 .unfold gC
  apply aH4
  intro k hk
  rw [Nat.testBit_mod_two_pow]
  simp [aHD.1 hk]
 .rw [Jz, EF, aHv]
  congr 1
  rw [aH3, aH3, Nat.pow_zero, Nat.div_one, Nat.mod_mod]
theorem aBV {L A C : List Bool} {left v : Nat} (hL : L = A ++ (LB left v ++ C)) (h0 : 0 < left) (hv : v <= left + 1) : Vj L A.length left = some (v, A.length + (LB left v).length) := by
 have hb1 := GS (k := left + 1) (by omega)
 have hb2 := Ua (k := left + 1) (by omega)
 have hb3 := Vw (left + 1)
 unfold LB at hL ⊢
 unfold Vj
 simp only at hL ⊢
 generalize bl (left + 1) = n at *
 obtain ⟨m, rfl⟩ : ∃ m, n = m + 1 := ⟨n - 1, by omega⟩
 rw [aHK] at *
 have hp : 2 ^ (m + 1) = 2 * 2 ^ m := by rw [aHf, aHU]
 have hp0 := aHp m
 by_cases h1 : v < 2 ^ (m + 1) - 2 - left
 .rw [if_pos h1] at hL ⊢
  have hlen : L.length = A.length + (m + C.length) := by rw [hL, aGY, aGY, dH]
  rw [if_neg (by omega), T0 hL (by omega), if_pos h1, dH]
 .rw [if_neg h1] at hL ⊢
  have key : ∀ y : Nat, y < 2 ^ (m + 1) -> L = A ++ (gC y (m + 1) ++ C) -> 2 ^ (m + 1) - 2 - left <= y % 2 ^ m -> (if y / 2 ^ m = 0 then y % 2 ^ m else y % 2 ^ m + 2 ^ m - (2 ^ (m + 1) - 2 - left)) = v →
      (if L.length < A.length + m then none else if iX L A.length m < 2 ^ (m + 1) - 2 - left then some (iX L A.length m, A.length + m) else if L.length < A.length + m + 1 then none
       else if iX L (A.length + m) 1 = 0 then some (iX L A.length m, A.length + m + 1) else some (iX L A.length m + 2 ^ m - (2 ^ (m + 1) - 2 - left), A.length + m + 1)) = some (v, A.length + (gC y (m + 1)).length) := by
   intro y hy hL hlow hval
   have hlen : L.length = A.length + (m + 1 + C.length) := by rw [hL, aGY, aGY, dH]
   have hq : y / 2 ^ m < 2 := (aIi hp0).2 (by omega)
   have e1 : iX L A.length m = y % 2 ^ m := T0 (C := gC (y / 2 ^ m % 2) 1 ++ C) (by rw [hL, amZ, aG2]) (aIz _ hp0)
   have e2 : iX L (A.length + m) 1 = y / 2 ^ m := by
    have := T0 (L := L) (A := A ++ gC (y % 2 ^ m) m) (C := C) (x := y / 2 ^ m % 2) (n := 1) (by rw [hL, amZ, aG2, aG2]) (by omega)
    rw [aGY, dH, aHm hq] at this
    exact this
   rw [if_neg (by omega), e1, if_neg (by omega), if_neg (by omega), e2, dH]
   split
   .rename_i h
    rw [if_pos h] at hval
    rw [hval] <;> rfl
   .rename_i h
    rw [if_neg h] at hval
    rw [hval] <;> rfl
  by_cases h2 : v < 2 ^ m
  .rw [if_pos h2] at hL ⊢
   refine key v (by omega) hL ?_ ?_
   .rw [aHm h2]; omega
   .rw [Nat.div_eq_of_lt h2, if_pos rfl, aHm h2]
  .rw [if_neg h2] at hL ⊢
   have hd : (v + (2 ^ (m + 1) - 2 - left)) / 2 ^ m = 1 := Nat.div_eq_of_lt_le (by omega) (by omega)
   have hm : (v + (2 ^ (m + 1) - 2 - left)) % 2 ^ m = v + (2 ^ (m + 1) - 2 - left) - 2 ^ m := by
    rw [Nat.mod_eq_sub_mod (by omega), aHm (by omega)]
   refine key _ (by omega) hL ?_ ?_
   .rw [hm]; omega
   .rw [hd, if_neg (by omega), hm]; omega
theorem aFX {L C : List Bool} : ∀ {k : Nat} {A : List Bool} {f : Nat}, L = A ++ (noW k ++ C) -> L.length < 2 * f + A.length -> noR L f A.length = some (k, A.length + (noW k).length) := by
 intro k
 induction k using Nat.strongRecOn with
 | ind k ih =>
   intro A f hL hf
   rw [noW] at hL ⊢
   split at hL
   .rename_i hk
    have hlen : L.length = A.length + (2 + C.length) := by rw [hL, aGY, aGY, dH]
    obtain ⟨f, rfl⟩ : ∃ g, f = g + 1 := ⟨f - 1, by omega⟩
    have e := T0 hL (by omega)
    rw [noR, if_neg (by omega), e, if_pos hk, dif_pos hk, dH]
   .rename_i hk
    rw [aG2] at hL
    have hlen : L.length = A.length + (2 + ((noW (k - 3)).length + C.length)) := by rw [hL, aGY, aGY, aGY, dH]
    obtain ⟨f, rfl⟩ : ∃ g, f = g + 1 := ⟨f - 1, by omega⟩
    have e := T0 hL (by omega)
    have := ih (k - 3) (by omega) (A := A ++ gC 3 2) (f := f) (by rw [hL, aG2]) (by rw [aGY, dH]; omega)
    rw [aGY, dH] at this
    rw [noR, if_neg (by omega), e, if_neg (by omega), this, dif_neg hk, aGY, dH]
    simp only [Option.some.injEq, Prod.mk.injEq]
    omega
def XF : Nat -> Nat -> List Int -> List Bool
 | 0, _, _ => []
 | f + 1, left, ps => match ps with
   | [] => []
   | p :: ps => if p = 0 then
       let k := (ps.takeWhile (· == 0)).length
       LB left 1 ++ (noW k ++ XF f left (ps.drop k))
     else LB left (p + 1).toNat ++ XF f (left - (cR p).toNat) ps
theorem VM (ps : List Int) : ps = List.replicate (ps.takeWhile (· == 0)).length 0 ++ ps.drop (ps.takeWhile (· == 0)).length := by
 induction ps with
 | nil => rfl
 | cons p ps ih =>
   rw [List.takeWhile_cons]
   by_cases h : p = 0
   .subst h
    simp only [beq_self_eq_true, if_true, aHc, aHO, aHx, aHV]
    rw [<- ih]
   .have : (p == 0) = false := by simpa using h
    simp [this]
theorem aFR {L C : List Bool} {sym : Nat} : ∀ {g : Nat} {ps out : List Int} {left f : Nat} {A : List Bool}, ps.length <= g -> (∀ p ∈ ps, -1 <= p) -> rE ps = left -> ps.getLast? ≠ some 0 →
 L = A ++ (XF g left ps ++ C) -> L.length < f + A.length -> out.length + ps.length <= sym →
 U7 L sym f A.length left out = .ok (out ++ ps, A.length + (XF g left ps).length) := by
 intro g
 induction g with
 | zero =>
   intro ps out left f A hl hlo hs hlast hL hf hsym
   have : ps = [] := aHq.1 (by omega)
   subst this
   obtain rfl : left = 0 := by have : rE [] = 0 := rfl
                               omega
   have : A.length <= L.length := by rw [hL, aGY]; omega
   obtain ⟨f, rfl⟩ : ∃ g, f = g + 1 := ⟨f - 1, by omega⟩
   rw [U7, if_pos rfl, XF]; simp
 | succ g ih =>
   intro ps out left f A hl hlo hs hlast hL hf hsym
   have hAL : A.length <= L.length := by rw [hL, aGY]; omega
   obtain ⟨f, rfl⟩ : ∃ g, f = g + 1 := ⟨f - 1, by omega⟩
   cases ps with
   | nil =>
     obtain rfl : left = 0 := by have : rE [] = 0 := rfl
                                 omega
     rw [U7, if_pos rfl, XF]; simp
   | cons p ps =>
     have hp := hlo p (aH0 ..)
     have hlo' : ∀ p ∈ ps, -1 <= p := fun q hq => hlo q (aG9 _ hq)
     have hn := F7 hlo'
     rw [wD] at hs
     have hpn := lK hp
     rw [aHc] at hl hsym
     have hpos : 0 < left := by
      by_cases h0 : p = 0
      .
       subst h0
       rcases aHT left with h | h
       .exfalso
        subst h
        have hs0 : rE ps = 0 := by have : cR 0 = 0 := rfl
                                   omega
        have hz : ∀ q ∈ ps, q = 0 := fun q hq => by
         have h1 := akH hlo' hq
         have h2 := hlo' q hq
         unfold cR at h1
         split at h1 <;> omega
        cases ps with
        | nil => simp at hlast
        | cons q ps =>
          rw [List.getLast?_cons_cons] at hlast
          refine hlast ?_
          cases hg : (q :: ps).getLast? with
          | none => simp at hg
          | some y => rw [hz y (List.mem_of_getLast? hg)]
       .exact h
      .unfold cR at hs; split at hs <;> omega
     have hpl : cR p <= left := by omega
     by_cases h0 : p = 0
     .subst h0
      have hW : XF (g + 1) left (0 :: ps) = LB left 1 ++ (noW (ps.takeWhile (· == 0)).length ++ XF g left (ps.drop (ps.takeWhile (· == 0)).length)) := by rw [XF, if_pos rfl]
      have hk := VM ps
      have hkl : (ps.takeWhile (· == 0)).length <= ps.length := (aI2 _).length_le
      rw [hW] at hL ⊢
      generalize (ps.takeWhile (· == 0)).length = k at *
      have e1 := aBV (L := L) (A := A) (C := noW k ++ XF g left (ps.drop k) ++ C) (left := left) (v := 1) (by rw [hL]; simp [aG2]) hpos (by omega)
      obtain ⟨z1, z2, _⟩ := Uk e1 hpos
      have e2 := aFX (L := L) (k := k) (A := A ++ LB left 1) (C := XF g left (ps.drop k) ++ C) (f := L.length + 1) (by rw [hL]; simp [aG2]) (by omega)
      obtain ⟨y1, y2, _⟩ := akL e2
      have hlast' : (ps.drop k).getLast? ≠ some 0 := by
       intro h
       apply hlast
       have e : (0 :: ps : List Int) = (0 :: ps.take k) ++ ps.drop k := by rw [aHV, aIh]
       rw [e, List.getLast?_append, h] <;> rfl
      have hsum' : rE (ps.drop k) = left := by
       have : rE ps = rE (List.replicate k 0) + rE (ps.drop k) := by
        conv => lhs; rw [hk]
        rw [Gq]
       rw [PM] at this
       have e0 : cR 0 = 0 := rfl
       omega
      have hlen2 : (A ++ LB left 1 ++ noW k).length = A.length + (LB left 1).length + (noW k).length := by rw [aGY, aGY]
      rw [aGY] at e2 y1
      have e3 := ih (ps := ps.drop k) (out := out ++ 0 :: List.replicate k 0) (left := left) (f := f) (A := A ++ LB left 1 ++ noW k) (by rw [aHh]; omega) (fun q hq => hlo' q (aI7 hq)) hsum' hlast'
       (by rw [hL]; simp [aG2]) (by rw [hlen2]; omega) (by rw [aGY, aHc, aH9, aHh]; omega)
      rw [hlen2] at e3
      rw [U7, if_neg (by omega), e1]
      simp only [if_true]
      rw [e2]
      simp only
      rw [if_neg (by omega), e3]
      congr 2
      .rw [aG2, aHV, <- hk]
      .simp only [aGY]; omega
     .have hW : XF (g + 1) left (p :: ps) = LB left (p + 1).toNat ++ XF g (left - (cR p).toNat) ps := by rw [XF, if_neg h0]
      have hle : p <= cR p := by unfold cR; split <;> omega
      rw [hW] at hL ⊢
      obtain ⟨v, hv⟩ : ∃ v : Nat, (p + 1).toNat = v := ⟨_, rfl⟩
      have hvp : (v : Int) - 1 = p := by omega
      rw [hv] at hL ⊢
      have e1 := aBV (L := L) (A := A) (C := XF g (left - (cR p).toNat) ps ++ C) (left := left) (v := v) (by rw [hL]; simp [aG2]) hpos (by omega)
      obtain ⟨z1, z2, _⟩ := Uk e1 hpos
      have hlast' : ps.getLast? ≠ some 0 := by
       intro h
       apply hlast
       cases ps with
       | nil => simp at h
       | cons q ps => rw [List.getLast?_cons_cons]; exact h
      have hlen2 : (A ++ LB left v).length = A.length + (LB left v).length := aGY
      have e3 := ih (ps := ps) (out := out ++ [p]) (left := left - (cR p).toNat) (f := f) (A := A ++ LB left v) (by omega) hlo' (by omega) hlast'
       (by rw [hL]; simp [aG2]) (by rw [hlen2]; omega) (by rw [aGY, aH8]; omega)
      rw [hlen2] at e3
      rw [U7, if_neg (by omega), e1]
      simp only
      rw [if_neg (by omega), if_neg (by omega), hvp, e3]
      congr 2
      .rw [aG2] <;> rfl
      .simp only [aGY]; omega
def Im (log : Nat) (ps : List Int) : List Bool := gC (log - 5) 4 ++ XF ps.length (2 ^ log) ps
theorem aDX {log : Nat} {ps : List Int} {C : List Bool} (hm : Sw log ps) {most : Int} (hmo : (log : Int) <= most) {sym : Nat} (hs : ps.length <= sym) :
 vV (Im log ps ++ C) most sym = .ok (log, ps, ((Im log ps).length + 7) / 8) := by
 have h5 := hm.log5
 have h15 := hm.log15
 have hlen : 4 <= (Im log ps ++ C).length := by unfold Im; rw [aGY, aGY, dH]; omega
 have e0 : iX (Im log ps ++ C) 0 4 = log - 5 := by
  unfold Im
  have := apP [] (log - 5) 4 (XF ps.length (2 ^ log) ps ++ C) (by omega)
  rw [aHv, List.length_nil, <- aG2] at this
  exact this
 have hpow : ((2 ^ log : Nat) : Int) = (2 : Int) ^ log := by simp
 have e1 := aFR (L := Im log ps ++ C) (C := C) (sym := sym) (g := ps.length) (ps := ps) (out := []) (left := 2 ^ log) (f := (Im log ps ++ C).length + 1) (A := gC (log - 5) 4) (aGZ _) hm.low
  (by rw [hm.sum, hpow]) hm.last (by unfold Im; rw [aG2]) (by omega) (by rw [List.length_nil]; omega)
 rw [dH, aHv] at e1
 unfold vV
 simp only
 rw [if_neg (by omega), e0, show log - 5 + 5 = log from by omega, if_neg (by omega), e1]
 simp only
 congr 4
 unfold Im
 rw [aGY, dH]
end Go.Pu
namespace Go.En
open Go
section
variable {P : Program} {w : aJa} {t e : TypeId}
theorem atP {S : Nat -> Prop} {sz n m : Nat} {i : TypeInfo} {z : aJb} {ty t2 : TypeId} {k : IntKind} (hu : P.underlying t = some (.slice e)) (hu2 : P.underlying t2 = some (.int k)) (hi : P.info? e = some i) (hsz : i.size = sz) (hz : i.zero = some z) (hzs : z.cells.size = sz)
 {v : aJb} {l : List aJb} (h : OSS w S sz v n l) (hsz0 : 0 < sz) (hone : ∀ y ∈ z.cells.toList, one y = true) (hb : ∀ b, w.heap.size <= b -> S b)
 (hn : n + m <= 9223372036854775807) (hbytes : (n + m) * i.bytes <= 140737488355328) (hmb : m * i.bytes <= 140737488355328)
 {K : aJb -> aJa -> Prop} (hk : ∀ v' w', OSS w' S sz v' (n + m) (l ++ (Builtin.zeroCells z.cells m).toList) -> aS w w' S -> K v' w') : aC P (jS .append #[t, t2] ty [v, .int k m]) w K := by
 generalize hnews : (Builtin.zeroCells z.cells m).toList = news at *
 have hnl : news.length = m * sz := by rw [<- hnews, aH5, pZ, hzs]
 have hone' : ∀ y ∈ news, one y = true := by
  intro y hy
  rw [<- hnews] at hy
  simp only [Builtin.zeroCells, Array.toList_map, aHH] at hy
  obtain ⟨j, _, rfl⟩ := hy
  refine hone _ ?_
  have : j % z.cells.size < z.cells.size := aIz _ (by omega)
  rw [getElem!_pos z.cells _ this]
  exact Array.getElem_mem_toList this
 have hmw : IntKind.i64.wrap ((m : Nat) : Int) = (m : Int) := aT (by omega) (by omega)
 have hm0 : ¬ ((m : Int) < 0) := by omega
 have hmx : ¬ ((m : Int) * (i.bytes : Nat) > 2 ^ 48) := by
  have : (m : Int) * (i.bytes : Nat) = ((m * i.bytes : Nat) : Int) := by simp
  rw [this]; omega
 have has : ∀ w, (asInt (.int k m)).run P w = .ok (m : Int) w := fun w => rfl
 have hz' : ∀ w, (zeroValue e).run P w = .ok z w := fun w => by simp [zeroValue, typeInfo, hi, hz]
 have hnw : ∀ w, (if m * sz = 0 then pure #[] else do pure (Builtin.zeroCells (<- zeroValue e).cells m) : Sem (Array aJb)).run P w = .ok news.toArray w := fun w => by
  by_cases h0 : m * sz = 0
  .rw [if_pos h0, Sem.run_pure]
   have : news = [] := aHq.1 (by omega)
   rw [this]
  .rw [if_neg h0, Sem.run_bind, hz', Result.andThen_ok, Sem.run_pure, <- hnews, Array.toArray_toList]
 have hmax : IntKind.i64.max = 9223372036854775807 := by decide
 have hnot : ¬ (((n + m : Nat) : Int) > IntKind.i64.max) := by rw [hmax]; omega
 have hlen := h.1
 rcases h.2 with ⟨rfl, rfl⟩ | ⟨b, c, rest, rfl, h2, h3, h4, h5⟩
 .have hl0 : l = [] := aHq.1 (by omega)
  subst hl0
  by_cases hm : m = 0
  .subst hm
   have hn0 : news = [] := aHq.1 (by omega)
   subst hn0
   have : (jS .append #[t, t2] ty [.slice none 0 0, .int k (0 : Nat)]).run P w = .ok (.value (.slice none 0 0)) w := by
    unfold jS builtin
    simp only [Builtin.append_, aHY, aGQ, aGR]
    simp only [underlying, typeInfo, Sem.run_bind, run_program, Result.andThen_ok, hu, hu2, hi, Sem.run_pure, gK hi, hsz, has, hmw, hm0, hmx, if_true, if_false, aGO, aHB, aGW, aGZ, aHI, hnw]
   unfold aC
   rw [this]
   exact hk _ _ ⟨by simp, .inl ⟨rfl, by omega⟩⟩ (aS.refl _ _)
  .have hfit := growslice_fits (need := 0 + m) (old := 0) (bytes := i.bytes) (by omega) (by omega)
   have hfit' : ¬ (Builtin.nextslicecap (0 + m) 0 * i.bytes > 2 ^ 48) := by omega
   have hle : ¬ (0 + m <= 0) := by omega
   have hq : (Question.appendCap (0 + m) 0 e).forced = false := rfl
   obtain ⟨r, hr⟩ : ∃ r, (Question.appendCap (0 + m) 0 e).cut (w.tape w.drawn (.appendCap (0 + m) 0 e)) = m + r :=
    ⟨(w.tape w.drawn (.appendCap (0 + m) 0 e)) % (2 ^ 63 - (0 + m)), by simp only [Question.cut]; omega⟩
   have : (jS .append #[t, t2] ty [.slice none 0 0, .int k m]).run P w = .ok (.value (.slice (some ⟨w.heap.size, 0, none⟩) (0 + m) (m + r))) ((dr w).alloc (.cells (news ++ (Builtin.zeroCells z.cells (m + r - (0 + m))).toList).toArray e)) := by
    unfold jS builtin
    simp only [Builtin.append_, aHY, aGQ, aGR]
    simp only [underlying, typeInfo, Sem.run_bind, run_program, Result.andThen_ok, hu, hu2, hi, Sem.run_pure, gK hi, hsz, has, hmw, hm0, hmx, if_true, if_false, aGO, aHB, aGW, hle, hnot, false_and, hfit', run_choose, hq, hr, run_askRoom]
    change ((Sem.run P _ (dr w)).andThen _).andThen _ = _
    simp only [Sem.run_bind, hnw, run_firstCells_none, Result.andThen_ok, hz', Sem.run_pure, newRow, run_newObj]
    have e1 : (#[] ++ news.toArray ++ Builtin.zeroCells z.cells (m + r - (0 + m)) : Array aJb) = (news ++ (Builtin.zeroCells z.cells (m + r - (0 + m))).toList).toArray := by
     apply Array.ext'; simp
    rw [e1]
    rfl
   unfold aC
   rw [this]
   refine hk _ _ ⟨by simp only [aHv]; rw [hnl, aGP], .inr ⟨w.heap.size, m + r, (Builtin.zeroCells z.cells (m + r - (0 + m))).toList, by rw [aGP], hb _ (aGZ _), cJ.alloc (dr w) _ _, ?_, by omega⟩⟩ ((aS.dr w _).seq (aS.alloc _ _ _))
   simp only [aHv, aGY, aH5, pZ, hzs, hnl]
   rw [show m + r - (0 + m) = r from by omega, aHQ]
 .by_cases hc : n + m <= c
  .have hroom : news.length <= rest.length := by
    rw [aGY, hlen] at h4
    have : (n + m) * sz <= c * sz := aHt _ hc
    rw [aHQ] at this; omega
   obtain ⟨w', s1, s2, s3, s4, _⟩ := Lp (P := P) (M := S) h2 news w (n * sz) 0 (l ++ rest) h3 (by rw [aGY, hlen]; omega) hone'
   have : (jS .append #[t, t2] ty [.slice (some ⟨b, 0, none⟩) n c, .int k m]).run P w = .ok (.value (.slice (some ⟨b, 0, none⟩) (n + m) c)) w' := by
    unfold jS builtin
    simp only [Builtin.append_, aHY, aGQ, aGR]
    simp only [underlying, typeInfo, Sem.run_bind, run_program, Result.andThen_ok, hu, hu2, hi, Sem.run_pure, gK hi, hsz, has, hmw, hm0, hmx, if_true, if_false, aGO, aHB, aGW, hc, hnw, Ek, aGP, s1]
   unfold aC
   rw [this]
   rw [aHI, <- hlen, Ml _ _ _ hroom] at s2
   refine hk _ _ ⟨by rw [aGY, hlen, hnl, aHQ], .inr ⟨b, c, rest.drop news.length, rfl, h2, s2, ?_, hc⟩⟩ s3
   rw [<- h4]; simp; omega
  .have hfit := growslice_fits (need := n + m) (old := c) (bytes := i.bytes) (by omega) hbytes
   have hfit' : ¬ (Builtin.nextslicecap (n + m) c * i.bytes > 2 ^ 48) := by omega
   have hq : (Question.appendCap (n + m) c e).forced = false := rfl
   obtain ⟨r, hr⟩ : ∃ r, (Question.appendCap (n + m) c e).cut (w.tape w.drawn (.appendCap (n + m) c e)) = n + m + r :=
    ⟨(w.tape w.drawn (.appendCap (n + m) c e)) % (2 ^ 63 - (n + m)), by simp only [Question.cut]⟩
   have hold : Cl (dr w) sz (.slice (some ⟨b, 0, none⟩) n c) n l := ⟨_, _, rfl, hlen, fun _ => ⟨b, 0, rfl, fun i hi => by
    show w.cell? _ = _
    rw [h3.cell, aGP, aG6 hi]⟩⟩
   have : (jS .append #[t, t2] ty [.slice (some ⟨b, 0, none⟩) n c, .int k m]).run P w = .ok (.value (.slice (some ⟨w.heap.size, 0, none⟩) (n + m) (n + m + r))) ((dr w).alloc (.cells (l ++ news ++ (Builtin.zeroCells z.cells (n + m + r - (n + m))).toList).toArray e)) := by
    have hfo := Ay (P := P) hold
    unfold jS builtin
    simp only [Builtin.append_, aHY, aGQ, aGR]
    simp only [underlying, typeInfo, Sem.run_bind, run_program, Result.andThen_ok, hu, hu2, hi, Sem.run_pure, gK hi, hsz, has, hmw, hm0, hmx, if_true, if_false, aGO, aHB, aGW, hc, hnot, false_and, hfit', run_choose, hq, hr, run_askRoom]
    change ((Sem.run P _ (dr w)).andThen _).andThen _ = _
    simp only [Sem.run_bind, hnw, hfo, Result.andThen_ok, hz', Sem.run_pure, newRow, run_newObj]
    have e1 : (l.toArray ++ news.toArray ++ Builtin.zeroCells z.cells (n + m + r - (n + m)) : Array aJb) = (l ++ news ++ (Builtin.zeroCells z.cells (n + m + r - (n + m))).toList).toArray := by
     apply Array.ext'; simp
    rw [e1]
    rfl
   unfold aC
   rw [this]
   refine hk _ _ ⟨by rw [aGY, hlen, hnl, aHQ], .inr ⟨w.heap.size, n + m + r, _, rfl, hb _ (aGZ _), cJ.alloc (dr w) _ _, ?_, by omega⟩⟩ ((aS.dr w _).seq (aS.alloc _ _ _))
   simp only [aGY, aH5, pZ, hzs, hnl, hlen]
   rw [show n + m + r - (n + m) = r from by omega, aHQ, aHQ]
end
end Go.En
namespace Go.Proofs.YtaggdjhhmbnhoaaDoor
open Go Go.En Go.Pu
set_option maxRecDepth 4000
theorem aDP {y : Nat} (h : y ≠ 0) : bl y = bl (y / 2) + 1 := by
 by_cases h2 : y / 2 = 0
 .obtain rfl : y = 1 := by omega
  decide
 .have a := Ua h2
  have b := Vw (y / 2)
  have c := GS h2
  obtain ⟨m, hm⟩ : ∃ m, bl (y / 2) = m + 1 := ⟨bl (y / 2) - 1, by omega⟩
  rw [hm, aHK] at a
  rw [hm] at b ⊢
  refine aBY ?_ ?_
  .rw [aHf]; omega
  .rw [aHf]; omega
theorem aD6 {x : Nat} (hx : x < 2 ^ 40) (w : aJa) : aR pg AF #[.int .i64 x] w (fun r w' => r = .int .i64 (bl x : Nat) /\ w' = w) := by
 refine afN ?_
 unfold agC Jr KK JV KV Jy
 have hb : bl x <= 40 := qT hx
 refine cG.rule (fun m (t : aJb × aJb) w' => ∃ n : Nat, t = (.int .i64 m, .int .i64 n) /\ bl m + n = bl x /\ m <= x /\ w' = w) x ⟨0, rfl, rfl, aGZ _, rfl⟩ ?_
 rintro m t w1 ⟨n, rfl, hn, hmx, rfl⟩
 unfold Dg
 by_cases h0 : m = 0
 .subst h0
  have d1 : decide ((0 : Int) < ((0 : Nat) : Int)) = false := rfl
  unfold DA
  have : n = bl x := by rw [<- hn]; simp [aDU]
  subst this
  simp (disch := omega) only [aC, dP, d1, DU, bM, aT, aA, true_and, and_true, aE]
 .have d1 : decide ((0 : Int) < (m : Int)) = true := by simp; omega
  have e1 : (m : Int).tdiv 2 = ((m / 2 : Nat) : Int) := by rw [aHj (by omega)]; omega
  have hh := aDP h0
  simp (disch := omega) only [aC, dP, d1, DU, e1, aT, bM, aA, and_true, aF]
  exact ⟨m / 2, by omega, n + 1, rfl, by omega, by omega⟩
theorem Uw {v : aJb} {L : List Bool} {st n : Nat} {w : aJa} (hs : Bl w v L) (hn : n <= 32) (hst : st <= L.length) (hl : L.length <= 10000000) :
 aR pg pM #[.agg #[v, .int .i64 st], .int .i64 n] w (fun r w' => ((L.length < st + n /\ r = .tuple #[.agg #[v, .int .i64 st], .int .u64 0, .int .i64 10]) ∨
  (st + n <= L.length /\ r = .tuple #[.agg #[v, .int .i64 (st + n : Nat)], .int .u64 (iX L st n : Nat), .int .i64 0])) /\ aS w w' cM) := by
 refine aiV ?_
 obtain ⟨a, c, rfl, hc⟩ := LU hs
 unfold anR NG
 refine fY fun w1 o1 x1 s1 => ?_
 refine yR fun w2 o2 x2 s2 => ?_
 simp only [Value.cells] at o1
 have o1 := o1.ext x2 (fun h => h)
 have c0 := o1.cell (off := 0)
 have c1 := o1.cell (off := 1)
 have l1 := fD (off := 0) o1 (by simp)
 simp only [aGQ, aGR, aGT, aGN, aGV] at c0 c1 l1
 have x02 : aS w w2 cM := x1.seq x2
 have d1 : decide ((n : Int) < 0) = false := by simp
 have d2 : decide ((32 : Int) < (n : Int)) = false := by simp; omega
 by_cases hsh : L.length < st + n
 .have d3 : decide ((L.length : Int) - (st : Int) < (n : Int)) = true := by simp; omega
  simp (disch := omega) only [aC, aX, d1, pL, lW, aGP, aA, bZ, sF, dG, bO, aGW, if_false, bP, dP, d2, l1, c0, aI, qS, c1, dZ, aT, d3, bM, aF, aE]
  refine dD o2 rfl (by simp [one]) (by simp) fun w3 o3 x3 s3 => ?_
  refine lI o3 (by simp [aV]) ?_
  simp only [aV, aGS, aGU, aGT, aGN, aGV]
  exact ⟨.inl ⟨hsh, by trivial⟩, x02.new x3 (by omega)⟩
 .have d3 : decide ((L.length : Int) - (st : Int) < (n : Int)) = false := by simp; omega
  have e1 : (st : Int) + (n : Int) = ((st + n : Nat) : Int) := by omega
  have hs2 := (hs.ext x02 (cD _)).drop' (k := st) (by omega)
  rw [<- aI3] at hs2
  have hs3 := aB9 hs2 (k := n) (by omega)
  rw [<- aIM] at hs3
  have e2 : st + n - st = n := by omega
  simp (disch := omega) only [aC, aX, d1, pL, lW, aGP, aA, bZ, sF, dG, bO, aGW, if_false, bP, dP, d2, c0, aI, qS, c1, dZ, aT, d3, bM, e1, HP, aGO, e2, aE]
  refine (agV hs3 (by rw [aG4]; omega)).mono ?_
  rintro r w3 ⟨rfl, rfl⟩
  simp (disch := omega) only [c1, aI, aA, bM, e1, aT]
  refine sH o1 rfl (by simp) fun w4 o4 x4 s4 => ?_
  simp only [aGS, aGU] at o4
  have l4 := fD (off := 0) o4 (by simp)
  simp only [aGT, aGN, aGV] at l4
  simp (disch := omega) only [l4, aA]
  refine dD (o2.ext x4 (by omega)) rfl (by simp [one]) (by simp) fun w5 o5 x5 s5 => ?_
  refine lI o5 (by simp [aV]) ?_
  simp only [aV, aGS, aGU, aGT, aGN, aGV]
  exact ⟨.inr ⟨by omega, by trivial⟩, (x02.new x4 (by omega)).new x5 (by omega)⟩
theorem aA8 {v : aJb} {st : Nat} {w : aJa} (hst : st <= 1000000000) : aR pg IE #[.agg #[v, .int .i64 st]] w (fun r w' => r = .int .i64 (((st + 7) / 8 : Nat)) /\ aS w w' cM) := by
 refine ajC ?_
 unfold anW MX
 refine fY fun w1 o1 x1 s1 => ?_
 simp only [Value.cells] at o1
 have c1 := o1.cell (off := 1)
 simp only [aGQ, aGR] at c1
 have e1 : ((st : Int) + 7).tdiv 8 = (((st + 7) / 8 : Nat) : Int) := by rw [aHj (by omega)]; omega
 simp (disch := omega) only [aC, lW, aGP, aA, bZ, c1, aI, bM, aT, DU, e1, true_and]
 exact x1
theorem aeH {left : Nat} (h0 : 0 < left) (h1 : left <= 32768) : ∃ m, bl (left + 1) = m + 1 /\ 1 <= m /\ m <= 16 /\ left + 1 < 2 ^ (m + 1) /\ 2 ^ m <= left + 1 /\ 2 ^ (m + 1) = 2 * 2 ^ m := by
 have hb2 := Ua (k := left + 1) (by omega)
 have hb3 := Vw (left + 1)
 have hb4 := qT (k := left + 1) (n := 17) (by omega)
 have hn : 2 <= bl (left + 1) := by
  rcases aHd (bl (left + 1)) 2 with h | h
  .have hb1 := GS (k := left + 1) (by omega)
   have : bl (left + 1) = 1 := by omega
   rw [this] at hb3; omega
  .exact h
 obtain ⟨m, hm⟩ : ∃ m, bl (left + 1) = m + 1 := ⟨bl (left + 1) - 1, by omega⟩
 rw [hm] at hb2 hb3 hb4 hn ⊢
 exact ⟨m, rfl, by omega, by omega, hb3, hb2, by rw [aHf, aHU]⟩
theorem atT (L : List Bool) (f st : Nat) : noR L (f + 1) st = if L.length < st + 2 then none else if iX L st 2 < 3 then some (iX L st 2, st + 2) else match noR L f (st + 2) with
 | none => none
 | some (k, st') => some (3 + k, st') := by rw [noR] <;> rfl
def aEJ (w : aJa) (lo hi : Nat) (l : List UInt8) (o : Option (Nat × Nat)) (r : aJb) : Prop := match o with
 | none => r = .tuple #[.int .i64 0, .int .i64 10]
 | some (v, st) => r = .tuple #[.int .i64 v, .int .i64 0] /\ Fwd w lo hi l st
theorem aDQ {l : List UInt8} {lo hi st left : Nat} {w : aJa} (h : Fwd w lo hi l st) (hlh : lo <= hi) (hst : st <= 8 * l.length) (hl : l.length <= 1000000) (h0 : 0 < left) (h1 : left <= 32768) :
 aR pg DL #[.pointer (some ⟨hi, 0, none⟩), .int .i64 left] w (fun r w' => aEJ w' lo hi l (Vj (bE l) st left) r /\ aS w w' (fun y => y = hi)) := by
 refine Zw ?_
 obtain ⟨m, hm, hm1, hm2, hf1, hf2, hf3⟩ := aeH h0 h1
 unfold Yg GU
 have e1 : (left : Int) + 1 = ((left + 1 : Nat) : Int) := by omega
 simp (disch := omega) only [aC, bM, e1, aT, aA, lD, hJ]
 refine (aCy (x := left + 1) (by omega) w).mono ?_
 rintro r w1 ⟨rfl, rfl⟩
 rw [hm]
 have e2 : ((m + 1 : Nat) : Int) - 1 = (m : Int) := by omega
 simp (disch := omega) only [dZ, e2, aT, mE, aGO, aA]
 refine (Ux (n := m) h hlh (by omega) hst hl).mono ?_
 have hbl := lQ l
 unfold Vj
 simp only [hm, aHK]
 rintro r w2 (⟨hsh, rfl, hf, x2⟩ | ⟨hsh, rfl, hf, x2⟩)
 .have n1 : ((10 : Int) != 0) = true := rfl
  rw [if_pos (by omega)]
  simp (disch := omega) only [Ch, B7, aA, eT, n1, aF]
  exact ⟨rfl, x2.mono fun _ _ h => h.elim⟩
 .have n1 : ((0 : Int) != 0) = false := rfl
  rw [if_neg (by omega)]
  have hlt := DD (bE l) st m
  have hnum : sP (((bE l).drop st).take m) = iX (bE l) st m := rfl
  rw [hnum]
  have hsh1 := arC (n := m + 1) (by omega)
  have hsh0 := arC (n := m) (by omega)
  have hp : 2 ^ m <= 2 ^ 16 := aG0 (by omega) hm2
  generalize iX (bE l) st m = low at *
  rw [hf3] at *
  generalize hq : 2 ^ m = q at *
  have e3 : ((2 * q : Nat) : Int) - 2 - (left : Int) = ((2 * q - 2 - left : Nat) : Int) := by omega
  by_cases hfr : low < 2 * q - 2 - left
  .have d1 : decide ((low : Int) < ((2 * q - 2 - left : Nat) : Int)) = true := by simp only [decide_eq_true_eq]; omega
   rw [if_pos hfr]
   simp (disch := omega) only [Ch, B7, hsh1, aT, e3, aA, eT, n1, aE, cZ, bM, dZ, aX, d1, aF]
   exact ⟨⟨rfl, hf⟩, x2⟩
  .have d1 : decide ((low : Int) < ((2 * q - 2 - left : Nat) : Int)) = false := by simp only [decide_eq_false_iff_not]; omega
   rw [if_neg hfr]
   simp (disch := omega) only [Ch, B7, hsh1, aT, e3, aA, eT, n1, aE, cZ, bM, dZ, aX, d1]
   refine (Ux (n := 1) hf hlh (by omega) hsh hl).mono ?_
   rintro r w3 (⟨hs3, rfl, hf3, x3⟩ | ⟨hs3, rfl, hf3, x3⟩)
   .have n1 : ((10 : Int) != 0) = true := rfl
    rw [if_pos (by omega)]
    simp (disch := omega) only [Ch, B7, aA, eT, n1, aF]
    exact ⟨rfl, x2.seq (x3.mono fun _ _ h => h.elim)⟩
   .rw [if_neg (by omega)]
    have hnum : sP (((bE l).drop (st + m)).take 1) = iX (bE l) (st + m) 1 := rfl
    rw [hnum]
    by_cases hz : iX (bE l) (st + m) 1 = 0
    .have n2 : (((iX (bE l) (st + m) 1 : Nat) : Int) == 0) = true := by rw [hz] <;> rfl
     rw [if_pos hz]
     simp (disch := omega) only [Ch, B7, aA, eT, n1, aE, cW, n2, aF]
     exact ⟨⟨rfl, hf3⟩, x2.seq x3⟩
    .have n2 : (((iX (bE l) (st + m) 1 : Nat) : Int) == 0) = false := beq_eq_false_iff_ne.2 (by omega)
     have e4 : (low : Int) + (q : Int) - ((2 * q - 2 - left : Nat) : Int) = ((low + q - (2 * q - 2 - left) : Nat) : Int) := by omega
     rw [if_neg hz]
     simp (disch := omega) only [Ch, B7, hsh0, e4, aA, eT, n1, aE, cW, n2]
     exact ⟨⟨rfl, hf3⟩, x2.seq x3⟩
theorem aBw {l : List UInt8} {lo hi st : Nat} {w : aJa} (h : Fwd w lo hi l st) (hlh : lo <= hi) (hst : st <= 8 * l.length) (hl : l.length <= 1000000) :
 aR pg zD #[.pointer (some ⟨hi, 0, none⟩)] w (fun r w' => aEJ w' lo hi l (noR (bE l) ((bE l).length + 1) st) r /\ aS w w' (fun y => y = hi)) := by
 refine Vi ?_
 have hbl := lQ l
 unfold SJ BB CW Cu LG DE Dw CV Db
 refine cG.rule (fun m (t : aJb) w' => ∃ k0 st' : Nat, t = .int .i64 k0 /\ noR (bE l) ((bE l).length + 1) st = (match noR (bE l) m st' with | none => none | some (k, s) => some (k0 + k, s)) /\ (bE l).length < 2 * m + st' /\ st' <= 8 * l.length /\ k0 <= 3 * st' /\ Fwd w' lo hi l st' /\ aS w w' (fun y => y = hi)) ((bE l).length + 1)
  ⟨0, st, rfl, by cases noR (bE l) ((bE l).length + 1) st with
    | none => rfl
    | some x => simp, by omega, hst, by omega, h, aS.refl _ _⟩ ?_
 rintro m t w1 ⟨k0, st', rfl, hr, hm, hs', hk0, hf, x1⟩
 obtain ⟨m, rfl⟩ : ∃ m', m = m' + 1 := ⟨m - 1, by omega⟩
 unfold wQ
 refine (Ux (n := 2) hf hlh (by omega) hs' hl).mono ?_
 rw [atT (bE l) m st'] at hr
 rintro r w2 (⟨hsh, rfl, hf2, x2⟩ | ⟨hsh, rfl, hf2, x2⟩)
 .have n1 : ((10 : Int) != 0) = true := rfl
  rw [if_pos (by omega)] at hr
  rw [hr]
  simp (disch := omega) only [aC, Ch, B7, aA, eT, n1, aF]
  exact ⟨rfl, x1.seq (x2.mono fun _ _ h => h.elim)⟩
 .have n1 : ((0 : Int) != 0) = false := rfl
  rw [if_neg (by omega)] at hr
  have hlt := DD (bE l) st' 2
  have hnum : sP (((bE l).drop st').take 2) = iX (bE l) st' 2 := rfl
  rw [hnum]
  generalize iX (bE l) st' 2 = x at *
  have e1 : (k0 : Int) + (x : Int) = ((k0 + x : Nat) : Int) := by omega
  by_cases h3 : x < 3
  .have d1 : decide ((x : Int) < 3) = true := by simp; omega
   rw [if_pos h3] at hr
   rw [hr]
   unfold wT
   simp (disch := omega) only [aC, Ch, B7, aA, eT, n1, aE, cZ, aT, aX, d1, aF, bM, e1]
   exact ⟨⟨rfl, hf2⟩, x1.seq x2⟩
  .have d1 : decide ((x : Int) < 3) = false := by simp; omega
   rw [if_neg h3] at hr
   simp (disch := omega) only [aC, Ch, B7, aA, eT, n1, aE, cZ, aT, aX, d1, bM, e1]
   refine ⟨m, by omega, k0 + x, st' + 2, rfl, ?_, by omega, by omega, by omega, hf2, x1.seq x2⟩
   rw [hr]
   cases noR (bE l) m (st' + 2) with
   | none => rfl
   | some y =>
     obtain ⟨k, s⟩ := y
     have : x = 3 := by omega
     subst this
     simp; omega
def ayW (v : aJb) (o : Option (Nat × Nat)) (r : aJb) : Prop := match o with
 | none => ∃ st' : Nat, r = .tuple #[.agg #[v, .int .i64 st'], .int .i64 0, .int .i64 10]
 | some (x, st) => r = .tuple #[.agg #[v, .int .i64 st], .int .i64 x, .int .i64 0]
theorem aA0 {v : aJb} {L : List Bool} {st left : Nat} {w : aJa} (hs : Bl w v L) (hst : st <= L.length) (hl : L.length <= 10000000) (h0 : 0 < left) (h1 : left <= 32768) :
 aR pg Ix #[.agg #[v, .int .i64 st], .int .i64 left] w (fun r w' => ayW v (Vj L st left) r /\ aS w w' cM) := by
 refine aiN ?_
 obtain ⟨m, hm, hm1, hm2, hf1, hf2, hf3⟩ := aeH h0 h1
 obtain ⟨a, c, rfl, hc⟩ := LU hs
 unfold alR M8
 refine fY fun w1 o1 x1 s1 => ?_
 refine yR fun w2 o2 x2 s2 => ?_
 simp only [Value.cells] at o1
 have o1 := o1.ext x2 (fun h => h)
 have l1 := fD (off := 0) o1 (by simp)
 simp only [aGT, aGN, aGV] at l1
 have x02 : aS w w2 cM := x1.seq x2
 have e1 : (left : Int) + 1 = ((left + 1 : Nat) : Int) := by omega
 have hw1 : w.heap.size <= w.heap.size := aGZ _
 have hw2 : w.heap.size <= w1.heap.size := x1.size
 have hne : w.heap.size ≠ w1.heap.size := by omega
 obtain ⟨p1, hp1⟩ : ∃ p1, p1 = w.heap.size := ⟨_, rfl⟩
 obtain ⟨p2, hp2⟩ : ∃ p2, p2 = w1.heap.size := ⟨_, rfl⟩
 rw [<- hp1, <- hp2] at hne
 rw [<- hp1] at o1 l1 ⊢
 rw [<- hp2] at o2 hw2 ⊢
 simp (disch := omega) only [aC, bM, e1, aT, aA]
 refine (aD6 (x := left + 1) (by omega) w2).mono ?_
 rintro r w3 ⟨rfl, rfl⟩
 rw [hm]
 have e2 : ((m + 1 : Nat) : Int) - 1 = (m : Int) := by omega
 simp (disch := omega) only [l1, dZ, e2, aT, aA]
 unfold Vj
 simp only [hm, aHK]
 refine (Uw (n := m) (hs.ext x02 (cD _)) (by omega) hst hl).mono ?_
 have fin : ∀ (st' : Nat) (xv : Int) (ev : Int) (w' : aJa) (RR : aJb -> aJa -> Prop), cJ w' p1 [.slice a L.length c, .int .i64 st'] -> cJ w' p2 [.slice none 0 0, .int .i64 0] -> aS w w' cM →
     (∀ w'', aS w w'' cM -> RR (.tuple #[.agg #[.slice a L.length c, .int .i64 st'], .int .i64 xv, .int .i64 ev]) w'') →
     aC pg (aH 164 (.pointer (some ⟨p1, 0, none⟩))) w' fun t15 w => aC pg (aJ 164 (.pointer (some ⟨p2, 0, none⟩)) t15) w fun _u w => kC pg 164 (.pointer (some ⟨p2, 0, none⟩)) w fun r0 => RR (.tuple #[r0, .int .i64 xv, .int .i64 ev]) w := by
  intro st' xv ev w' RR q1 q2 qx qk
  have l1 := fD (off := 0) q1 (by simp)
  simp only [aGT, aGN, aGV] at l1
  simp (disch := omega) only [aC, l1, aA]
  refine dD q2 rfl (by simp [one]) (by simp) fun w6 o6 x6 s6 => ?_
  refine lI o6 (by simp [aV]) ?_
  simp only [aV, aGS, aGU, aGT, aGN, aGV]
  exact qk _ (qx.new x6 hw2)
 have hx1 : w.heap.size <= p1 := by omega
 rintro r w4 ⟨⟨hsh, rfl⟩ | ⟨hsh, rfl⟩, x4⟩
 .have n1 : ((10 : Int) != 0) = true := rfl
  rw [if_pos (by omega)]
  simp (disch := omega) only [SE, SF, SD, aA, eT, cZ, aT]
  refine dD (o1.ext x4 (fun h => h)) rfl (by simp [one]) (by simp) fun w5 o5 x5 s5 => ?_
  simp only [aV, aGS, aGU] at o5
  simp (disch := omega) only [n1, aF]
  exact fin st 0 10 w5 (fun r w' => ayW (.slice a L.length c) none r /\ aS w w' cM) o5 ((o2.ext x4 (fun h => h)).ext x5 (by omega)) ((x02.seq x4).new x5 hx1) fun w6 x6 => ⟨⟨_, rfl⟩, x6⟩
 .have n1 : ((0 : Int) != 0) = false := rfl
  rw [if_neg (by omega)]
  have hlt := DD L st m
  have hsh1 : m + 1 <= 40 := by omega
  have hp : 2 ^ m <= 2 ^ 16 := aG0 (by omega) hm2
  simp (disch := omega) only [SE, SF, SD, aA, eT, cZ, aT]
  refine dD (o1.ext x4 (fun h => h)) rfl (by simp [one]) (by simp) fun w5 o5 x5 s5 => ?_
  simp only [aV, aGS, aGU] at o5
  have x05 : aS w w5 cM := (x02.seq x4).new x5 hx1
  have o25 := (o2.ext x4 (fun h => h)).ext x5 (by omega)
  simp (disch := omega) only [n1, aE]
  refine (Um m (by omega) _).mono ?_
  rintro r w6 ⟨rfl, rfl⟩
  have hpow : ((2 ^ m : Nat) : Int) = (2 : Int) ^ m := by simp
  rw [<- hpow]
  generalize iX L st m = low at *
  rw [hf3] at *
  generalize hq : 2 ^ m = q at *
  have e3 : 2 * (q : Int) - 2 - (left : Int) = ((2 * q - 2 - left : Nat) : Int) := by omega
  by_cases hfr : low < 2 * q - 2 - left
  .have d1 : decide ((low : Int) < ((2 * q - 2 - left : Nat) : Int)) = true := by simp only [decide_eq_true_eq]; omega
   rw [if_pos hfr]
   have l5 := fD (off := 0) o5 (by simp)
   simp only [aGT, aGN, aGV] at l5
   simp (disch := omega) only [pH, aT, bM, aA, dZ, e3, aX, d1, l5, aF]
   refine dD o25 rfl (by simp [one]) (by simp) fun w7 o7 x7 s7 => ?_
   refine lI o7 (by simp [aV]) ?_
   simp only [aV, aGS, aGU, aGT, aGN, aGV]
   exact ⟨rfl, x05.new x7 hw2⟩
  .have d1 : decide ((low : Int) < ((2 * q - 2 - left : Nat) : Int)) = false := by simp only [decide_eq_false_iff_not]; omega
   rw [if_neg hfr]
   have l5 := fD (off := 0) o5 (by simp)
   simp only [aGT, aGN, aGV] at l5
   simp (disch := omega) only [pH, aT, bM, aA, dZ, e3, aX, d1, l5, aE]
   refine (Uw (n := 1) (hs.ext x05 (cD _)) (by omega) hsh hl).mono ?_
   rintro r w7 ⟨⟨hs3, rfl⟩ | ⟨hs3, rfl⟩, x7⟩
   .have n1 : ((10 : Int) != 0) = true := rfl
    rw [if_pos (by omega)]
    simp (disch := omega) only [SE, SF, SD, aA, eT, cW]
    refine dD (o5.ext x7 (fun h => h)) rfl (by simp [one]) (by simp) fun w8 o8 x8 s8 => ?_
    simp only [aV, aGS, aGU] at o8
    simp (disch := omega) only [n1, aF]
    exact fin _ 0 10 w8 (fun r w' => ayW (.slice a L.length c) none r /\ aS w w' cM) o8 ((o25.ext x7 (fun h => h)).ext x8 (by omega)) ((x05.seq x7).new x8 hx1) fun w6 x6 => ⟨⟨_, rfl⟩, x6⟩
   .rw [if_neg (by omega)]
    have hb1 := DD L (st + m) 1
    simp (disch := omega) only [SE, SF, SD, aA, eT, cW]
    refine dD (o5.ext x7 (fun h => h)) rfl (by simp [one]) (by simp) fun w8 o8 x8 s8 => ?_
    simp only [aV, aGS, aGU] at o8
    have x08 : aS w w8 cM := (x05.seq x7).new x8 hx1
    have o28 := (o25.ext x7 (fun h => h)).ext x8 (by omega)
    have l8 := fD (off := 0) o8 (by simp)
    simp only [aGT, aGN, aGV] at l8
    by_cases hz : iX L (st + m) 1 = 0
    .have n2 : (((iX L (st + m) 1 : Nat) : Int) == 1) = false := by rw [hz] <;> rfl
     rw [if_pos hz]
     simp (disch := omega) only [n1, l8, aA, n2, aE]
     refine dD o28 rfl (by simp [one]) (by simp) fun w9 o9 x9 s9 => ?_
     refine lI o9 (by simp [aV]) ?_
     simp only [aV, aGS, aGU, aGT, aGN, aGV]
     exact ⟨rfl, x08.new x9 hw2⟩
    .have n2 : (((iX L (st + m) 1 : Nat) : Int) == 1) = true := by rw [show iX L (st + m) 1 = 1 from by omega] <;> rfl
     have e4 : (low : Int) + (q : Int) - ((2 * q - 2 - left : Nat) : Int) = ((low + q - (2 * q - 2 - left) : Nat) : Int) := by omega
     rw [if_neg hz]
     simp (disch := omega) only [n1, l8, aA, n2, e4, aF, aE]
     refine dD o28 rfl (by simp [one]) (by simp) fun w9 o9 x9 s9 => ?_
     refine lI o9 (by simp [aV]) ?_
     simp only [aV, aGS, aGU, aGT, aGN, aGV]
     exact ⟨rfl, x08.new x9 hw2⟩
theorem amC (L : List Bool) (sym f st left : Nat) (ps : List Int) : U7 L sym (f + 1) st left ps = if left = 0 then .ok (ps, st) else match Vj L st left with
 | none => .error 10
 | some (v, st1) =>
   if v = 1 then match noR L (L.length + 1) st1 with
     | none => .error 10
     | some (k, st2) => if sym < ps.length + 1 + k then .error 11 else U7 L sym f st2 left (ps ++ 0 :: List.replicate k 0)
   else if sym < ps.length + 1 then .error 11 else U7 L sym f st1 (left - (cR ((v : Int) - 1)).toNat) (ps ++ [(v : Int) - 1]) := by rw [U7] <;> rfl
theorem asL (k : Nat) : (Builtin.zeroCells (Value.int .i64 0).cells k).toList = List.replicate k (Value.int .i64 0) := by
 apply aHN
 .rw [aH5, pZ, aH9]; simp [Value.cells]
 .intro i h1 h2
  simp [Builtin.zeroCells, Value.cells, Nat.mod_one]
theorem aDF {n m base : Nat} {ty : TypeId} {w : aJa} {v : aJb} {l : List aJb} (h : sN w base 1 v n l) (hb : base <= w.heap.size) (hn : (n + m) * 8 <= 140737488355328) {K : aJb -> aJa -> Prop}
 (hk : ∀ v' w', sN w' base 1 v' (n + m) (l ++ List.replicate m (.int .i64 0)) -> aS w w' (fun y => base <= y) -> K v' w') : aC pg (jS .append #[77, 3] ty [v, .int .i64 m]) w K :=
 atP (i := Tryd.t3) (S := fun y => base <= y) Tryd.underlying77 Tryd.underlying3 Cn rfl rfl rfl h (by decide) (by intro y hy; simp [Value.cells] at hy; subst hy; rfl) (fun b hbb => aHS hb hbb) (by omega) (by rw [show Tryd.t3.bytes = 8 from rfl]; omega) (by rw [show Tryd.t3.bytes = 8 from rfl]; omega)
  (fun v' w' o x => hk v' w' (by rw [<- asL]; exact o) x)
def Y2 (w : aJa) (base : Nat) (o : Except Int (Nat × List Int × Nat)) (r : aJb) : Prop := match o with
 | .error e => r = .tuple #[.agg #[.int .i64 0, .slice none 0 0], .int .i64 0, .int .i64 e]
 | .ok (log, ps, used) => ∃ v, r = .tuple #[.agg #[.int .i64 log, v], .int .i64 used, .int .i64 0] /\ sN w base 1 v ps.length (ps.map (Value.int .i64))
theorem QH {p6 : Nat} {w0 w : aJa} {e : Int} (o6 : cJ w p6 [.int .i64 0, .slice none 0 0]) (hx : aS w0 w cM) (hp : w0.heap.size <= p6) {RR : aJb -> aJa -> Prop}
 (hR : ∀ w', aS w0 w' cM -> RR (.tuple #[.agg #[.int .i64 0, .slice none 0 0], .int .i64 0, .int .i64 e]) w') :
 aC pg (aJ 145 (.pointer (some ⟨p6, 0, none⟩)) (.agg #[.int .i64 0, .slice none 0 0])) w fun _u w => kC pg 145 (.pointer (some ⟨p6, 0, none⟩)) w fun r0 => RR (.tuple #[r0, .int .i64 0, .int .i64 e]) w := by
 refine eX o6 rfl (by simp [one]) (by simp) fun w6 o6 x6 s6 => ?_
 refine lE o6 (by simp [aV]) ?_
 simp only [aV, aGS, aGU, aGT, aGN, aGV]
 exact hR _ (hx.new x6 hp)
theorem aAH {l : List UInt8} {log lo hi p6 pc sym : Nat} {w0 w : aJa} {res : Except Int (List Int × Nat)} (hlh : lo <= hi) (hlp : w0.heap.size <= p6) (hl : l.length <= 1000000) (h6 : p6 < lo) (hhp : hi < pc) (hsym : sym <= 1000000) (hlog : log <= 15)
 (o6 : cJ w p6 [.int .i64 0, .slice none 0 0]) (oc : cJ w pc [.int .i64 log, .slice none 0 0]) (hf : Fwd w lo hi l 4) (h4 : 4 <= 8 * l.length) (hx : aS w0 w cM)
 (hres : U7 (bE l) sym ((bE l).length + 1) 4 (2 ^ log) [] = res)
 {RR : aJb -> aJa -> Prop} (hE : ∀ e w', res = .error e -> aS w0 w' cM -> RR (.tuple #[.agg #[.int .i64 0, .slice none 0 0], .int .i64 0, .int .i64 e]) w')
 (hO : ∀ ps st v w', res = .ok (ps, st) -> sN w' w0.heap.size 1 v ps.length (ps.map (Value.int .i64)) -> aS w0 w' cM -> RR (.tuple #[.agg #[.int .i64 log, v], .int .i64 (((st + 7) / 8 : Nat)), .int .i64 0]) w') :
 AO RR (.int .i64 sym) (.pointer (some ⟨p6, 0, none⟩)) (.pointer (some ⟨hi, 0, none⟩)) (.pointer (some ⟨pc, 0, none⟩)) (.int .i64 (2 ^ log : Nat)) w := by
 have hbl := lQ l
 have hp15 : 2 ^ log <= 2 ^ 15 := aG0 (by omega) hlog
 unfold AO JD Kk
 have lpc := oc.lt
 refine cG.rule (fun m (t : aJb) w' => ∃ (st left : Nat) (ps : List Int) (v : aJb), t = .int .i64 left /\ U7 (bE l) sym m st left ps = res /\ (bE l).length < m + st /\ st <= 8 * l.length /\ left <= 32768 /\ ps.length <= 1000000 /\
  cJ w' p6 [.int .i64 0, .slice none 0 0] /\ cJ w' pc [.int .i64 log, v] /\ sN w' (pc + 1) 1 v ps.length (ps.map (Value.int .i64)) /\ Fwd w' lo hi l st /\ aS w w' (fun y => y = hi ∨ pc <= y)) ((bE l).length + 1)
  ⟨4, 2 ^ log, [], _, rfl, hres, by omega, h4, by omega, by simp, o6, oc, sN.nil _ _ _, hf, aS.refl _ _⟩ ?_
 rintro m t w1 ⟨st, left, ps, v, rfl, hr, hm, hst, hleft, hpl, o61, oc1, ov, hf1, x1⟩
 have z1 := x1.size
 have hx0 := hx.size
 have hx1 : ∀ {w' : aJa}, aS w w' (fun y => y = hi ∨ pc <= y) -> aS w0 w' cM := fun h => hx.trans h fun b hb hh => by omega
 obtain ⟨m, rfl⟩ : ∃ m', m = m' + 1 := ⟨m - 1, by omega⟩
 rw [amC] at hr
 obtain ⟨av, cv, hv⟩ := ov.len
 unfold DC Lm
 by_cases h0 : left = 0
 .have d1 : decide ((0 : Int) < (left : Int)) = false := by simp; omega
  rw [if_pos h0] at hr
  subst hv
  have lc := gG (off := 0) (dO oc1) (by simp)
  have lc' := gG (off := 0) oc1 (by simp)
  simp only [aGT, aGN, aGV] at lc lc'
  unfold CP
  simp (disch := omega) only [aC, dP, d1, eC, and_true, true_and, aA, lc, aE]
  refine (aAK (hf1.ext (aS.dr w1 cM) (fun _ _ _ h => h) hlh) (by omega)).mono ?_
  rintro r w2 ⟨rfl, rfl⟩
  simp (disch := omega) only [lc, true_and]
  refine eX (dO o61) rfl (by simp [one]) (by simp) fun w6 o6 x6 s6 => ?_
  refine lE o6 (by simp [aV]) ?_
  simp only [aV, aGS, aGU, aGT, aGN, aGV]
  have x16 : aS w1 w6 (fun y => y = p6) := (aS.dr w1 _).seq x6
  have ov6 := ov.ext x16 (fun b hb h => by omega)
  refine hO ps st _ w6 hr.symm ⟨ov6.1, ?_⟩ ((hx1 x1).new x16 (by omega))
  rcases ov6.2 with h | ⟨b, c, rest, q1, q2, q3⟩
  .exact .inl h
  .exact .inr ⟨b, c, rest, q1, by omega, q3⟩
 .have d1 : decide ((0 : Int) < (left : Int)) = true := by simp; omega
  rw [if_neg h0] at hr
  simp (disch := omega) only [aC, dP, d1, aA, aF]
  unfold I9 Tn Kc
  refine (aDQ hf1 hlh hst hl (by omega) hleft).mono ?_
  rintro r w2 ⟨hv2, x2⟩
  have x12 : aS w w2 (fun y => y = hi ∨ pc <= y) := x1.seq (x2.mono fun y _ h => .inl h)
  have o62 := o61.ext x2 (by omega)
  have oc2 := oc1.ext x2 (by omega)
  have ov2 := ov.ext x2 (fun b hb h => by omega)
  have z2 := x2.size
  cases hval : Vj (bE l) st left with
  | none =>
    rw [hval] at hr hv2
    obtain rfl := hv2
    have n1 : ((10 : Int) != 0) = true := rfl
    simp (disch := omega) only [aC, Ch, B7, dY, aA, bK, aGP, cL, eT, n1, aF]
    exact QH (RR := RR) (e := 10) o62 (hx1 x12) hlp fun w' h => hE _ _ hr.symm h
  | some y =>
    obtain ⟨x, st1⟩ := y
    rw [hval] at hr hv2
    simp only at hr
    obtain ⟨rfl, hf2⟩ := hv2
    obtain ⟨b1, b2, b3⟩ := Uk hval (by omega)
    have n1 : ((0 : Int) != 0) = false := rfl
    simp (disch := omega) only [aC, Ch, B7, dY, aA, bK, aGP, cL, eT, n1, aE, dZ, aT, cW]
    refine (akD _ _).mono ?_
    rintro r w3 ⟨rfl, rfl⟩
    have c1 := oc2.cell (off := 1)
    simp only [aGQ, aGR] at c1
    have hpp : cR ((x : Int) - 1) <= left := by unfold cR; split <;> omega
    have hpn := lK (p := (x : Int) - 1) (by omega)
    obtain ⟨pq, hpq⟩ : ∃ pq : Nat, cR ((x : Int) - 1) = pq := ⟨(cR ((x : Int) - 1)).toNat, by omega⟩
    rw [hpq] at hr hpp ⊢
    rw [aGO] at hr
    have e1 : (left : Int) - (pq : Int) = ((left - pq : Nat) : Int) := by omega
    simp (disch := omega) only [dZ, e1, aT, aA, c1, aI]
    refine wC (cells := #[.int .i64 ((x : Int) - 1)]) (by decide) (by decide) (by kernel_rfl) fun w4 o4 x4 s4 => ?_
    have z4 := x4.size
    refine EJ (m := 1) (news := [.int .i64 ((x : Int) - 1)]) (ov2.ext x4 (fun _ _ h => h)) (o4.cl (off := 0) (l := [.int .i64 ((x : Int) - 1)]) (n := 1) rfl (fun i hi => by rw [aGP])) (by simp [one]) (by omega) (by omega) fun v5 w5 o5 x5 => ?_
    have z5 := x5.size
    obtain ⟨av5, cv5, rfl⟩ := o5.len
    have oc5 := (oc2.ext x4 (fun h => h)).ext x5 (by omega)
    refine Ul oc5 rfl (by simp) fun w6 oc6 x6 s6 => ?_
    simp only [aGS, aGU] at oc6
    have z6 := x6.size
    have ov6 := o5.ext x6 (fun b hb h => by omega)
    have x26 : aS w3 w6 (fun y => pc <= y) := ((x4.mono fun _ _ h => h.elim).seq (x5.mono fun y _ h => by omega)).seq (x6.mono fun y _ h => by omega)
    have x16 : aS w w6 (fun y => y = hi ∨ pc <= y) := x12.seq (x26.mono fun y _ h => .inr h)
    have o66 := o62.ext x26 (by omega)
    have hf6 := hf2.ext x26 (fun b _ _ => by omega) hlh
    have hsz : pc < w6.heap.size := oc6.lt
    rw [show (ps.map (Value.int .i64) ++ [Value.int .i64 ((x : Int) - 1)]) = (ps ++ [(x : Int) - 1]).map (Value.int .i64) from by simp] at ov6
    have hwl : IntKind.i64.wrap (left : Int) = left := aT (by omega) (by omega)
    have tail : ∀ (ps' : List Int) (st' left' : Nat) (a : Option Addr) (cc : Nat) (w' : aJa), (if sym < ps'.length then .error 11 else U7 (bE l) sym m st' left' ps') = res -> ps'.length <= 10000000 -> left' <= 32768 -> st < st' -> st' <= 8 * l.length →
        cJ w' p6 [.int .i64 0, .slice none 0 0] -> cJ w' pc [.int .i64 log, .slice a ps'.length cc] -> sN w' (pc + 1) 1 (.slice a ps'.length cc) ps'.length (ps'.map (Value.int .i64)) -> Fwd w' lo hi l st' -> aS w w' (fun y => y = hi ∨ pc <= y) →
        yZ (fun _ _ _ _ aU w'' => ∃ m', m' < m + 1 /\ ∃ (st left : Nat) (ps : List Int) (v : aJb), aU = .int .i64 left /\ U7 (bE l) sym m' st left ps = res /\ (bE l).length < m' + st /\ st <= 8 * l.length /\ left <= 32768 /\ ps.length <= 1000000 /\
         cJ w'' p6 [.int .i64 0, .slice none 0 0] /\ cJ w'' pc [.int .i64 log, v] /\ sN w'' (pc + 1) 1 v ps.length (ps.map (Value.int .i64)) /\ Fwd w'' lo hi l st /\ aS w w'' (fun y => y = hi ∨ pc <= y)) RR
         (.int .i64 sym) (.pointer (some ⟨p6, 0, none⟩)) (.pointer (some ⟨hi, 0, none⟩)) (.pointer (some ⟨pc, 0, none⟩)) (.int .i64 left') w' := by
     intro ps' st' left' a cc w' q1 q2 q3 q4 q5 q6 q7 q8 q9 q10
     have c1 := q7.cell (off := 1)
     simp only [aGQ, aGR] at c1
     unfold yZ
     by_cases hgt : sym < ps'.length
     .have d1 : decide ((sym : Int) < (ps'.length : Int)) = true := by simp; omega
      rw [if_pos hgt] at q1
      simp (disch := omega) only [aC, bK, aGP, dY, aA, cL, c1, aI, eA, dP, d1, jE, bO, if_true, aF, dV]
      exact QH (RR := RR) (e := 11) q6 (hx1 q10) hlp fun w' h => hE _ _ q1.symm h
     .have d1 : decide ((sym : Int) < (ps'.length : Int)) = false := by simp; omega
      have d2 : decide ((left' : Int) < 0) = false := by simp
      rw [if_neg hgt] at q1
      simp (disch := omega) only [aC, bK, aGP, dY, aA, cL, c1, aI, eA, dP, d1, dG, bO, aGW, if_false, bP, aX, d2, aE]
      exact ⟨m, by omega, st', left', ps', _, rfl, q1, by omega, q5, q3, by omega, q6, q7, q8, q9, q10⟩
    by_cases h1 : x = 1
    .subst h1
     have n2 : (((1 : Nat) : Int) - 1 == 0) = true := rfl
     obtain rfl : pq = 0 := by
      have : cR (((1 : Nat) : Int) - 1) = 0 := rfl
      omega
     rw [if_pos rfl] at hr
     simp (disch := omega) only [n2, aF]
     refine (aBw hf6 hlh (by omega) hl).mono ?_
     rintro r w7 ⟨hv7, x7⟩
     have x17 : aS w w7 (fun y => y = hi ∨ pc <= y) := x16.seq (x7.mono fun y _ h => .inl h)
     have o67 := o66.ext x7 (by omega)
     have oc7 := oc6.ext x7 (by omega)
     have ov7 := ov6.ext x7 (fun b hb h => by omega)
     have z7 := x7.size
     cases hno : noR (bE l) ((bE l).length + 1) st1 with
     | none =>
       rw [hno] at hr hv7
       obtain rfl := hv7
       have n1 : ((10 : Int) != 0) = true := rfl
       simp (disch := omega) only [Ch, B7, aA, eT, n1, aF]
       exact QH (RR := RR) (e := 10) o67 (hx1 x17) hlp fun w' h => hE _ _ hr.symm h
     | some y =>
       obtain ⟨k, st2⟩ := y
       rw [hno] at hr hv7
       simp only at hr
       obtain ⟨rfl, hf7⟩ := hv7
       obtain ⟨k1, k2, k3⟩ := akL hno
       have n1 : ((0 : Int) != 0) = false := rfl
       by_cases hgt : sym < k
       .have d1 : decide ((sym : Int) < (k : Int)) = true := by simp; omega
        rw [if_pos (by omega)] at hr
        simp (disch := omega) only [Ch, B7, aA, eT, n1, aE, dP, d1, aF]
        exact QH (RR := RR) (e := 11) o67 (hx1 x17) hlp fun w' h => hE _ _ hr.symm h
       .have d1 : decide ((sym : Int) < (k : Int)) = false := by simp; omega
        have c7 := oc7.cell (off := 1)
        simp only [aGQ, aGR] at c7
        simp (disch := omega) only [Ch, B7, aA, eT, n1, aE, dP, d1, c7, aI]
        refine aDF (m := k) ov7 (by omega) (by omega) fun v8 w8 o8 x8 => ?_
        obtain ⟨av8, cv8, rfl⟩ := o8.len
        have z8 := x8.size
        refine Ul (oc7.ext x8 (by omega)) rfl (by simp) fun w9 oc9 x9 s9 => ?_
        simp only [aGS, aGU] at oc9
        have z9 := x9.size
        have x79 : aS w7 w9 (fun y => pc <= y) := (x8.mono fun y _ h => by omega).seq (x9.mono fun y _ h => by omega)
        have ov9 := o8.ext x9 (fun b hb h => by omega)
        have hlk : ps.length + 1 + k = (ps ++ 0 :: List.replicate k 0).length := by simp; omega
        have hmk : List.map (Value.int .i64) (ps ++ [((1 : Nat) : Int) - 1]) ++ List.replicate k (Value.int .i64 0) = (ps ++ 0 :: List.replicate k 0).map (Value.int .i64) := by simp
        rw [hmk, hlk] at ov9
        rw [hlk] at hr oc9
        refine tail _ st2 left _ _ w9 hr (by rw [<- hlk]; omega) hleft (by omega) (by omega) (o67.ext x79 (by omega)) oc9 ov9 (hf7.ext x79 (fun b _ _ => by omega) hlh) (x17.seq (x79.mono fun y _ h => .inr h))
    .have n2 : ((x : Int) - 1 == 0) = false := beq_eq_false_iff_ne.2 (by omega)
     rw [if_neg h1] at hr
     simp (disch := omega) only [n2, aE]
     rw [show ps.length + 1 = (ps ++ [(x : Int) - 1]).length from by simp] at hr ov6 oc6
     exact tail _ st1 _ _ _ w6 hr (by simp; omega) (by omega) b1 (by omega) o66 oc6 ov6 hf6 x16
theorem axL {bv : aJb} {l : List UInt8} {most : Int} {sym : Nat} {w : aJa} (hb : Bs w bv l) (hl : l.length <= 1000000) (hsym : sym <= 1000000) :
 aR pg Fj #[bv, .int .i64 most, .int .i64 sym] w (fun r w' => Y2 w' w.heap.size (vV (bE l) most sym) r /\ aS w w' cM) := by
 refine aaS ?_
 obtain ⟨RR, hRR⟩ : ∃ RR : aJb -> aJa -> Prop, RR = fun r w' => Y2 w' w.heap.size (vV (bE l) most sym) r /\ aS w w' cM := ⟨_, rfl⟩
 rw [<- hRR]
 have hbl := lQ l
 unfold agH Hb GQ
 refine iS fun w1 o1 x1 s1 => ?_
 refine (arW (hb.ext x1 (cD _)) (by omega)).mono ?_
 rintro r w2 ⟨hi, rfl, hi1, hi2, hf2, x2⟩
 have z1 := x1.size
 have z2 := x2.size
 simp (disch := omega) only [aC, dY, aA]
 refine (Ux (n := 4) hf2 hi1 (by omega) (by omega) hl).mono ?_
 rintro r w3 (⟨hsh, rfl, hf3, x3⟩ | ⟨hsh, rfl, hf3, x3⟩)
 .have n1 : ((10 : Int) != 0) = true := rfl
  have hrl : vV (bE l) most sym = .error 10 := by unfold vV; rw [if_pos (by omega)]
  rw [hrl] at hRR
  simp (disch := omega) only [Ch, B7, aA, eT, n1, aF]
  exact QH (RR := RR) (e := 10) ((o1.ext x2 (fun h => h)).ext x3 (fun h => h)) ((x1.seq x2).seq x3) (aGZ _) fun w' h => by rw [hRR]; exact ⟨rfl, h⟩
 .have n1 : ((0 : Int) != 0) = false := rfl
  have hnum : sP (((bE l).drop 0).take 4) = iX (bE l) 0 4 := rfl
  have hlt := DD (bE l) 0 4
  have hrl : vV (bE l) most sym = (if most < ((iX (bE l) 0 4 + 5 : Nat) : Int) ∨ 15 < iX (bE l) 0 4 + 5 then .error 12 else match U7 (bE l) sym ((bE l).length + 1) 4 (2 ^ (iX (bE l) 0 4 + 5)) [] with
   | .error e => .error e
   | .ok (ps, st) => .ok (iX (bE l) 0 4 + 5, ps, (st + 7) / 8)) := by unfold vV; rw [if_neg (by omega)] <;> rfl
  rw [hrl] at hRR
  rw [hnum]
  generalize iX (bE l) 0 4 = x at *
  have e1 : (x : Int) + 5 = ((x + 5 : Nat) : Int) := by omega
  have x03 : aS w w3 cM := (x1.seq x2).trans x3 fun b hb h => by omega
  have o13 := (o1.ext x2 (fun h => h)).ext x3 (by omega)
  simp (disch := omega) only [Ch, B7, aA, eT, n1, aE, cZ, aT, bM, e1, Bq]
  refine iS fun w4 o4 x4 s4 => ?_
  refine eX o4 rfl (by simp [one]) (by simp) fun w5 o5 x5 s5 => ?_
  simp only [aV, aGS, aGU] at o5
  have z3 := x3.size
  have z4 := x4.size
  have x05 : aS w w5 cM := (x03.seq x4).new x5 (by omega)
  have x35 : aS w3 w5 cM := x4.new x5 (by omega)
  have o15 := o13.ext x35 (fun h => h)
  have c5 := o5.cell (off := 0)
  simp only [aGQ, aGR] at c5
  by_cases hmo : most < ((x + 5 : Nat) : Int)
  .have d1 : decide (most < ((x + 5 : Nat) : Int)) = true := by simpa using hmo
   rw [if_pos (.inl hmo)] at hRR
   simp (disch := omega) only [dK, aA, bZ, c5, aI, dP, d1, jE, bO, if_true, aF, dV]
   exact QH (RR := RR) (e := 12) o15 x05 (aGZ _) fun w' h => by rw [hRR]; exact ⟨rfl, h⟩
  have d1 : decide (most < ((x + 5 : Nat) : Int)) = false := by simpa using hmo
  by_cases h15 : 15 < x + 5
  .have d2 : decide ((15 : Int) < ((x + 5 : Nat) : Int)) = true := by simp; omega
   rw [if_pos (.inr h15)] at hRR
   simp (disch := omega) only [dK, aA, bZ, c5, aI, dP, d1, dG, bO, aGW, if_false, bP, d2, mE, aGO, aF]
   exact QH (RR := RR) (e := 12) o15 x05 (aGZ _) fun w' h => by rw [hRR]; exact ⟨rfl, h⟩
  have d2 : decide ((15 : Int) < ((x + 5 : Nat) : Int)) = false := by simp; omega
  rw [if_neg (by omega)] at hRR
  have hsh := arC (n := x + 5) (by omega)
  simp (disch := omega) only [dK, aA, bZ, c5, aI, dP, d1, dG, bO, aGW, if_false, bP, d2, mE, aGO, hsh, aE]
  have hl5 := o5.lt
  refine aAH (l := l) (w0 := w) (log := x + 5) (res := U7 (bE l) sym ((bE l).length + 1) 4 (2 ^ (x + 5)) []) (lo := w1.heap.size) hi1 (aGZ _) hl (by omega) (by omega) hsym (by omega) o15 o5 (hf3.ext x35 (fun _ _ _ h => h) hi1) (by omega) x05 rfl ?_ ?_
  .intro e w' he hx
   rw [hRR, he]
   exact ⟨rfl, hx⟩
  .intro ps st v w' he ho hx
   rw [hRR, he]
   exact ⟨⟨v, rfl, ho⟩, hx⟩
end Go.Proofs.YtaggdjhhmbnhoaaDoor
namespace Go.Pu
open Go Go.En
theorem alI {L : List Bool} {most : Int} {sym log used : Nat} {ps : List Int} (h : vV L most sym = .ok (log, ps, used)) : (ps.length <= 256 -> Sw log ps) /\ (log : Int) <= most /\ ps.length <= sym := by
 unfold vV at h
 split at h
 .cases h
 .simp only at h
  split at h
  .cases h
  .rename_i h1 h2
   have hpow : ((2 ^ (iX L 0 4 + 5) : Nat) : Int) = (2 : Int) ^ (iX L 0 4 + 5) := by simp
   have hp := aHp (iX L 0 4 + 5)
   cases hr : U7 L sym (L.length + 1) 4 (2 ^ (iX L 0 4 + 5)) [] with
   | error e => rw [hr] at h; cases h
   | ok x =>
     obtain ⟨p, st⟩ := x
     rw [hr] at h
     cases h
     have e0 : rE [] = 0 := rfl
     obtain ⟨q1, q2, q3, q4, q5⟩ := acD (tot := (2 : Int) ^ (iX L 0 4 + 5)) hr (by simp) (by rw [e0, hpow]; omega) (fun h => by omega)
     exact ⟨fun hs => ⟨by omega, by omega, q5, hs, q4, q1, q2⟩, by omega, q3⟩
theorem asT {L : List Bool} {sym : Nat} {e : Int} : ∀ {f st left : Nat} {ps : List Int}, U7 L sym f st left ps = .error e -> e = 10 ∨ e = 11
 | 0, st, left, ps, h => by cases h; exact .inl rfl
 | f + 1, st, left, ps, h => by
   rw [U7] at h
   split at h
   .cases h
   .split at h
    .cases h; exact .inl rfl
    .split at h
     .split at h
      .cases h; exact .inl rfl
      .split at h
       .cases h; exact .inr rfl
       .exact asT h
     .split at h
      .cases h; exact .inr rfl
      .exact asT h
theorem abI {L : List Bool} {most : Int} {sym : Nat} {e : Int} (h : vV L most sym = .error e) : e ≠ 0 := by
 unfold vV at h
 split at h
 .cases h; decide
 .simp only at h
  split at h
  .cases h; decide
  .split at h
   .rename_i hr
    cases h
    rcases asT hr with h | h <;> omega
   .cases h
theorem amW {L : List Bool} {sym : Nat} {out : List Int} {stE : Nat} : ∀ {f st left : Nat} {ps : List Int}, U7 L sym f st left ps = .ok (out, stE) -> st <= L.length -> stE <= L.length
 | 0, st, left, ps, h, _ => by cases h
 | f + 1, st, left, ps, h, hst => by
   rw [U7] at h
   split at h
   .cases h; exact hst
   .rename_i h0
    cases hv : Vj L st left with
    | none => rw [hv] at h; cases h
    | some x =>
      obtain ⟨v, st1⟩ := x
      obtain ⟨v1, v2, v3⟩ := Uk hv (by omega)
      rw [hv] at h
      simp only at h
      split at h
      .cases hn : noR L (L.length + 1) st1 with
       | none => rw [hn] at h; cases h
       | some y =>
         obtain ⟨k, st2⟩ := y
         rw [hn] at h
         simp only at h
         split at h
         .cases h
         .exact amW h (akL hn).2.1
      .split at h
       .cases h
       .exact amW h v2
theorem aoB {L : List Bool} {most : Int} {sym log used : Nat} {ps : List Int} (h : vV L most sym = .ok (log, ps, used)) : 8 * used <= L.length + 7 := by
 unfold vV at h
 split at h
 .cases h
 .simp only at h
  split at h
  .cases h
  .cases hr : U7 L sym (L.length + 1) 4 (2 ^ (iX L 0 4 + 5)) [] with
   | error e => rw [hr] at h; cases h
   | ok x =>
     obtain ⟨p, st⟩ := x
     rw [hr] at h
     cases h
     have := amW hr (by omega)
     omega
end Go.Pu
namespace Go.Proofs.YtaggdjhhmbnhoaaDoor
open Go Go.En Go.Pu
set_option maxRecDepth 4000
def F1 (w : aJa) (base : Nat) (T : Nat × List T3) (v : aJb) : Prop := (T = (0, []) /\ v = .agg #[.int .i64 0, .slice none 0 0]) ∨ ∃ b, Tbl w base b T.1 T.2 v
theorem F1.nil (w : aJa) (base : Nat) : F1 w base (0, []) (.agg #[.int .i64 0, .slice none 0 0]) := .inl ⟨rfl, rfl⟩
theorem F1.form {w : aJa} {base : Nat} {T : Nat × List T3} {v : aJb} (h : F1 w base T v) : ∃ a, v = .agg #[.int .i64 T.1, .slice a T.2.length T.2.length] := by
 rcases h with ⟨rfl, rfl⟩ | ⟨b, rfl, _⟩
 .exact ⟨_, rfl⟩
 .exact ⟨_, rfl⟩
theorem F1.ext {w w' : aJa} {base : Nat} {T : Nat × List T3} {v : aJb} {M : Nat -> Prop} (h : F1 w base T v) (x : aS w w' M) (hM : ∀ b, base <= b -> b < w.heap.size -> ¬ M b) : F1 w' base T v := by
 rcases h with h | ⟨b, h⟩
 .exact .inl h
 .have hb := h.2.1
  have hl := h.2.2.lt
  exact .inr ⟨b, h.ext x (hM b hb hl)⟩
theorem F1.lower {w : aJa} {base base' : Nat} {T : Nat × List T3} {v : aJb} (h : F1 w base T v) (hb : base' <= base) : F1 w base' T v := by
 rcases h with h | ⟨b, h1, h2, h3⟩
 .exact .inl h
 .exact .inr ⟨b, h1, by omega, h3⟩
def aBq (w : aJa) (base : Nat) (o : Except Int ((Nat × List T3) × Nat)) (r : aJb) : Prop := match o with
 | .error e => r = .tuple #[.agg #[.int .i64 0, .slice none 0 0], .int .i64 0, .int .i64 e]
 | .ok (T, n) => ∃ t, r = .tuple #[t, .int .i64 n, .int .i64 0] /\ F1 w base T t
def gE (a mode : Int) (l : List UInt8) (old : Nat × List T3) : Except Int ((Nat × List T3) × Nat) :=
 if a < 0 ∨ 2 < a ∨ mode < 0 ∨ 3 < mode then .error 1
 else if mode = 0 then .ok ((Yt a, jY (Yt a) (gvP a)), 0)
 else if mode = 1 then match l with
  | [] => .error 10
  | x :: _ => if mM a < (x.toNat : Int) then .error 11 else .ok ((0, [((x.toNat : Nat), 0, 0)]), 1)
 else if mode = 3 then if old.2 = [] then .error 11 else .ok (old, 0)
 else match vV (bE l) (Cp a) (mM a + 1).toNat with
  | .error e => .error e
  | .ok (lg, ps, u) => .ok ((lg, jY lg ps), u)
theorem Ln {p : Nat} {w0 w : aJa} {x : Int} {a : Option Addr} {k c : Nat} {n e : aJb} (o : cJ w p [.int .i64 0, .slice none 0 0]) (hx : aS w0 w cM) (hp : w0.heap.size <= p) {RR : aJb -> aJa -> Prop}
 (hR : ∀ w', aS w0 w' cM -> aS w w' (fun y => y = p) -> RR (.tuple #[.agg #[.int .i64 x, .slice a k c], n, e]) w') :
 aC pg (aJ 27 (.pointer (some ⟨p, 0, none⟩)) (.agg #[.int .i64 x, .slice a k c])) w fun _u w => kC pg 27 (.pointer (some ⟨p, 0, none⟩)) w fun r0 => RR (.tuple #[r0, n, e]) w := by
 refine eI o rfl (by simp [one]) (by simp) fun w6 o6 x6 s6 => ?_
 refine pR o6 (by simp [aV]) ?_
 simp only [aV, aGS, aGU, aGT, aGN, aGV]
 exact hR _ (hx.new x6 hp) x6
theorem JH {a : Int} (h : 0 <= a /\ a <= 2) : 28 <= mM a /\ mM a <= 60 := by
 unfold mM
 split
 .omega
 .split
  .omega
  .rw [if_pos (by omega)]; omega
theorem amU {a : Int} (h : ¬ (0 <= a /\ a <= 2)) : mM a = -1 := by
 unfold mM
 rw [if_neg (by omega), if_neg (by omega), if_neg (by omega)]
theorem aAf {a mode : Int} {bv ov : aJb} {l : List UInt8} {T : Nat × List T3} {base : Nat} {w : aJa} (hg : uA w) (hb : Bs w bv l) (hl : mode = 2 -> l.length <= 1000000) (ho : F1 w base T ov) (hbase : base <= w.heap.size) (hlb : l.length <= 9223372036854775807) (hT : T.2.length <= 1000000) :
 aR pg AD #[.int .i64 a, .int .i64 mode, bv, ov] w (fun r w' => aBq w' base (gE a mode l T) r /\ aS w w' cM) := by
 refine abQ ?_
 obtain ⟨RR, hRR⟩ : ∃ RR : aJb -> aJa -> Prop, RR = fun r w' => aBq w' base (gE a mode l T) r /\ aS w w' cM := ⟨_, rfl⟩
 rw [<- hRR]
 obtain ⟨oa, rfl⟩ := ho.form
 obtain ⟨ba, bc, rfl, _⟩ := hb.len
 rw [aG1] at hb
 rw [aG1]
 unfold agE Lt
 refine fY fun w1 o1 x1 s1 => ?_
 simp only [Value.cells] at o1
 refine iK fun w2 o2 x2 s2 => ?_
 have x12 := x1.seq x2
 have z2 := x12.size
 refine (arT (hg.ext x12)).mono ?_
 rintro r w3 ⟨rfl, x3⟩
 have o1 := (o1.ext x2 (fun h => h)).ext x3 (fun h => h)
 have o2 := o2.ext x3 (fun h => h)
 have x13 := x12.seq x3
 have z3 := x3.size
 have hg3 := hg.ext x13
 have err : ∀ {e : Int} {w' : aJa}, gE a mode l T = .error e -> aS w w' cM -> RR (.tuple #[.agg #[.int .i64 0, .slice none 0 0], .int .i64 0, .int .i64 e]) w' := fun h x => by
  rw [hRR]; refine ⟨?_, x⟩; rw [h] <;> rfl
 have good : ∀ {T' : Nat × List T3} {n : Nat} {w' : aJa} {t : aJb}, gE a mode l T = .ok (T', n) -> F1 w' base T' t -> aS w w' cM -> RR (.tuple #[t, .int .i64 n, .int .i64 0]) w' := fun h ht x => by
  rw [hRR]; refine ⟨?_, x⟩; rw [h]; exact ⟨_, rfl, ht⟩
 by_cases ha : 0 <= a /\ a <= 2
 rotate_left
 .have d1 : decide (mM a < 0) = true := by rw [amU ha] <;> rfl
  have hE : gE a mode l T = .error 1 := by unfold gE; rw [if_pos (by omega)]
  simp (disch := omega) only [aC, aX, d1, fF, aA, cW, fO, bY, aGP, dS, bM, jE, bO, if_true, aF, dV]
  exact Ln o2 x13 (by omega) fun w' x _ => err hE x
 obtain ⟨hl1, hl2⟩ := JH ha
 have d1 : decide (mM a < 0) = false := by simp; omega
 by_cases hm0 : mode < 0
 .have d2 : decide (mode < 0) = true := by simp; omega
  have hE : gE a mode l T = .error 1 := by unfold gE; rw [if_pos (by omega)]
  simp (disch := omega) only [aC, aX, d1, fF, aA, cW, fO, bY, aGP, dS, bM, aT, dG, bO, aGW, if_false, bP, d2, jE, if_true, aF, dV]
  exact Ln o2 x13 (by omega) fun w' x _ => err hE x
 have d2 : decide (mode < 0) = false := by simp; omega
 by_cases hm3 : 3 < mode
 .have d3 : decide (3 < mode) = true := by simp; omega
  have hE : gE a mode l T = .error 1 := by unfold gE; rw [if_pos (by omega)]
  simp (disch := omega) only [aC, aX, d1, fF, aA, cW, fO, bY, aGP, dS, bM, aT, dG, bO, aGW, if_false, bP, d2, dP, d3, aF]
  exact Ln o2 x13 (by omega) fun w' x _ => err hE x
 have d3 : decide (3 < mode) = false := by simp; omega
 have hno : ¬ (a < 0 ∨ 2 < a ∨ mode < 0 ∨ 3 < mode) := by omega
 by_cases m0 : mode = 0
 .subst m0
  have n1 : ((0 : Int) == 0) = true := rfl
  have hE : gE a 0 l T = .ok ((Yt a, jY (Yt a) (gvP a)), 0) := by unfold gE; rw [if_neg hno, if_pos rfl]
  simp (disch := omega) only [aC, aX, d1, fF, aA, cW, n1, fO, bY, aGP, dS, bM, aT, aF, dG, bO, aGW, if_false, bP, d2, dP, d3, aE]
  refine (aAZ hg3).mono ?_
  rintro r w4 ⟨t, e, rfl, ht, x4⟩
  unfold Px vP at ht
  rw [if_pos (by omega)] at ht
  obtain ⟨⟨b, ht, hb1, ob⟩, rfl⟩ := ht
  subst ht
  have z4 := x4.size
  simp (disch := omega) only [Ch, B7, aA]
  refine iK fun w5 o5 x5 s5 => ?_
  refine eI o5 rfl (by simp [one]) (by simp) fun w6 o6 x6 s6 => ?_
  have l1 := gI (off := 0) o6 (by simp [aV])
  simp only [aV, aGS, aGU, aGT, aGN, aGV] at l1
  have hbl := ob.lt
  simp (disch := omega) only [l1, aA]
  have x46 : aS w3 w6 cM := x4.seq (x5.new x6 (aGZ _))
  refine Ln (o2.ext x46 (fun h => h)) (x13.seq x46) (by omega) fun w' x x7 => good hE (.inr ⟨b, rfl, by omega, ?_⟩) x
  exact ((ob.ext x5 (fun h => h)).ext x6 (by omega)).ext x7 (by omega)
 have n1 : (mode == 0) = false := beq_eq_false_iff_ne.2 m0
 by_cases m1 : mode = 1
 .subst m1
  have n2 : ((1 : Int) == 1) = true := rfl
  cases l with
  | nil =>
    have hE : gE a 1 [] T = .error 10 := by unfold gE; rw [if_neg hno, if_neg (by omega), if_pos rfl]
    have n3 : ((0 : Int) == 0) = true := rfl
    have e0 : ((([] : List UInt8).length : Nat) : Int) = 0 := rfl
    simp (disch := omega) only [aC, aX, d1, fF, aA, cW, n1, n2, fO, e0, n3, aF, bY, aGP, dS, bM, aT, aE, dG, bO, aGW, if_false, bP, d2, dP, d3]
    exact Ln o2 x13 (by omega) fun w' x _ => err hE x
  | cons y l =>
    have n3 : ((((y :: l).length : Nat) : Int) == 0) = false := by simp; omega
    obtain ⟨b, off, c, hv, _, hcell⟩ := (hb.ext x13 (cD _)).openV (by simp)
    have g1 := hcell 0 (by simp)
    simp only [aIn, aIo, aHI] at g1
    simp only [aG1, Value.slice.injEq] at hv
    obtain ⟨rfl, _, rfl⟩ := hv
    have t0 : (0 : Int).toNat = 0 := rfl
    have g0 : (w3.cell? ⟨b, off, none⟩) = some (.int .u8 (y.toNat : Nat)) := g1
    have hy := y.toNat_lt
    have hpos : (0 : Int) < ((y :: l).length : Nat) := by rw [aHc]; omega
    by_cases hyl : mM a < (y.toNat : Int)
    .have d4 : decide (mM a < (y.toNat : Int)) = true := by simpa using hyl
     have hE : gE a 1 (y :: l) T = .error 11 := by unfold gE; rw [if_neg hno, if_neg (by omega), if_pos rfl]; exact if_pos hyl
     simp (disch := omega) only [aC, aX, d1, fF, aA, cW, n1, n2, fO, oM, t0, aHI, mI, n3, aE, bY, aGP, dS, bM, aT, aF, dG, bO, aGW, if_false, bP, d2, dP, d3, g0, aI, nO, d4]
     exact Ln o2 x13 (by omega) fun w' x _ => err hE x
    .have d4 : decide (mM a < (y.toNat : Int)) = false := by simpa using hyl
     have hE : gE a 1 (y :: l) T = .ok ((0, [((y.toNat : Nat), 0, 0)]), 1) := by unfold gE; rw [if_neg hno, if_neg (by omega), if_pos rfl]; exact if_neg hyl
     simp (disch := omega) only [aC, aX, d1, fF, aA, cW, n1, n2, fO, oM, t0, aHI, mI, n3, aE, bY, aGP, dS, bM, aT, aF, dG, bO, aGW, if_false, bP, d2, dP, d3, g0, aI, nO, d4]
     refine (aAc (y.toNat : Nat) _).mono ?_
     rintro r w4 ⟨b, ⟨rfl, hb1, ob⟩, x4⟩
     have z4 := x4.size
     have hbl := ob.lt
     refine Ln (o2.ext x4 (fun h => h)) (x13.seq x4) (by omega) fun w' x x7 => good hE (.inr ⟨b, rfl, by omega, ?_⟩) x
     exact ob.ext x7 (by omega)
 have n2 : (mode == 1) = false := beq_eq_false_iff_ne.2 m1
 by_cases m3 : mode = 3
 .subst m3
  have n3 : ((3 : Int) == 3) = true := rfl
  have c1 := o1.cell (off := 1)
  simp only [aGQ, aGR] at c1
  have l1 := gI (off := 0) o1 (by simp)
  simp only [aGT, aGN, aGV] at l1
  by_cases h0 : T.2 = []
  .have n4 : (((T.2.length : Nat) : Int) == 0) = true := by rw [h0] <;> rfl
   have hE : gE a 3 l T = .error 11 := by unfold gE; rw [if_neg hno, if_neg (by omega), if_neg (by omega), if_pos rfl, if_pos h0]
   simp (disch := omega) only [aC, aX, d1, fF, aA, cW, n1, n2, fO, n3, bY, aGP, dS, bM, aT, aF, aE, dG, bO, aGW, if_false, bP, d2, dP, d3, c1, aI, hY, n4]
   exact Ln o2 x13 (by omega) fun w' x _ => err hE x
  .have n4 : (((T.2.length : Nat) : Int) == 0) = false := by
    have := aHP.2 h0
    simp; exact h0
   have hE : gE a 3 l T = .ok (T, 0) := by unfold gE; rw [if_neg hno, if_neg (by omega), if_neg (by omega), if_pos rfl, if_neg h0]
   simp (disch := omega) only [aC, aX, d1, fF, aA, cW, n1, n2, fO, n3, bY, aGP, dS, bM, aT, aF, aE, dG, bO, aGW, if_false, bP, d2, dP, d3, c1, aI, hY, n4, l1]
   refine Ln o2 x13 (by omega) fun w' x x7 => good hE ?_ x
   rcases ho with ⟨e, _⟩ | ⟨b, e, hb1, ob⟩
   .rw [e] at h0; exact absurd rfl h0
   .have hbl := ob.lt
    exact .inr ⟨b, e, hb1, (ob.ext x13 (fun h => h)).ext x7 (by omega)⟩
 have n3 : (mode == 3) = false := beq_eq_false_iff_ne.2 m3
 have m2 : mode = 2 := by omega
 have hl2 := hl m2
 simp (disch := omega) only [aC, aX, d1, fF, aA, cW, n1, n2, fO, n3, bY, aGP, dS, bM, aT, aE, dG, bO, aGW, if_false, bP, d2, dP, d3]
 refine (asQ a _).mono ?_
 rintro r w4 ⟨rfl, hw⟩
 rw [hw]
 clear hw w4
 have e1 : mM a + 1 = ((mM a + 1).toNat : Int) := by omega
 rw [e1]
 refine (axL (hb.ext x13 (cD _)) hl2 (by omega)).mono ?_
 rintro r w4 ⟨hr, x4⟩
 have z4 := x4.size
 have hsym : (mM a + 1).toNat <= 61 := by omega
 have hE0 : gE a mode l T = match vV (bE l) (Cp a) (mM a + 1).toNat with
  | .error e => .error e
  | .ok (lg, ps, u) => .ok ((lg, jY lg ps), u) := by unfold gE; rw [if_neg hno, if_neg m0, if_neg m1, if_neg m3]
 cases hrl : vV (bE l) (Cp a) (mM a + 1).toNat with
 | error e =>
   rw [hrl] at hr hE0
   have hr : r = _ := hr
   subst hr
   have he := abI hrl
   have n4 : (e != 0) = true := by simpa using he
   have hE : gE a mode l T = .error e := hE0
   simp (disch := omega) only [SE, SF, SD, aA, eT]
   refine iS fun w5 o5 x5 s5 => ?_
   refine eX o5 rfl (by simp [one]) (by simp) fun w6 o6 x6 s6 => ?_
   simp (disch := omega) only [n4, aF]
   have x46 : aS w3 w6 cM := x4.seq (x5.new x6 (aGZ _))
   exact Ln (o2.ext x46 (fun h => h)) (x13.seq x46) (by omega) fun w' x _ => err hE x
 | ok y =>
   obtain ⟨lg, ps, u⟩ := y
   rw [hrl] at hr hE0
   obtain ⟨v, rfl, hv⟩ := hr
   obtain ⟨hmay, hlg, hpl⟩ := alI hrl
   have hm := hmay (by omega)
   have hE : gE a mode l T = .ok ((lg, jY lg ps), u) := hE0
   obtain ⟨va, vc, rfl⟩ := hv.len
   have hs := hv.sl
   have n4 : ((0 : Int) != 0) = false := rfl
   simp (disch := omega) only [SE, SF, SD, aA, eT]
   refine iS fun w5 o5 x5 s5 => ?_
   refine eX o5 rfl (by simp [one]) (by simp) fun w6 o6 x6 s6 => ?_
   have l1 := gG (off := 0) o6 (by simp [aV])
   simp only [aV, aGS, aGU, aGT, aGN, aGV] at l1
   have x46 : aS w4 w6 cM := x5.new x6 (aGZ _)
   have z6 := x46.size
   simp (disch := omega) only [n4, l1, aA, aE]
   refine (akF hm (hs.ext x46 (cD _))).mono ?_
   rintro r w7 ⟨b, t, rfl, ⟨rfl, hb1, ob⟩, x7⟩
   have z7 := x7.size
   have hbl := ob.lt
   simp (disch := omega) only [Ch, B7, aA, eT]
   refine iK fun w8 o8 x8 s8 => ?_
   refine eI o8 rfl (by simp [one]) (by simp) fun w9 o9 x9 s9 => ?_
   have l2 := gI (off := 0) o9 (by simp [aV])
   simp only [aV, aGS, aGU, aGT, aGN, aGV] at l2
   simp (disch := omega) only [n4, l2, aA, aE]
   have x49 : aS w3 w9 cM := ((x4.seq x46).seq x7).seq (x8.new x9 (aGZ _))
   refine Ln (o2.ext x49 (fun h => h)) (x13.seq x49) (by omega) fun w' x x10 => good hE (.inr ⟨b, rfl, by omega, ?_⟩) x
   exact ((ob.ext x8 (fun h => h)).ext x9 (by omega)).ext x10 (by omega)
theorem aBH {log k : Nat} (h15 : log <= 15) (hk1 : 1 <= k) (hk2 : k < 2 ^ (log + 1)) {w0 w : aJa} {p1 : Nat} {sv t2 n5 t6 seen i15 : aJb} (o1 : cJ w p1 [.int .i64 log, sv])
 {k12 : aJb -> aJb -> aJb -> aJb -> aJb -> aJb -> aJb -> aJb -> aJa -> Prop}
 (hR : k12 (.pointer (some ⟨p1, 0, none⟩)) t2 n5 t6 seen i15 (.int .i64 k) (.int .i64 ((log + 1 - bl k : Nat) : Int)) w) :
 CF k12 (.pointer (some ⟨p1, 0, none⟩)) t2 n5 t6 seen i15 (.int .i64 k) (.int .i64 log) w := by
 have hb1 := GS (k := k) (by omega)
 have hb2 := qT hk2
 have hlt := Vw k
 have hle := Ua (k := k) (by omega)
 have c0 := o1.cell (off := 0)
 simp only [aGQ] at c0
 unfold CF
 refine cG.rule (fun m t w' => ∃ q : Nat, m = log - q /\ t = .int .i64 ((log - q : Nat) : Int) /\ q + 1 <= bl k /\ w' = w) log ⟨0, rfl, rfl, by omega, rfl⟩ ?_
 rintro m t w' ⟨q, rfl, rfl, hq, rfl⟩
 have e1 : (log : Int) - ((log - q : Nat) : Int) + 1 = ((q + 1 : Nat) : Int) := by omega
 have hw : IntKind.i64.wrap ((log : Int) - ((log - q : Nat) : Int)) = (log : Int) - ((log - q : Nat) : Int) := aT (by omega) (by omega)
 unfold Dv
 simp (disch := omega) only [aC, cQ, dZ, aT, aA, bZ, c0, aI, hw, bM, e1]
 refine (Um (q + 1) (by omega) _).mono ?_
 rintro r w1 ⟨rfl, rfl⟩
 have hpw : ((2 ^ (q + 1) : Nat) : Int) = (2 : Int) ^ (q + 1) := by simp
 rw [<- hpw]
 by_cases hc : 2 ^ (q + 1) <= k
 .have d1 : decide (((2 ^ (q + 1) : Nat) : Int) <= (k : Int)) = true := by simp only [decide_eq_true_eq]; omega
  have hq2 : q + 2 <= bl k := by
   rcases aHd (q + 1) (bl k) with h | h
   .exact h
   .have : bl k = q + 1 := by omega
    rw [this] at hlt; omega
  simp (disch := omega) only [avL, d1, aA, and_true, aF]
  exact ⟨log - (q + 1), by omega, q + 1, rfl, by congr 1; omega, hq2⟩
 .have d1 : decide (((2 ^ (q + 1) : Nat) : Int) <= (k : Int)) = false := by simp only [decide_eq_false_iff_not]; omega
  have : bl k = q + 1 := by
   have := qT (k := k) (n := q + 1) (by omega)
   omega
  rw [this, show log + 1 - (q + 1) = log - q from by omega] at hR
  simp (disch := omega) only [avL, d1, aA, and_true, aE]
  exact hR
theorem aAV {N high j : Nat} (hN : 0 < N) (hN2 : N <= 32768) (hh : 0 < high) (hhN : high <= N) {w : aJa} {c1 t2 t6 s k : aJb}
 {k8 : aJb -> aJb -> aJb -> aJb -> aJb -> aJb -> aJb -> aJb -> aJa -> Prop}
 (hR : k8 c1 t2 (.int .i64 N) t6 (.int .i64 ((high : Int) - 1)) (.int .i64 (Yd N high N (pos N j) : Nat)) s k w) :
 Bb k8 c1 t2 (.int .i64 N) t6 (.int .i64 ((high : Int) - 1)) (.int .i64 (pos N j : Nat)) s k (.int .i64 0) w := by
 obtain ⟨d, h1, h2, h3⟩ := Up hN hh j
 have hd : d < N := by
  obtain ⟨D, hD, h0⟩ := aAq N j hN
  rcases aHd d N with h | h
  .exact h
  .have := h1 D (by omega)
   omega
 rw [h3] at hR
 unfold Bb
 refine cG.rule (fun m t w' => ∃ q : Nat, m = d - q /\ t = (.int .i64 (pos N (j + q) : Nat), .int .i64 q) /\ q <= d /\ w' = w) d ⟨0, rfl, rfl, by omega, rfl⟩ ?_
 rintro m t w' ⟨q, rfl, rfl, hq, rfl⟩
 have hp := akX hN (j + q)
 have d1 : decide ((q : Int) < (N : Int)) = true := by simp only [decide_eq_true_eq]; omega
 have e1 : (N : Int).tdiv 2 = ((N / 2 : Nat) : Int) := by rw [aHj (by omega)]; omega
 have e3 : (N : Int).tdiv 8 = ((N / 8 : Nat) : Int) := by rw [aHj (by omega)]; omega
 have e4 : (((pos N (j + q) : Nat) : Int) + ((N / 2 : Nat) : Int) + ((N / 8 : Nat) : Int) + 3).tmod (N : Int) = ((pos N (j + q + 1) : Nat) : Int) := by
  rw [aHF (by omega), <- Iw]
  unfold adv
  simp
 unfold AT
 by_cases hqd : q < d
 .have := h1 q hqd
  have d2 : decide ((high : Int) - 1 < ((pos N (j + q) : Nat) : Int)) = true := by simp only [decide_eq_true_eq]; omega
  simp (disch := omega) only [aC, aX, d1, DU, e1, aT, e3, bM, aA, D5, e4, tR, bO, if_true, bP, dP, d2, and_true, aF]
  exact ⟨d - (q + 1), by omega, q + 1, rfl, rfl, by omega⟩
 .have : q = d := by omega
  subst this
  have d2 : decide ((high : Int) - 1 < ((pos N (j + q) : Nat) : Int)) = false := by simp only [decide_eq_false_iff_not]; omega
  simp (disch := omega) only [aC, aX, d1, DU, aT, bM, aA, D5, tR, bO, if_true, bP, dP, d2, and_true, aE]
  exact hR
theorem aqO {k : IntKind} {L : List Int} {rest : List aJb} {i : Nat} (h : i < L.length) (x : Int) : (fe k (m3 L) ++ rest).set (i * 3) (.int k x) = fe k (m3 (L.set i x)) ++ rest := by
 rw [aIl _ _ (by rw [kR]; simp [m3]; omega), anV h]
theorem aAS {log N high cc p1 p6 b : Nat} {ps : List Int} {sv t2 : aJb} {arr arr' : List Int} {rest : List aJb} {w0 w : aJa} (hm : Sw log ps) (hs : Sl w0 sv (ps.map (Value.int .i64))) (hx : aS w0 w cM)
 (hN2 : N <= 32768) (hcc : N <= cc) (harr : arr.length = N) (hng : (rX ps 0).length <= N) (ht : V5 ps 0 N arr = (high, arr')) (hlo : w0.heap.size <= b) (hne : p1 ≠ b /\ p6 ≠ b)
 (o1 : cJ w p1 [.int .i64 log, sv]) (o6 : cJ w p6 [.int .i64 log, .slice (some ⟨b, 0, none⟩) N cc]) (ob : cJ w b (fe .i64 (m3 arr) ++ rest))
 {k2 : aJb -> aJb -> aJb -> aJb -> aJb -> aJa -> Prop}
 (hR : ∀ w', cJ w' b (fe .i64 (m3 arr') ++ rest) -> aS w w' (fun y => y = b) -> k2 (.pointer (some ⟨p1, 0, none⟩)) t2 (.int .i64 N) (.pointer (some ⟨p6, 0, none⟩)) (.int .i64 ((high : Int) - 1)) w') :
 A7 k2 (.pointer (some ⟨p1, 0, none⟩)) t2 (.int .i64 N) (.pointer (some ⟨p6, 0, none⟩)) (.int .i64 ((N : Int) - 1)) (.int .i64 0) w := by
 have hlen := hm.len256
 obtain ⟨a, c, rfl, hc⟩ := hs.lenI
 unfold A7
 refine cG.rule (fun m t w' => ∃ (i hg : Nat) (ar : List Int), m = ps.length - i /\ t = (.int .i64 ((hg : Int) - 1), .int .i64 i) /\ i <= ps.length /\ (rX (ps.drop i) i).length <= hg /\ hg <= N /\ ar.length = N /\ V5 (ps.drop i) i hg ar = (high, arr') /\ cJ w' b (fe .i64 (m3 ar) ++ rest) /\ aS w w' (fun y => y = b)) ps.length
  ⟨0, N, arr, rfl, rfl, by omega, by rw [aGT]; exact hng, by omega, harr, by rw [aGT]; exact ht, ob, aS.refl _ _⟩ ?_
 rintro m t w3 ⟨i, hg, ar, rfl, rfl, hi, hng, hgN, harr, htop, o3, x3⟩
 have c1 := (o1.ext x3 hne.1).cell (off := 1)
 have c6 := (o6.ext x3 hne.2).cell (off := 1)
 simp only [aGQ, aGR] at c1 c6
 unfold A8 GH
 by_cases hlt : i < ps.length
 .have d1 : decide ((i : Int) < (ps.length : Int)) = true := by simp; omega
  obtain ⟨b', off', c', e, _, hcell⟩ := (hs.ext (hx.new x3 hlo) (cD _)).openI (by omega)
  cases e
  have g1 := hcell i hlt
  have hd : ps.drop i = ps[i] :: ps.drop (i + 1) := aHn hlt
  have hlow := hm.low _ (aG7 hlt)
  rw [hd, rX] at hng
  rw [hd, V5] at htop
  by_cases hp : ps[i] = -1
  .have d2 : decide (ps[i] < 0) = true := by simp; omega
   rw [if_pos hp] at hng htop
   simp only [aHc] at hng
   have e1 : (hg : Int) - 1 = ((hg - 1 : Nat) : Int) := by omega
   have e2 : IntKind.i64.wrap (((hg - 1 : Nat) : Int) - 1) = ((hg - 1 : Nat) : Int) - 1 := aT (by omega) (by omega)
   rw [e1]
   simp (disch := omega) only [aC, aW, aGP, bQ, dZ, aT, aA, bN, cL, c1, aI, eA, aX, d1, dJ, aGO, bZ, g1, d2, c6, fL, iG, aF]
   refine sH o3 rfl (by rw [aGY, kR]; simp [m3]; omega) fun w4 o4 x4 s4 => ?_
   rw [aqO (by omega)] at o4
   unfold vQ
   simp (disch := omega) only [aC, bM, aT, aA]
   exact ⟨ps.length - (i + 1), by omega, i + 1, hg - 1, _, rfl, rfl, by omega, by omega, by omega, by simp [harr], htop, o4, x3.trans x4 (fun _ _ h => h)⟩
  .have d2 : decide (ps[i] < 0) = false := by simp; omega
   rw [if_neg hp] at hng htop
   unfold vQ
   simp (disch := omega) only [aC, aW, aGP, bQ, dZ, aT, bM, aA, bN, cL, c1, aI, eA, aX, d1, dJ, aGO, bZ, g1, d2, c6, aE, aF]
   exact ⟨ps.length - (i + 1), by omega, i + 1, hg, ar, rfl, rfl, by omega, by omega, by omega, harr, htop, o3, x3⟩
 .have d1 : decide ((i : Int) < (ps.length : Int)) = false := by simp; omega
  rw [aHW (by omega), V5] at htop
  obtain ⟨rfl, rfl⟩ : hg = high /\ ar = arr' := by simpa using htop
  simp (disch := omega) only [aC, aW, aGP, bQ, dZ, aT, aA, bN, cL, c1, aI, eA, aX, d1, aE]
  exact hR _ o3 x3
theorem ayM {log N high cc p1 p6 b : Nat} {ps : List Int} {sv t2 : aJb} {arr : List Int} {rest : List aJb} {w0 w : aJa} (hm : Sw log ps) (hs : Sl w0 sv (ps.map (Value.int .i64))) (hx : aS w0 w cM)
 (hN1 : 32 <= N) (hN2 : N <= 32768) (hcc : N <= cc) (harr : arr.length = N) (hhigh : (oU ps 0).length = high) (hhN : high <= N) (hlo : w0.heap.size <= b) (hne : p1 ≠ b /\ p6 ≠ b)
 (o1 : cJ w p1 [.int .i64 log, sv]) (o6 : cJ w p6 [.int .i64 log, .slice (some ⟨b, 0, none⟩) N cc]) (ob : cJ w b (fe .i64 (m3 arr) ++ rest))
 {k4 : aJb -> aJb -> aJb -> aJb -> aJa -> Prop}
 (hR : ∀ w', cJ w' b (fe .i64 (m3 (place N high (oU ps 0) 0 arr)) ++ rest) -> aS w w' (fun y => y = b) -> k4 (.pointer (some ⟨p1, 0, none⟩)) t2 (.int .i64 N) (.pointer (some ⟨p6, 0, none⟩)) w') :
 A4 k4 (.pointer (some ⟨p1, 0, none⟩)) t2 (.int .i64 N) (.pointer (some ⟨p6, 0, none⟩)) (.int .i64 ((high : Int) - 1)) (.int .i64 0) (.int .i64 0) w := by
 have hlen := hm.len256
 obtain ⟨a, c, rfl, hc⟩ := hs.lenI
 unfold A4
 refine cG.rule (fun m t w' => ∃ (s j : Nat) (ar : List Int), m = ps.length - s /\ t = (.int .i64 (pos N j : Nat), .int .i64 s) /\ s <= ps.length /\ ar.length = N /\ place N high (oU (ps.drop s) s) (pos N j) ar = place N high (oU ps 0) 0 arr /\ (oU (ps.drop s) s).length <= high /\ cJ w' b (fe .i64 (m3 ar) ++ rest) /\ aS w w' (fun y => y = b)) ps.length
  ⟨0, 0, arr, rfl, by rw [Ui] <;> rfl, by omega, harr, by rw [Ui, aGT], by rw [aGT, hhigh]; exact aGZ _, ob, aS.refl _ _⟩ ?_
 rintro m t w4 ⟨s, j, ar, rfl, rfl, hs4, har, hpl, hrl, o4, x4⟩
 have c1 := (o1.ext x4 hne.1).cell (off := 1)
 simp only [aGQ, aGR] at c1
 unfold Bc HZ
 by_cases hlt : s < ps.length
 .have d1 : decide ((s : Int) < (ps.length : Int)) = true := by simp; omega
  obtain ⟨q, hq⟩ : ∃ q, q = ps[s].toNat := ⟨_, rfl⟩
  rw [apG hlt, <- hq] at hpl hrl
  have hqN : q <= N := by simp at hrl; omega
  simp (disch := omega) only [aC, aW, aGP, aA, cL, c1, aI, eA, aX, d1, aF]
  unfold HC HV Rc Hm Hn Hw
  refine cG.rule (fun m t w' => ∃ (k j : Nat) (ar : List Int), m = q - k /\ t = (.int .i64 (pos N j : Nat), .int .i64 k) /\ k <= q /\ ar.length = N /\ place N high (List.replicate (q - k) s ++ oU (ps.drop (s + 1)) (s + 1)) (pos N j) ar = place N high (oU ps 0) 0 arr /\ cJ w' b (fe .i64 (m3 ar) ++ rest) /\ aS w w' (fun y => y = b)) q
   ⟨0, j, ar, rfl, rfl, by omega, har, hpl, o4, x4⟩ ?_
  rintro m t w5 ⟨k, j5, ar5, rfl, rfl, hk, har5, hpl5, o5, x5⟩
  have c15 := (o1.ext x5 hne.1).cell (off := 1)
  have c65 := (o6.ext x5 hne.2).cell (off := 1)
  simp only [aGQ, aGR] at c15 c65
  obtain ⟨b', off', c', e, _, hcell⟩ := (hs.ext (hx.new x5 hlo) (cD _)).openI (by omega)
  cases e
  have g1 := hcell s hlt
  unfold AQ GF
  by_cases hkq : k < q
  .have d2 : decide ((k : Int) < ps[s]) = true := by simp; omega
   have hp := akX (n := N) (by omega) j5
   have hhg : 0 < high := by simp at hrl; omega
   simp (disch := omega) only [aC, aW, aGP, aA, cL, c15, aI, dJ, aGO, bZ, g1, aX, d2, aF]
   unfold GO Hz Rk G7
   simp (disch := omega) only [aC, bQ, aGP, DU, aA, bM, D5, bN, c65, aI, fL, aGO, iG]
   refine sH o5 rfl (by rw [aGY, kR]; simp [m3]; omega) fun w6 o6' x6 s6 => ?_
   rw [aqO (by omega)] at o6'
   have e1 : (N : Int).tdiv 2 = ((N / 2 : Nat) : Int) := by rw [aHj (by omega)]; omega
   have e3 : (N : Int).tdiv 8 = ((N / 8 : Nat) : Int) := by rw [aHj (by omega)]; omega
   have e4 : (((pos N j5 : Nat) : Int) + ((N / 2 : Nat) : Int) + ((N / 8 : Nat) : Int) + 3).tmod (N : Int) = ((pos N (j5 + 1) : Nat) : Int) := by
    rw [aHF (by omega), <- Iw]
    unfold adv
    simp
   simp (disch := omega) only [e1, aT, e3, e4]
   unfold Gy
   rw [show q - k = (q - (k + 1)) + 1 from by omega, aHO, aHV, amT, Iw] at hpl5
   obtain ⟨d, _, hd2, hd3⟩ := Up (n := N) (high := high) (by omega) hhg (j5 + 1)
   refine aAV (by omega) hN2 hhg hhN ?_
   rw [hd3] at hpl5 ⊢
   unfold Be
   simp (disch := omega) only [aC, bM, aT, aA]
   exact ⟨q - (k + 1), by omega, k + 1, j5 + 1 + d, _, rfl, rfl, by omega, by simp [har5], hpl5, o6', x5.trans x6 (fun _ _ h => h)⟩
  .have d2 : decide ((k : Int) < ps[s]) = false := by simp; omega
   rw [show q - k = 0 from by omega, List.replicate_zero, aHv] at hpl5
   unfold A1
   simp (disch := omega) only [aC, aW, aGP, bM, aT, aA, cL, c15, aI, dJ, aGO, bZ, g1, aX, d2, aE]
   exact ⟨ps.length - (s + 1), by omega, s + 1, j5, ar5, rfl, rfl, by omega, har5, hpl5, by simp at hrl; omega, o5, x5⟩
 .have d1 : decide ((s : Int) < (ps.length : Int)) = false := by simp; omega
  rw [aHW (by omega), oU, place] at hpl
  simp (disch := omega) only [aC, aW, aGP, aA, cL, c1, aI, eA, aX, d1, aE]
  exact hR _ (by rw [<- hpl]; exact o4) x4
theorem aBN {log N p6 : Nat} {c1 t2 : aJb} {w : aJa} (hN1 : 32 <= N) (hN2 : N <= 32768) (o6 : cJ w p6 [.int .i64 log, .slice none 0 0])
 {k0 : aJb -> aJb -> aJb -> aJb -> aJa -> Prop}
 (hR : ∀ w' b cc rest, cJ w' p6 [.int .i64 log, .slice (some ⟨b, 0, none⟩) N cc] -> cJ w' b (fe .i64 (m3 (List.replicate N (-1))) ++ rest) -> N <= cc -> w.heap.size <= b -> aS w w' (fun y => y = p6 ∨ w.heap.size <= y) -> k0 c1 t2 (.int .i64 N) (.pointer (some ⟨p6, 0, none⟩)) w') :
 AS k0 c1 t2 (.int .i64 N) (.pointer (some ⟨p6, 0, none⟩)) (.int .i64 0) w := by
 have l6 := o6.lt
 unfold AS
 refine cG.rule (fun m t w' => ∃ (i : Nat) (v : aJb), m = N - i /\ t = .int .i64 i /\ i <= N /\ cJ w' p6 [.int .i64 log, v] /\ sN w' w.heap.size 3 v i (fe .i64 (m3 (List.replicate i (-1)))) /\ aS w w' (fun y => y = p6 ∨ w.heap.size <= y)) N
  ⟨0, _, rfl, rfl, by omega, o6, sN.nil _ _ _, aS.refl _ _⟩ ?_
 rintro m t w1 ⟨i, v, rfl, rfl, hi, o1, os, x1⟩
 have c1' := o1.cell (off := 1)
 simp only [aGQ, aGR] at c1'
 unfold A2
 by_cases hlt : i < N
 .have d1 : decide ((i : Int) < (N : Int)) = true := by simp only [decide_eq_true_eq]; omega
  simp (disch := omega) only [aC, aX, d1, bQ, aGP, pN, bM, aT, aA, bN, c1', aI, aF]
  refine Cc (cells := #[.int .i64 (-1), .int .i64 0, .int .i64 0]) (by decide) (by decide) (by kernel_rfl) fun w2 o2 x2 s2 => ?_
  refine tH (os.ext x2 (fun _ _ h => h)) (o2.cl (off := 0) (l := [.int .i64 (-1), .int .i64 0, .int .i64 0]) rfl (fun i hi => by rw [aGP])) (by simp [one]) (aHS x1.size x2.size) (by omega) fun v3 w3 o3 x3 => ?_
  have o13 := (o1.ext x2 (fun h => h)).ext x3 (by omega)
  refine OJ o13 ?_ (by simp) fun w4 o4 x4 s4 => ?_
  .obtain ⟨a, c, e⟩ := o3.len
   rw [e] <;> rfl
  simp only [aGS, aGU] at o4
  refine ⟨N - (i + 1), by omega, i + 1, v3, rfl, rfl, by omega, o4, ?_, ?_⟩
  .have e : fe .i64 (m3 (List.replicate (i + 1) (-1))) = fe .i64 (m3 (List.replicate i (-1))) ++ [.int .i64 (-1), .int .i64 0, .int .i64 0] := by
    rw [List.replicate_succ']; unfold m3; rw [aHw, aqN] <;> rfl
   rw [e]
   exact o3.ext x4 (fun b hb h => by omega)
  .exact ((x1.seq (x2.mono fun _ _ h => h.elim)).seq (x3.mono fun _ _ h => .inr h)).seq (x4.mono fun _ _ h => .inl h)
 .have d1 : decide ((i : Int) < (N : Int)) = false := by simp only [decide_eq_false_iff_not]; omega
  have : i = N := by omega
  subst this
  simp (disch := omega) only [aC, aX, d1, bQ, aGP, pN, bM, aT, aA, bN, aE]
  rcases os.2 with ⟨_, h⟩ | ⟨b, c, rest, rfl, h2, h3, h4, h5⟩
  .omega
  .exact hR _ b c rest o1 h3 h5 h2 x1
theorem aDp {k : IntKind} {L : List T3} {rest : List aJb} {i : Nat} (h : i < L.length) (x : Int) : (fe k L ++ rest).set (i * 3 + 1) (.int .i64 x) = fe k (L.set i (L[i].1, x, L[i].2.2)) ++ rest := by
 rw [aIl _ _ (by rw [kR]; omega), (adZ k L i h x).2.1]
theorem aB1 {k : IntKind} {L : List T3} {rest : List aJb} {i : Nat} (h : i < L.length) (x : Int) : (fe k L ++ rest).set (i * 3 + 2) (.int .i64 x) = fe k (L.set i (L[i].1, L[i].2.1, x)) ++ rest := by
 rw [aIl _ _ (by rw [kR]; omega), (adZ k L i h x).2.2]
theorem aBe {log N cc p1 p6 b ns : Nat} {ps S : List Int} {sv t2 : aJb} {rest : List aJb} {w0 w : aJa} (hm : Sw log ps) (L : Lay log ps S) (hN : 2 ^ log = N) (hs : Sl w0 sv (ps.map (Value.int .i64))) (hx : aS w0 w cM) (hcc : N <= cc)
 {i : Nat} (hlt : i < N) (hne : p1 ≠ b /\ p6 ≠ b /\ ns ≠ b /\ p1 ≠ ns /\ p6 ≠ ns)
 (o1 : cJ w p1 [.int .i64 log, sv]) (o6 : cJ w p6 [.int .i64 log, .slice (some ⟨b, 0, none⟩) N cc]) (ob : cJ w b (fe .i64 (Es log ps S i) ++ rest)) (os : cJ w ns ((cn S i).map (Value.int .i64)))
 {kn : aJb -> aJb -> aJb -> aJb -> aJb -> aJb -> aJa -> Prop} {R : aJb -> aJa -> Prop}
 (hR : ∀ w', cJ w' b (fe .i64 (Es log ps S (i + 1)) ++ rest) -> cJ w' ns ((cn S (i + 1)).map (Value.int .i64)) -> aS w w' (fun y => y = ns ∨ y = b) →
  kn (.pointer (some ⟨p1, 0, none⟩)) t2 (.int .i64 N) (.pointer (some ⟨p6, 0, none⟩)) (.pointer (some ⟨ns, 0, none⟩)) (.int .i64 ((i + 1 : Nat) : Int)) w') :
 AP kn R (.pointer (some ⟨p1, 0, none⟩)) t2 (.int .i64 N) (.pointer (some ⟨p6, 0, none⟩)) (.pointer (some ⟨ns, 0, none⟩)) (.int .i64 i) w := by
 have h15 := hm.log15
 have hlen := hm.len256
 have hN2 : 2 ^ log <= 2 ^ 15 := aG0 (by omega) h15
 have hSl : S.length = 2 ^ log := L.len
 obtain ⟨a, c, rfl, hc⟩ := hs.lenI
 have c1 := o1.cell (off := 1)
 have c6 := o6.cell (off := 1)
 simp only [aGQ, aGR] at c1 c6
 have hltN : i < 2 ^ log := by omega
 obtain ⟨s, hsl, hsS, hp1, hp2, hk', hcnt⟩ := Xg hm L hltN
 obtain ⟨k, hkk⟩ : ∃ k, k = kAt ps S i := ⟨_, rfl⟩
 rw [<- hkk] at hk'
 have hk2 : k < 2 ^ (log + 1) := by rw [aHf]; omega
 have hel : i < (Es log ps S i).length := by rw [ET]; exact hltN
 have hE0 : (Es log ps S i)[i]'hel = ((s : Int), 0, 0) := by rw [aCG hltN, hsS]
 have g0 := ob.cell (off := i * 3)
 rw [aG6 (by rw [kR]; omega), (adI .i64 (Es log ps S i) i hel).1, hE0] at g0
 simp only at g0
 obtain ⟨b', off', c', e, _, hcell⟩ := (hs.ext hx (cD _)).openI (by omega)
 cases e
 have g1 := hcell s hsl
 have hlow := hm.low _ (aG7 hsl)
 have hSi : S[i]'(by omega) = (s : Int) := by rw [<- hsS, aG3, aGX (by omega)] <;> rfl
 have gs := os.cell (off := s)
 rw [aHg, aGX (by rw [adR]; omega), axQ (by omega)] at gs
 simp only [aHz] at gs
 have hcs := aE1 (S := S) (i := i) (s := s) (by omega) (by omega) hSi
 have d1 : decide ((s : Int) < 0) = false := by simp
 have d2 : decide ((ps.length : Int) <= (s : Int)) = false := by simp; omega
 unfold AP GM Q3 Hu
 simp (disch := omega) only [aC, bQ, aGP, aW, aA, dC, bN, c6, aI, fL, aGO, iG, bZ, g0, aX, d1, dG, bO, aGW, if_false, bP, cL, c1, eA, pD, d2, aE]
 have hpn := lK hlow
 have hcl : (S.take i).count (s : Int) <= i := by
  have := aI8 (a := (s : Int)) (l := S.take i)
  rw [aG4] at this; omega
 have c10 := o1.cell (off := 0)
 simp only [aGQ] at c10
 have ek : (((S.take i).count (s : Int) : Nat) : Int) + cR ps[s] = (k : Int) := by rw [hk']; omega
 have h9 : CY (fun bJ t2 eJ t6 cA jI w => zB kn bJ t2 eJ t6 cA jI w) (.pointer (some ⟨p1, 0, none⟩)) t2 (.int .i64 N) (.pointer (some ⟨p6, 0, none⟩)) (.pointer (some ⟨ns, 0, none⟩)) (.int .i64 i) (.int .i64 (s : Int)) (.int .i64 (cR ps[s])) w := by
  unfold CY JI
  simp (disch := omega) only [aC, PX, aGO, aGP, cQ, aA, bZ, gs, aI, bM, ek, aT]
  refine sH os rfl (by rw [aG1, adR]; omega) fun w2 os2 x2 s2 => ?_
  rw [<- aIq, hcs] at os2
  have o12 := o1.ext x2 (by omega)
  have o62 := o6.ext x2 (by omega)
  have ob2 := ob.ext x2 (by omega)
  have c12 := o12.cell (off := 0)
  have c62 := o62.cell (off := 1)
  simp only [aGQ, aGR] at c12 c62
  simp (disch := omega) only [c12, aI, aA]
  unfold KF JB
  refine aBH (w0 := w0) h15 (by omega) hk2 o12 ?_
  unfold CI
  obtain ⟨nbits, hnbits⟩ : ∃ x, x = log + 1 - bl k := ⟨_, rfl⟩
  obtain ⟨eb1, eb2, eb3, eb4⟩ := akM (log := log) (k := k) (by omega) hk2
  rw [<- hnbits] at eb1 eb2 ⊢
  have hent : F2 log ps S i = Da log (s : Int) k := by unfold F2; rw [hsS, <- hkk]
  have hes := aDn (log := log) (ps := ps) (S := S) (i := i) hltN
  rw [hent] at hes
  simp (disch := omega) only [aC, bQ, aGP, eC, Result.ok.injEq, Next.value.injEq, and_true, true_and, aA, bN, c62, aI, fL, aGO, mX]
  refine sH ob2 rfl (by rw [aGY, kR, ET]; omega) fun w3 ob3 x3 s3 => ?_
  rw [aDp hel, hE0] at ob3
  have o63 := dO (o62.ext x3 (by omega))
  have ob3 := dO ob3
  have c63 := o63.cell (off := 1)
  simp only [aGQ, aGR] at c63
  simp (disch := omega) only [c63, aI, aA, fL, aGO, aGP, mZ, true_and]
  refine (Um nbits (by omega) _).mono ?_
  rintro r w4 ⟨rfl, rfl⟩
  have hA := aHS (aHS (aHt (2 ^ nbits) (show k <= k + 1 by omega)) eb2) (aG0 (show 0 < 2 by omega) (show log + 1 <= 16 by omega))
  have hpw : ((2 ^ nbits : Nat) : Int) = (2 : Int) ^ nbits := by simp
  rw [<- hpw]
  have em : (k : Int) * ((2 ^ nbits : Nat) : Int) = ((k * 2 ^ nbits : Nat) : Int) := by simp
  have e5 : (((k * 2 ^ nbits : Nat) : Int) - (N : Int)) = (Da log (s : Int) k).2.2 := by
   unfold Da
   simp only
   rw [<- hnbits, <- hN]
   simp
  have e7 : (Da log (s : Int) k) = ((s : Int), (nbits : Int), (Da log (s : Int) k).2.2) := by unfold Da; rw [hnbits]
  generalize hq : k * 2 ^ nbits = q at *
  have e6 : IntKind.i64.wrap ((q : Int) - (N : Int)) = (q : Int) - (N : Int) := aT (by omega) (by omega)
  have ew : IntKind.i64.wrap (q : Int) = (q : Int) := aT (by omega) (by omega)
  generalize hbase : (Da log (s : Int) k).2.2 = base at *
  rw [e5] at e6
  simp (disch := omega) only [c63, aI, pH, em, ew, aA, dZ, e5, e6, true_and]
  have hel5 : i < ((Es log ps S i).set i ((s : Int), (nbits : Int), 0)).length := by simpa using hel
  refine sH ob3 rfl (by rw [aGY, kR]; simp [ET]; omega) fun w5 ob5 x5 s5 => ?_
  rw [aB1 hel5] at ob5
  simp only [aIH, List.set_set] at ob5
  rw [<- e7, hes] at ob5
  unfold zB
  simp (disch := omega) only [aC, bM, aT, aA]
  refine hR _ ob5 ((dO (os2.ext x3 (by omega))).ext x5 (by omega)) ?_
  exact (((x2.mono fun _ _ h => .inl h : aS w w2 (fun y => y = ns ∨ y = b)).seq (x3.mono fun _ _ h => .inr h)).seq (aS.dr _ _)).seq (x5.mono fun _ _ h => .inr h)
 unfold HA HS
 by_cases hneg : ps[s] < 0
 .have d3 : decide (ps[s] < 0) = true := by simpa using hneg
  have ep : cR ps[s] = 1 := by unfold cR; rw [if_pos hneg]
  rw [ep] at h9
  simp (disch := omega) only [aC, aW, aGP, aA, cL, c1, aI, dJ, aGO, bZ, g1, aX, d3, aF]
  exact h9
 .have d3 : decide (ps[s] < 0) = false := by simpa using hneg
  have ep : cR ps[s] = ps[s] := by unfold cR; rw [if_neg hneg]
  rw [ep] at h9
  simp (disch := omega) only [aC, aW, aGP, aA, cL, c1, aI, dJ, aGO, bZ, g1, aX, d3, aE]
  exact h9
theorem aAP {log N cc p1 p2 p6 b : Nat} {ps S : List Int} {sv : aJb} {rest : List aJb} {w0 w : aJa} (hm : Sw log ps) (L : Lay log ps S) (hN : 2 ^ log = N) (hs : Sl w0 sv (ps.map (Value.int .i64))) (hx : aS w0 w cM) (hcc : N <= cc)
 (hne : p1 ≠ b /\ p6 ≠ b /\ p2 ≠ b /\ p2 ≠ p6 /\ p1 ≠ p2) (hlo : w0.heap.size <= b /\ w0.heap.size <= p2)
 (o1 : cJ w p1 [.int .i64 log, sv]) (o2 : cJ w p2 [.int .i64 0, .slice none 0 0]) (o6 : cJ w p6 [.int .i64 log, .slice (some ⟨b, 0, none⟩) N cc]) (ob : cJ w b (fe .i64 (m3 S) ++ rest)) {R : aJb -> aJa -> Prop}
 (hR : ∀ w', cJ w' b (fe .i64 (Es log ps S N) ++ rest) -> aS w0 w' cM -> R (.tuple #[.agg #[.int .i64 log, .slice (some ⟨b, 0, none⟩) N cc], .int .i64 0]) w') :
 AM R (.pointer (some ⟨p1, 0, none⟩)) (.pointer (some ⟨p2, 0, none⟩)) (.int .i64 N) (.pointer (some ⟨p6, 0, none⟩)) w := by
 have hN2 : 2 ^ log <= 2 ^ 15 := aG0 (by omega) hm.log15
 unfold AM Gz
 refine arO fun w1 os x1 s1 => ?_
 obtain ⟨cs, hcs, os⟩ : ∃ cs, cs = List.replicate 256 (Value.int .i64 0) /\ cJ w1 w.heap.size cs := ⟨_, by kernel_rfl, os⟩
 rw [hcs] at os
 have os : cJ w1 w.heap.size ((cn S 0).map (Value.int .i64)) := by rw [aDN, aIV]; exact os
 have l1 := o1.lt
 have l2 := o2.lt
 have l6 := o6.lt
 have lb := ob.lt
 have hxs := hx.size
 have o1 := o1.ext x1 (fun h => h)
 have o2 := o2.ext x1 (fun h => h)
 have o6 := o6.ext x1 (fun h => h)
 have ob := ob.ext x1 (fun h => h)
 have x01 := hx.seq x1
 generalize w.heap.size = ns at *
 have ob : cJ w1 b (fe .i64 (Es log ps S 0) ++ rest) := by rw [azS L.len]; exact ob
 unfold Hc HL Ho GX G6
 refine cG.rule (fun m t w' => ∃ i : Nat, m = N - i /\ t = .int .i64 i /\ i <= N /\ cJ w' b (fe .i64 (Es log ps S i) ++ rest) /\ cJ w' ns ((cn S i).map (Value.int .i64)) /\ aS w1 w' (fun y => y = ns ∨ y = b)) N ⟨0, rfl, rfl, by omega, ob, os, aS.refl _ _⟩ ?_
 rintro m t w2 ⟨i, rfl, rfl, hi, ob2, os2, x2⟩
 have x02 : aS w0 w2 cM := x01.trans x2 (fun y hy hh => by omega)
 have o62 := o6.ext x2 (by omega)
 unfold AK Hh
 by_cases hlt : i < N
 .have d1 : decide ((i : Int) < (N : Int)) = true := by simp only [decide_eq_true_eq]; omega
  simp (disch := omega) only [aC, aX, d1, aA, aF]
  refine aBe hm L hN hs x02 hcc hlt (by omega) (o1.ext x2 (by omega)) o62 ob2 os2 fun w3 ob3 os3 x3 => ?_
  exact ⟨N - (i + 1), by omega, i + 1, rfl, rfl, by omega, ob3, os3, x2.trans x3 (fun _ _ h => h)⟩
 .have d1 : decide ((i : Int) < (N : Int)) = false := by simp only [decide_eq_false_iff_not]; omega
  have : i = N := by omega
  subst this
  have l4 := dB (off := 0) o62 (by simp)
  simp only [aGT, aGN, aGV] at l4
  simp (disch := omega) only [aC, aX, d1, aA, aE]
  unfold DN
  simp (disch := omega) only [aC, l4, aA]
  refine eM (o2.ext x2 (by omega)) rfl (by simp [one]) (by simp) fun w5 o25 x5 s5 => ?_
  refine qW o25 (by simp [aV]) ?_
  simp only [aV, aGS, aGU, aGT, aGN, aGV]
  exact hR _ (ob2.ext x5 (by omega)) (x02.new x5 hlo.2)
theorem akU {log : Nat} {sv : aJb} {ps : List Int} {w : aJa} (hm : Sw log ps) (hs : Sl w sv (ps.map (Value.int .i64))) :
 aR pg AA #[.agg #[.int .i64 log, sv]] w (fun r w' => ∃ b cc rest, r = .tuple #[.agg #[.int .i64 log, .slice (some ⟨b, 0, none⟩) (2 ^ log) cc], .int .i64 0] /\ w.heap.size <= b /\ cJ w' b (fe .i64 (jY log ps) ++ rest) /\ aS w w' cM) := by
 refine abD ?_
 have hlen := hm.len256
 have h15 := hm.log15
 have hN2 : 2 ^ log <= 2 ^ 15 := aG0 (by omega) h15
 have hN1 : 2 ^ 5 <= 2 ^ log := aG0 (by omega) hm.log5
 unfold agG Hr Hg
 refine fY fun w1 o1 x1 s1 => ?_
 refine gW fun w2 o2 x2 s2 => ?_
 have o1 := o1.ext x2 (fun h => h)
 have l1 := lG (off := 0) o1 (by simp [Value.cells])
 simp only [Value.cells, aGT, aGN, aGV] at l1
 simp (disch := omega) only [aC, l1, dC, aA, cQ, bZ]
 refine (ayK (most := 15) ((hs.ext x1 (cD _)).ext x2 (cD _)) (by omega)).mono ?_
 rintro r w3 ⟨rfl, x3⟩
 have hce := aAk (most := 15) hm hm.log15
 rw [show (((15 : Nat) : Int)) = 15 from rfl] at hce
 rw [hce]
 have e0 : ((0 : Int) != 0) = false := rfl
 have o1 := o1.ext x3 (fun h => h)
 have o2 := o2.ext x3 (fun h => h)
 have c0 := o1.cell (off := 0)
 simp only [Value.cells, aGQ] at c0
 simp (disch := omega) only [eT, e0, aA, c0, aI, aE]
 refine (Um log (by omega) _).mono ?_
 rintro r w4 ⟨rfl, rfl⟩
 have hpow : ((2 ^ log : Nat) : Int) = (2 : Int) ^ log := by simp
 rw [<- hpow]
 simp (disch := omega) only [c0, aI, aA, uF]
 refine gW fun w5 o5 x5 s5 => ?_
 refine eM o5 rfl (by simp [one]) (by simp) fun w6 o6 x6 s6 => ?_
 simp only [aV, aGS, aGU] at o6
 have l1 := o1.lt
 have l2 := o2.lt
 have l6 := o6.lt
 have z1 := x1.size
 have z2 := x2.size
 have z3 := x3.size
 have z5 := x5.size
 have z6 := x6.size
 have o1 := (o1.ext x5 (fun h => h)).ext x6 (by omega)
 have o2 := (o2.ext x5 (fun h => h)).ext x6 (by omega)
 have x06 : aS w w6 cM := ((((x1.seq x2).seq x3).seq x5)).new x6 (by omega)
 have hne : w.heap.size ≠ w1.heap.size /\ w.heap.size ≠ w4.heap.size /\ w1.heap.size ≠ w4.heap.size := by omega
 have hp12 : w.heap.size <= w1.heap.size /\ w1.heap.size <= w4.heap.size := by omega
 obtain ⟨p1, hp1⟩ : ∃ p1, p1 = w.heap.size := ⟨_, rfl⟩
 generalize w1.heap.size = p2 at *
 generalize w4.heap.size = p6 at *
 rw [<- hp1] at o1 ⊢
 obtain ⟨arr, ht, harr, hneg, hsp⟩ := ahA hm (-1)
 have hlay := uY hm (-1)
 have hEs := aCM log ps
 rw [aBi hm 0 (-1)] at hEs
 rw [hsp] at hlay hEs
 generalize hN : 2 ^ log = N at *
 unfold G0 Hv GK HI
 refine aBN (by omega) (by omega) o6 fun w7 b cc rest o67 ob hcc hb x7 => ?_
 have o17 := o1.ext x7 (by omega)
 have o27 := o2.ext x7 (by omega)
 have x07 : aS w w7 cM := x06.trans x7 (fun y hy hh => by omega)
 unfold Hq HO
 simp (disch := omega) only [aC, dZ, aT, aA]
 unfold G8 Gx HX HH
 refine aAS hm hs x07 (by omega) hcc (by simp) (by omega) ht (by omega) (by omega) o17 o67 ob fun w8 ob8 x8 => ?_
 have x08 := x07.new x8 (by omega)
 have o18 := o17.ext x8 (by omega)
 have o28 := o27.ext x8 (by omega)
 have o68 := o67.ext x8 (by omega)
 unfold Gt GJ G5 G3 HE GL
 refine ayM hm hs x08 (by omega) (by omega) hcc harr rfl (by omega) (by omega) (by omega) o18 o68 ob8 fun w9 ob9 x9 => ?_
 have x09 := x08.new x9 (by omega)
 refine aAP hm hlay hN hs x09 hcc (by omega) (by omega) (o18.ext x9 (by omega)) (o28.ext x9 (by omega)) (o68.ext x9 (by omega)) ob9 fun w10 ob10 x10 => ?_
 rw [hEs] at ob10
 exact ⟨b, cc, rest, rfl, by omega, ob10, x10⟩
structure yQ (k : Nat) (T : Nat × List T3) : Prop where
 lg : T.1 <= 9
 len : T.2.length = 2 ^ T.1
 low : Low T.2
 sym : ∀ e ∈ T.2, ∃ c : Nat, e.1 = (c : Int) /\ c < kZ k
 nxt : ∀ e ∈ T.2, e.2.2 + ((2 ^ e.2.1.toNat : Nat) : Int) <= (T.2.length : Int)
theorem aBZ {k c : Nat} (hc : c < kZ k) : yQ k (0, [((c : Int), 0, 0)]) := by
 refine ⟨aHZ _, rfl, ?_, ?_, ?_⟩
 .intro e he; obtain rfl := aH2.1 he; exact ⟨0, rfl, by omega, Int.le_refl _, show (0 : Int) <= 100000 by decide⟩
 .intro e he; obtain rfl := aH2.1 he; exact ⟨c, rfl, hc⟩
 .intro e he; obtain rfl := aH2.1 he; show (0 : Int) + ((2 ^ (0 : Int).toNat : Nat) : Int) <= ((1 : Nat) : Int); decide
theorem amV {k lg : Nat} {ps : List Int} (hm : Sw lg ps) (h9 : lg <= 9) (hl : ps.length <= kZ k) : yQ k (lg, jY lg ps) := by
 refine ⟨h9, iW _ _, azE hm, ?_, ?_⟩
 .intro e he
  obtain ⟨i, hi, rfl⟩ := aHl he
  have h2 : i < 2 ^ lg := by rw [iW] at hi; exact hi
  obtain ⟨s, hs, e, _⟩ := Xg hm (uY hm 0) h2
  exact ⟨s, by rw [Wt lg ps h2, e], by omega⟩
 .intro e he
  obtain ⟨i, hi', rfl⟩ := aHl he
  have hi := hi'
  rw [iW] at hi
  have hat := acX (ps := ps) hi
  rw [aGX hi'] at hat
  rw [aG8 hat]
  have L := uY hm 0
  obtain ⟨s, hs, hg, hp1, hp2, hk, hc⟩ := Xg hm L hi
  have hk2 : kAt ps (gD 0 lg ps) i < 2 ^ (lg + 1) := by rw [aHf]; omega
  obtain ⟨e1, e2, e3, e4⟩ := akM (log := lg) (k := kAt ps (gD 0 lg ps) i) (by omega) hk2
  have hpow : ((2 ^ lg : Nat) : Int) = (2 : Int) ^ lg := by simp
  show (F2 lg ps (gD 0 lg ps) i).2.2 + ((2 ^ (F2 lg ps (gD 0 lg ps) i).2.1.toNat : Nat) : Int) <= ((jY lg ps).length : Int)
  rw [iW]
  unfold F2 Da
  rw [<- hpow]
  show ((kAt ps (gD 0 lg ps) i * 2 ^ (lg + 1 - bl (kAt ps (gD 0 lg ps) i)) : Nat) : Int) - ((2 ^ lg : Nat) : Int) + ((2 ^ (((lg + 1 - bl (kAt ps (gD 0 lg ps) i) : Nat) : Int)).toNat : Nat) : Int) <= ((2 ^ lg : Nat) : Int)
  rw [aGO]
  rw [aIT, aHf] at e2
  generalize kAt ps (gD 0 lg ps) i * 2 ^ (lg + 1 - bl (kAt ps (gD 0 lg ps) i)) = X at *
  generalize 2 ^ (lg + 1 - bl (kAt ps (gD 0 lg ps) i)) = Y at *
  omega
theorem aFv {k : Nat} (hk : k < 3) : (gvP (k : Int)).length <= kZ k := by
 rcases (show k = 0 ∨ k = 1 ∨ k = 2 by omega) with rfl | rfl | rfl <;> decide
theorem aAA {k : Nat} (hk : k < 3) : mM (k : Int) = ((kZ k : Nat) : Int) - 1 := by
 rcases (show k = 0 ∨ k = 1 ∨ k = 2 by omega) with rfl | rfl | rfl <;> rfl
theorem asO {k : Nat} (hk : k < 3) : yQ k (Yt (k : Int), jY (Yt (k : Int)) (gvP (k : Int))) :=
 amV (akS (by omega)) (by unfold Yt; split <;> (try split) <;> omega) (aFv hk)
theorem anF {k mode n : Nat} {l : List UInt8} {T T' : Nat × List T3} (hk : k < 3) (hT : mode = 3 -> T.2 ≠ [] -> yQ k T) (h : gE (k : Int) (mode : Int) l T = .ok (T', n)) : yQ k T' /\ n <= l.length := by
 have hc53 : kZ k <= 53 := by rcases (show k = 0 ∨ k = 1 ∨ k = 2 by omega) with rfl | rfl | rfl <;> decide
 have hc0 : 0 < kZ k := by rcases (show k = 0 ∨ k = 1 ∨ k = 2 by omega) with rfl | rfl | rfl <;> decide
 unfold gE at h
 rw [aAA hk] at h
 split at h
 .cases h
 split at h
 .cases h; exact ⟨asO hk, aHZ _⟩
 split at h
 .split at h
  .cases h
  .split at h
   .cases h
   .cases h
    rename_i hx
    exact ⟨aBZ (by omega), by simp⟩
 split at h
 .split at h
  .cases h
  .cases h
   rename_i hm hne
   exact ⟨hT (by omega) hne, aHZ _⟩
 .split at h
  .cases h
  .rename_i lg ps u hr
   cases h
   obtain ⟨h1, h2, h3⟩ := alI hr
   have h4 := aoB hr
   rw [lQ] at h4
   have h5 : Cp (k : Int) <= 9 := by unfold Cp; split <;> (try split) <;> omega
   exact ⟨amV (h1 (by omega)) (by omega) (by omega), by omega⟩
theorem AtI.mono {v : aJb} {lo hi lo' hi' : Nat} (h : AtI v lo hi) (h1 : lo' <= lo) (h2 : hi <= hi') : AtI v lo' hi' := fun M hM => h M fun b hb hh => hM b (by omega) (by omega)
theorem axP {x : ByteArray} {w : aJa} (he : Zp (lC x) = none) (hl : x.size <= 1000000) :
 aR pg Gl #[.string x] w (fun r w' => r = .tuple #[.agg #[.slice none 0 0, .int .i64 0], .int .i64 11] /\ aS w w' cM) := by
 refine SS ?_
 have hll := kG x
 unfold acO IQ IC
 refine jA fun w1 o1 x1 s1 => ?_
 rcases aHT x.size with h0 | h0
 .have hx : x = ⟨#[]⟩ := aAt (aHq.1 (by rw [hll, h0]))
  subst hx
  simp (disch := omega) only [aC, aeM, aEj, nD, aA, jE, bO, if_true, aF, dV]
  refine bU o1 rfl (by simp [one]) (by simp) fun w6 o6 x6 s6 => ?_
  refine gY o6 (by simp [aV]) ⟨rfl, ?_⟩
  exact x1.new x6 (aGZ _)
 .rw [I4 (by omega)] at he
  have hg : (x[x.size - 1]'(by omega)).toNat = 0 := by
   rw [YS]
   simp only [hll] at he
   split at he
   .assumption
   .cases he
  have e1 : (x.size : Int) - 1 = ((x.size - 1 : Nat) : Int) := by omega
  have d2 : (((0 : Nat) : Int) == 0) = true := rfl
  have hne := axD h0
  simp (disch := omega) only [aC, aeM, hne, nD, aA, dG, bO, aGW, if_false, bP, rH, dZ, e1, aT, tK, aGO, hg, cW, d2, aF]
  refine bU o1 rfl (by simp [one]) (by simp) fun w6 o6 x6 s6 => ?_
  refine gY o6 (by simp [aV]) ⟨rfl, ?_⟩
  exact x1.new x6 (aGZ _)
def RB (w : aJa) (lo hi : Nat) (b : aJb) (L : List Bool) (lack : Nat) : Prop := ∃ v, b = .agg #[v, .int .i64 lack] /\ Bl w v L /\ AtI v lo hi
theorem RB.ext {w w' : aJa} {lo hi lack : Nat} {b : aJb} {L : List Bool} {M : Nat -> Prop} (h : RB w lo hi b L lack) (hx : aS w w' M) (hM : ∀ b, lo <= b -> b < hi -> ¬ M b) : RB w' lo hi b L lack := by
 obtain ⟨v, h1, h2, h3⟩ := h
 exact ⟨v, h1, h2.ext hx (h3 M hM), h3⟩
theorem aAN {x : ByteArray} {k : Nat} {w : aJa} (he : Zp (lC x) = some k) (hl : x.size <= 1000000) :
 aR pg Gl #[.string x] w (fun r w' => ∃ b hi, r = .tuple #[b, .int .i64 0] /\ hi <= w'.heap.size /\ RB w' w.heap.size hi b ((bE (lC x)).take k) 0 /\ aS w w' cM) := by
 refine SS ?_
 have hll := kG x
 obtain ⟨h0, hk1, hk2, htop, hoff⟩ := OC he
 unfold acO IQ IC
 refine jA fun w1 o1 x1 s1 => ?_
 rw [I4 (by omega)] at he
 have hg : (x[x.size - 1]'(by omega)).toNat ≠ 0 := by
  rw [YS]
  simp only [hll] at he
  split at he
  .cases he
  .assumption
 have e1 : (x.size : Int) - 1 = ((x.size - 1 : Nat) : Int) := by omega
 have hne := axD (show 0 < x.size by omega)
 have d2 : (((x[x.size - 1]'(by omega)).toNat : Int) == 0) = false := by simpa using hg
 simp (disch := omega) only [aC, aeM, hne, nD, aA, dG, bO, aGW, if_false, bP, rH, dZ, e1, aT, tK, aGO, cW, d2, aE]
 refine (amY hl).mono ?_
 rintro r w2 ⟨o2, x2⟩
 have hat := sN.atI o2
 have hs := o2.sl
 have hbl := lQ (lC x)
 obtain ⟨a, c, rfl⟩ := o2.len
 have o12 := o1.ext x2 (fun h => h)
 simp (disch := omega) only [qS, aA, dZ, aT]
 unfold QQ PV QN
 refine cG.rule (fun m (t : aJb) w' => t = .int .i64 m /\ k <= m /\ m < 8 * x.size /\ w' = w2) (8 * x.size - 1)
  ⟨by have : ((8 * x.size : Nat) : Int) - 1 = ((8 * x.size - 1 : Nat) : Int) := by omega
      rw [this], by omega, by omega, rfl⟩ ?_
 rintro m t w3 ⟨rfl, hm1, hm2, rfl⟩
 unfold II
 obtain ⟨b, off, c', e, _, hcell⟩ := aCu hs (by omega)
 rw [hbl, hll] at e
 cases e
 have hgm : (bE (lC x))[m]? = some (decide (m = k)) := by
  by_cases h : m = k
  .subst h; simpa using htop
  .rw [hoff m (by omega) (by omega)]; simp [h]
 have g := hcell m (by omega)
 rw [aGX (by omega)] at hgm
 rw [aG8 hgm] at g
 by_cases h : m = k
 .subst h
  have d3 : decide (m = m) = true := by simp
  have hsl := hs.take' (k := m) (by omega)
  have hsub : AtI (.slice (iO (some ⟨b, off, none⟩) c 0 1) (m - 0) (c - 0)) w1.heap.size w3.heap.size := AtI.sub hat (by omega)
  rw [<- aIM] at hsl
  unfold Iy
  simp (disch := omega) only [aC, EK, aGO, dZ, aT, aA, Fz, vB, Uv, g, aI, Il, and_true]
  refine bU o12 rfl (by simp [one]) (by simp) fun w6 o6 x6 s6 => ?_
  refine gY o6 (by simp [aV]) ?_
  simp only [aV, aGS, aGU, aGT, aGN, aGV]
  have z1 := x1.size
  have z2 := x2.size
  refine ⟨_, w3.heap.size, rfl, by have := x6.size; omega, ⟨_, rfl, hsl.ext x6 (hsub _ fun b hb hh => by omega), AtI.mono hsub (by omega) (by omega)⟩, ?_⟩
  exact (x1.seq x2).new x6 (by omega)
 .have d3 : decide (m = k) = false := by simpa using h
  have e2 : (m : Int) - 1 = ((m - 1 : Nat) : Int) := by omega
  simp (disch := omega) only [aC, EK, aGO, dZ, e2, aT, aA, Uv, g, d3, aI, Il, aId, and_true, aF]
  exact ⟨m - 1, by omega, rfl, by omega, by omega⟩
theorem afF {lo hi lack n : Nat} {b : aJb} {L : List Bool} {w : aJa} (h : RB w lo hi b L lack) (hn : n <= 56) (hL : L.length <= 10000000) (hk : lack <= 1000000000) :
 aR pg uS #[b, .int .i64 n] w (fun r w' => ∃ b', r = .tuple #[b', .int .u64 (sO L n : Nat)] /\ RB w' lo hi b' (L.take (L.length - min n L.length)) (lack + (n - min n L.length)) /\ aS w w' cM) := by
 refine ahC ?_
 obtain ⟨RR, hRR⟩ : ∃ RR : aJb -> aJa -> Prop, RR = fun r w' => ∃ b', r = .tuple #[b', .int .u64 (sO L n : Nat)] /\ RB w' lo hi b' (L.take (L.length - min n L.length)) (lack + (n - min n L.length)) /\ aS w w' cM := ⟨_, rfl⟩
 rw [<- hRR]
 obtain ⟨v, rfl, hs, hat⟩ := h
 obtain ⟨a, c, rfl, hc⟩ := LU hs
 unfold anU J3 I7
 refine fY fun w1 o1 x1 s1 => ?_
 refine jA fun w2 o2 x2 s2 => ?_
 simp only [Value.cells] at o1
 have o1 := o1.ext x2 (fun h => h)
 have c0 := o1.cell (off := 0)
 simp only [aGQ, aGR] at c0
 have x02 : aS w w2 cM := x1.seq x2
 have hne : w.heap.size ≠ w1.heap.size := by omega
 obtain ⟨p1, hp1⟩ : ∃ p1, p1 = w.heap.size := ⟨_, rfl⟩
 obtain ⟨p2, hp2⟩ : ∃ p2, p2 = w1.heap.size := ⟨_, rfl⟩
 rw [<- hp1, <- hp2] at hne
 rw [<- hp1] at o1 c0 ⊢
 rw [<- hp2] at o2 ⊢
 have hw1 : w.heap.size <= p1 := by omega
 have hw2 : w.heap.size <= p2 := by omega
 have fin : ∀ (v : aJb) (l : Nat) (w' : aJa) (xx : Nat), cJ w' p1 [v, .int .i64 l] -> one v = true -> cJ w' p2 [.slice none 0 0, .int .i64 0] -> aS w w' cM →
     (∀ w'', aS w w'' cM -> RR (.tuple #[.agg #[v, .int .i64 l], .int .u64 xx]) w'') -> aC pg (aH 82 (.pointer (some ⟨p1, 0, none⟩))) w' fun t15 w => aC pg (aJ 82 (.pointer (some ⟨p2, 0, none⟩)) t15) w fun _u w => kC pg 82 (.pointer (some ⟨p2, 0, none⟩)) w fun r0 => RR (.tuple #[r0, .int .u64 xx]) w := by
  intro v l w' xx q1 qv q2 qx qk
  have l1 := cX (off := 0) q1 (by simp)
  simp only [aGT, aGN, aGV] at l1
  simp (disch := omega) only [aC, l1, aA]
  refine bU q2 rfl (by simp [one]; exact qv) (by simp) fun w6 o6 x6 s6 => ?_
  refine gY o6 (by simp [aV]) ?_
  simp only [aV, aGS, aGU, aGT, aGN, aGV]
  exact qk _ (qx.new x6 hw2)
 by_cases hn0 : n = 0
 .subst hn0
  have d1 : decide (((0 : Nat) : Int) < 1) = true := rfl
  simp (disch := omega) only [aC, aX, d1, iE, aA, sF, jE, bO, if_true, aF, dV]
  refine fin _ lack w2 0 o1 rfl o2 x02 fun w' x => ?_
  rw [hRR]
  refine ⟨.agg #[.slice a L.length c, .int .i64 lack], ?_, ⟨_, rfl, ?_, hat⟩, x⟩
  .have h0 : sO L 0 = 0 := by
    have := CZ L 0
    rw [Nat.pow_zero] at this; omega
   rw [h0]
  .have : L.take (L.length - min 0 L.length) = L := aHk (by omega)
   rw [this]
   exact hs.ext x (cD _)
 have d1 : decide ((n : Int) < 1) = false := by simp; omega
 have d2 : decide ((56 : Int) < (n : Int)) = false := by simp; omega
 have hlt := CZ L n
 have hp : 2 ^ n <= 2 ^ 56 := aG0 (by omega) hn
 have tail : ∀ k : Nat, k = min n L.length -> FI RR
     (.int .i64 n) (.pointer (some ⟨p1, 0, none⟩)) (.pointer (some ⟨p2, 0, none⟩)) (.int .i64 k) w2 := by
  intro k hk0
  rw [<- hk0] at hRR
  have hsd := (hs.ext x02 (cD _)).drop' (k := L.length - k) (by omega)
  rw [<- aI3] at hsd
  have hval : sO L n = sP (L.drop (L.length - k)) * 2 ^ (n - k) := by unfold sO; rw [<- hk0]
  have e1 : (L.length : Int) - (k : Int) = ((L.length - k : Nat) : Int) := by omega
  unfold FI Nf
  simp (disch := omega) only [aC, iE, aA, sF, c0, aI, qS, dZ, e1, aT, Of, aGO]
  refine (agV hsd (by rw [aHh]; omega)).mono ?_
  rintro r w3 ⟨rfl, rfl⟩
  generalize sP (L.drop (L.length - k)) = x0 at *
  unfold Nd NV Mx Mi Nx
  refine cG.rule (fun m (t : aJb × aJb) w' => ∃ i : Nat, m = n - i /\ t = (.int .u64 (x0 * 2 ^ (i - k) : Nat), .int .i64 i) /\ k <= i /\ i <= n /\ cJ w' p1 [.slice a L.length c, .int .i64 (lack + (i - k) : Nat)] /\ aS w3 w' (fun y => y = p1)) (n - k)
   ⟨k, rfl, by simp, by omega, by omega, by simpa using o1, aS.refl _ _⟩ ?_
  rintro m t w4 ⟨i, rfl, rfl, hi1, hi2, o4, x4⟩
  have c14 := o4.cell (off := 1)
  have c04 := o4.cell (off := 0)
  simp only [aGQ, aGR] at c14 c04
  unfold FC
  by_cases hlt2 : i < n
  .have d3 : decide ((i : Int) < (n : Int)) = true := by simp; omega
   have hle : x0 * 2 ^ (i + 1 - k) <= sO L n := by
    rw [hval]; exact Nat.mul_le_mul_left _ (aG0 (by omega) (by omega))
   have hsu : x0 * 2 ^ (i + 1 - k) = x0 * 2 ^ (i - k) * 2 := by rw [show i + 1 - k = i - k + 1 from by omega, aHf, Nat.mul_assoc]
   generalize x0 * 2 ^ (i - k) = y at *
   have e2 : ((lack + (i - k) : Nat) : Int) + 1 = ((lack + (i + 1 - k) : Nat) : Int) := by omega
   have e3 : (y : Int) * 2 = ((y * 2 : Nat) : Int) := by omega
   simp (disch := omega) only [aC, aX, d3, pH, e3, hJ, kV, aGP, bM, aT, aA, bZ, c14, aI, e2, aF]
   refine sH o4 rfl (by simp) fun w5 o5 x5 s5 => ?_
   simp only [aGS, aGU] at o5
   exact ⟨n - (i + 1), by omega, i + 1, by omega, by rw [hsu]; simp, by omega, by omega, o5, x4.seq x5⟩
  .have d3 : decide ((i : Int) < (n : Int)) = false := by simp; omega
   obtain rfl : i = n := by omega
   rw [<- hval]
   unfold Fq
   simp (disch := omega) only [aC, aX, d3, pH, hJ, kV, aGP, bM, aT, aA, bZ, iE, sF, c04, aI, qS, dZ, e1, Fz, aGO, aE]
   refine ayJ o4 rfl (by simp) fun w5 o5 x5 s5 => ?_
   simp only [aGS, aGU] at o5
   have x35 := x4.seq x5
   refine fin _ _ w5 _ o5 rfl (o2.ext x35 (by omega)) (x02.new x35 hw1) fun w' x => ?_
   rw [hRR]
   refine ⟨_, rfl, ⟨_, rfl, ?_, AtI.sub hat (by omega)⟩, x⟩
   have hst := hs.take' (k := L.length - k) (by omega)
   rw [<- aIM] at hst
   exact hst.ext x (cD _)
 by_cases hgt : L.length < n
 .have d3 : decide ((L.length : Int) < (n : Int)) = true := by simp; omega
  simp (disch := omega) only [aC, aX, d1, iE, aA, sF, dG, bO, aGW, if_false, bP, dP, d2, c0, aI, qS, d3, aF, aE]
  exact tail _ (by omega)
 .have d3 : decide ((L.length : Int) < (n : Int)) = false := by simp; omega
  simp (disch := omega) only [aC, aX, d1, iE, aA, sF, dG, bO, aGW, if_false, bP, dP, d2, c0, aI, qS, d3, aE]
  exact tail _ (by omega)
theorem aBJ {lo hi lack : Nat} {b : aJb} {L : List Bool} {w : aJa} (h : RB w lo hi b L lack) (hL : L.length <= 10000000) (hk : lack <= 1000000000) :
 aR pg Dn #[b] w (fun r w' => r = .int .i64 ((L.length : Int) - lack) /\ aS w w' cM) := by
 refine ahR ?_
 obtain ⟨v, rfl, hs, hat⟩ := h
 obtain ⟨a, c, rfl, hc⟩ := LU hs
 unfold alB M0
 refine fY fun w1 o1 x1 s1 => ?_
 simp only [Value.cells] at o1
 have c0 := o1.cell (off := 0)
 have c1 := o1.cell (off := 1)
 simp only [aGQ, aGR] at c0 c1
 simp (disch := omega) only [aC, iE, kV, aGP, aA, bZ, sF, c0, aI, qS, c1, dZ, aT, true_and]
 exact x1
theorem aFn {x : Nat} (hx : x < 256) (w : aJa) : aR pg zV #[.int .u8 x] w (fun r w' => r = .int .i64 (bl x : Nat) /\ w' = w) := by
 refine UG ?_
 have hg := anZ x hx
 have hs := O2
 have hb : bl x <= 8 := qT (n := 8) (by omega)
 unfold Ts Dx
 change aC pg (G4 9 (.string arR) _) w _
 simp (disch := omega) only [aC, tK, aGO, hg, aA, nO, aT, and_true]
def XG (w : aJa) (lo hi : Nat) (l : List UInt8) (left : Int) : Prop := ∃ v, cJ w hi [v, .int .i64 left] /\ Bs w v l /\ AtI v lo hi
theorem XG.ext {w w' : aJa} {lo hi : Nat} {left : Int} {l : List UInt8} {M : Nat -> Prop} (h : XG w lo hi l left) (hx : aS w w' M) (hM : ∀ b, lo <= b -> b <= hi -> ¬ M b) (hlh : lo <= hi) : XG w' lo hi l left := by
 obtain ⟨v, h1, h2, h3⟩ := h
 exact ⟨v, h1.ext hx (hM _ hlh (aGZ _)), h2.ext hx (h3 M fun b hb hh => hM b hb (by omega)), h3⟩
theorem ajM {v : aJb} {l : List UInt8} {w : aJa} (h : Bs w v l) (he : Zp l = none) (hl : l.length <= 1000000) :
 aR pg qG #[v] w (fun r w' => r = .tuple #[.pointer none, .int .i64 11] /\ w' = w) := by
 refine D3 ?_
 unfold EV sS
 rcases aHT l.length with h0 | h0
 .obtain ⟨a, n, c, rfl, hn, hc, hh⟩ := h
  rw [aG1, h0] at hn
  subst hn
  have d1 : (((0 : Nat) : Int) == 0) = true := rfl
  simp (disch := omega) only [aC, fO, true_and, eC, Result.ok.injEq, Next.value.injEq, and_true, aA, dZ, aT, pH, cW, d1, jE, bO, if_true, aF, dV]
 .obtain ⟨b, off, c, rfl, hc, hcell⟩ := aCY h h0
  rw [I4 h0] at he
  have g := hcell (l.length - 1) (by omega)
  generalize (l[l.length - 1]'(by omega)) = x at *
  have hx0 : x.toNat = 0 := by
   rcases aHT x.toNat with h | h
   .exact h
   .rw [if_neg (by omega)] at he; cases he
  rw [hx0] at g
  have d1 : ((l.length : Int) == 0) = false := by simp; intro h; subst h; simp at h0
  have e1 : (l.length : Int) - 1 = ((l.length - 1 : Nat) : Int) := by omega
  have d2 : (((0 : Nat) : Int) == 0) = true := rfl
  simp (disch := omega) only [aC, fO, true_and, eC, Result.ok.injEq, Next.value.injEq, and_true, aA, dZ, e1, aT, oM, aGO, mI, pH, cW, d1, dG, bO, aGW, if_false, bP, g, aI, d2, aF]
theorem akP {v : aJb} {l : List UInt8} {k : Nat} {w : aJa} (h : Bs w v l) (he : Zp l = some k) (hl : l.length <= 1000000) :
 aR pg qG #[v] w (fun r w' => ∃ hi, r = .tuple #[.pointer (some ⟨hi, 0, none⟩), .int .i64 0] /\ w.heap.size <= hi /\ hi < w'.heap.size /\ XG w' w.heap.size hi l k /\ aS w w' cM) := by
 refine D3 ?_
 unfold EV sS
 have h0 := (OC he).1
 obtain ⟨b, off, c, rfl, hc, hcell⟩ := aCY h h0
 rw [I4 h0] at he
 have g := hcell (l.length - 1) (by omega)
 generalize (l[l.length - 1]'(by omega)) = x at *
 have hx : x.toNat < 256 := aHi x
 have hx0 : x.toNat ≠ 0 := by
  intro h; rw [if_pos h] at he; cases he
 rw [if_neg hx0] at he
 have he := aG8 he
 have hb1 := GS hx0
 have hb2 : bl x.toNat <= 8 := qT (n := 8) (by omega)
 have d1 : ((l.length : Int) == 0) = false := by simp; intro h; subst h; simp at h0
 have e1 : (l.length : Int) - 1 = ((l.length - 1 : Nat) : Int) := by omega
 have d2 : ((x.toNat : Int) == 0) = false := by simpa using hx0
 simp (disch := omega) only [aC, fO, eC, Result.ok.injEq, Next.value.injEq, and_true, true_and, aA, dZ, e1, aT, oM, aGO, mI, pH, cW, d1, dG, bO, aGW, if_false, bP, g, aI, d2, aE]
 refine (Uq (h.ext (aS.dr _ cM) (cD _)) (by omega)).mono ?_
 rintro r w1 ⟨o1, x1⟩
 have x01 : aS w w1 cM := (aS.dr w cM).seq x1
 have g1 := akR g x01 (fun h => h)
 have hat := sN.atI o1
 have hs := o1.sl
 obtain ⟨a, c', rfl⟩ := o1.len
 have gd : (dr w).cell? ⟨b, off + (l.length - 1), none⟩ = some (.int .u8 (x.toNat : Nat)) := g
 simp (disch := omega) only [g1, aI, gd, Result.ok.injEq, Next.value.injEq, and_true, aA, true_and]
 refine (aFn hx _).mono ?_
 rintro r w2 ⟨rfl, rfl⟩
 have e2 : 8 * ((l.length - 1 : Nat) : Int) + (bl x.toNat : Nat) - 1 = (k : Int) := by omega
 simp (disch := omega) only [bM, aT, aA, dZ, e2, yA, true_and]
 refine fY fun w3 o3 x3 s3 => ?_
 simp only [Value.cells] at o3
 exact ⟨_, rfl, x01.size, by omega, ⟨_, o3, hs.ext x3 (cD _), hat⟩, x01.seq x3⟩
theorem apS {l : List UInt8} {lo hi : Nat} {left : Int} {w : aJa} (h : XG w lo hi l left) :
 aR pg oB #[.pointer (some ⟨hi, 0, none⟩)] w (fun r w' => r = .int .i64 left /\ w' = w) := by
 refine Pw ?_
 obtain ⟨v, o, hs, hat⟩ := h
 have c1 := o.cell (off := 1)
 simp only [aGQ, aGR] at c1
 unfold KC wG
 simp (disch := omega) only [aC, oI, aHe, rB, aA, nA, aGP, bZ, and_true, c1, aI, aE]
theorem afE {l : List UInt8} {lo hi n : Nat} {left : Int} {w : aJa} (h : XG w lo hi l left) (hlh : lo <= hi) (hn : n <= 56) (h1 : left <= 8 * l.length) (h2 : -1000000000 <= left) (hl : l.length <= 1000000) :
 aR pg lT #[.pointer (some ⟨hi, 0, none⟩), .int .i64 n] w (fun r w' =>
  r = .int .u64 (sO ((bE l).take left.toNat) n) /\ XG w' lo hi l (left - n) /\ aS w w' (fun y => y = hi)) := by
 refine OS ?_
 unfold J0 wJ
 by_cases hn0 : n = 0
 .subst hn0
  have d1 : decide (((0 : Nat) : Int) < 1) = true := rfl
  simp (disch := omega) only [aC, oI, aHe, rB, eC, and_true, aA, nA, aGP, bZ, true_and, uL, gA, dG, bO, aGW, if_false, bP, aX, d1, jE, if_true, aF, dV]
  have h0 : sO ((bE l).take left.toNat) 0 = 0 := by
   have := CZ ((bE l).take left.toNat) 0
   rw [Nat.pow_zero] at this; omega
  exact ⟨by rw [h0] <;> rfl, by simpa using h, aS.refl _ _⟩
 obtain ⟨v, o, hs, hat⟩ := h
 have c0 := o.cell (off := 0)
 have c1 := o.cell (off := 1)
 have od := dO o
 have c0d := od.cell (off := 0)
 have c1d := od.cell (off := 1)
 simp only [aGQ, aGR] at c0 c1 c0d c1d
 have d1 : decide ((n : Int) < 1) = false := by simp; omega
 have d2 : decide ((56 : Int) < (n : Int)) = false := by simp; omega
 obtain ⟨k0, hk0⟩ : ∃ k0, k0 = left.toNat := ⟨_, rfl⟩
 obtain ⟨th, hth⟩ : ∃ th, th = min n k0 := ⟨_, rfl⟩
 have e1 : (if (0 : Int) > left then 0 else left) = (k0 : Int) := by split <;> omega
 have e2 : (if (n : Int) < (k0 : Int) then (n : Int) else (k0 : Int)) = (th : Int) := by split <;> omega
 have e3 : (k0 : Int) - (th : Int) = ((k0 - th : Nat) : Int) := by omega
 have e4 : (n : Int) - (th : Int) = ((n - th : Nat) : Int) := by omega
 rw [<- hk0]
 have hlen : ((bE l).take k0).length = k0 := by rw [aG4, lQ]; omega
 have hlast : sO ((bE l).take k0) n = sP (((bE l).drop (k0 - th)).take th) * 2 ^ (n - th) := by
  unfold sO
  rw [hlen, <- hth, List.drop_take, show k0 - (k0 - th) = th from by omega]
 have hlt := CZ ((bE l).take k0) n
 have hp : 2 ^ n <= 2 ^ 56 := aG0 (by omega) hn
 have e5 : IntKind.u64.wrap (((sP (((bE l).drop (k0 - th)).take th) : Nat) : Int) * 2 ^ (min (n - th) IntKind.u64.bits)) = ((sO ((bE l).take k0) n : Nat) : Int) := by
  rw [show min (n - th) IntKind.u64.bits = n - th from aHG (by have h64 : IntKind.u64.bits = 64 := rfl; omega), hlast]
  have e : ((sP (((bE l).drop (k0 - th)).take th) : Nat) : Int) * 2 ^ (n - th) = ((sP (((bE l).drop (k0 - th)).take th) * 2 ^ (n - th) : Nat) : Int) := by simp
  rw [e]
  rw [hlast] at hlt
  exact hJ (by omega) (by omega)
 simp (disch := omega) only [aC, oI, aHe, rB, eC, and_true, aA, nA, aGP, bZ, true_and, uL, gA, dG, bO, aGW, if_false, bP, aX, d1, dP, d2, c1, aI, amS, e1, aDe, e2, c0d, c1d, dZ, e4, aT, Result.ok.injEq, Next.value.injEq, lD, hJ, e3, aE]
 refine (aCX (l := l) (st := k0 - th) (n := th) (hs.ext (aS.dr _ cM) (cD _)) (by omega) (by omega) (by omega)).mono ?_
 rintro r w1 ⟨rfl, rfl⟩
 simp (disch := omega) only [mE, aGO, e5, c1d, aI, aA, dZ, aT, true_and]
 refine sH od rfl (by simp) fun w2 o2 x2 s2 => ?_
 simp only [aGS, aGU] at o2
 have x02 : aS w w2 (fun y => y = hi) := (aS.dr _ _).seq x2
 exact ⟨⟨_, o2, hs.ext x02 (hat _ fun b hb hh => by omega), hat⟩, x02⟩
def nY (L : List T3) (s : Int) : Nat := if 0 <= s then (match L[s.toNat]? with | some e => e.2.1.toNat | none => 0) else 0
def xF (L : List T3) (s : Int) (x : Nat) : Int := if 0 <= s then (match L[s.toNat]? with | some e => e.2.2 + x | none => 0) else 0
theorem ayZ {log lo hi : Nat} {a : Option Addr} {k c : Nat} {l : List UInt8} {left : Int} {w : aJa} (h : XG w lo hi l left) (hlh : lo <= hi) (hhi : hi < w.heap.size) (hn : log <= 20) (h1 : left <= 8 * l.length) (h2 : -100000000 <= left) (hl : l.length <= 1000000) :
 aR pg LQ #[.agg #[.int .i64 log, .slice a k c], .pointer (some ⟨hi, 0, none⟩)] w (fun r w' => r = .int .i64 (sO ((bE l).take left.toNat) log : Nat) /\ XG w' lo hi l (left - log) /\ aS w w' (fun y => y = hi)) := by
 refine anI ?_
 unfold apC QJ
 refine fY fun w1 o1 x1 s1 => ?_
 simp only [Value.cells] at o1
 have c0 := o1.cell (off := 0)
 simp only [aGQ, aGR] at c0
 simp (disch := omega) only [aC, zE, aA, bZ, c0, aI]
 refine (afE (h.ext x1 (fun _ _ _ h => h) hlh) hlh (by omega) h1 (by omega) hl).mono ?_
 rintro r w2 ⟨rfl, b2, x2⟩
 have hlt := CZ ((bE l).take left.toNat) log
 have hp : 2 ^ log <= 2 ^ 20 := aG0 (by omega) hn
 generalize sO ((bE l).take left.toNat) log = x at *
 simp (disch := omega) only [cZ, aT, aA, true_and]
 exact ⟨b2, (x1.mono fun _ _ h => h.elim).seq x2⟩
theorem aBp {log base b lo hi : Nat} {L : List T3} {v : aJb} {s : Int} {l : List UInt8} {left : Int} {w : aJa} (ht : Tbl w base b log L v) (hL : Low L) (hlen : L.length <= 1000000) (h : XG w lo hi l left) (hlh : lo <= hi) (hhi : hi < w.heap.size) (hb : b ≠ hi) (h1 : left <= 8 * l.length) (h2 : -100000000 <= left) (hl : l.length <= 1000000) :
 aR pg Qt #[v, .int .i64 s, .pointer (some ⟨hi, 0, none⟩)] w (fun r w' => r = .int .i64 (xF L s (sO ((bE l).take left.toNat) (nY L s))) /\ XG w' lo hi l (left - nY L s) /\ aS w w' (fun y => y = hi)) := by
 refine aoM ?_
 obtain ⟨rfl, hb0, ob⟩ := ht
 unfold auR TX
 refine fY fun w1 o1 x1 s1 => ?_
 simp only [Value.cells] at o1
 have c1 := o1.cell (off := 1)
 simp only [aGQ, aGR] at c1
 have hbw := h.ext x1 (fun _ _ _ h => h) hlh
 by_cases hs0 : s < 0
 .have d1 : decide (s < 0) = true := by simpa using hs0
  have e1 : nY L s = 0 := by unfold nY; rw [if_neg (by omega)]
  have e2 : ∀ x, xF L s x = 0 := fun x => by unfold xF; rw [if_neg (by omega)]
  rw [e1]
  simp (disch := omega) only [aC, aX, d1, bY, aGP, aA, eC, and_true, true_and, dS, jE, bO, if_true, aF, dV]
  exact ⟨by rw [e2], by simpa using hbw, x1.mono fun _ _ h => h.elim⟩
 have d1 : decide (s < 0) = false := by simpa using hs0
 obtain ⟨i, rfl⟩ : ∃ i : Nat, s = i := ⟨s.toNat, by omega⟩
 by_cases hge : L.length <= i
 .have d2 : decide ((L.length : Int) <= (i : Int)) = true := by simp; omega
  have hnone : L[i]? = none := aHa hge
  have e1 : nY L i = 0 := by unfold nY; simp [hnone]
  have e2 : ∀ x, xF L i x = 0 := fun x => by unfold xF; simp [hnone]
  rw [e1]
  simp (disch := omega) only [aC, aX, d1, bY, aGP, aA, eC, and_true, true_and, dS, dG, bO, aGW, if_false, bP, c1, aI, hY, pD, d2, aF]
  exact ⟨by rw [e2], by simpa using hbw, x1.mono fun _ _ h => h.elim⟩
 have d2 : decide ((L.length : Int) <= (i : Int)) = false := by simp; omega
 have hlt : i < L.length := by omega
 have l1 := NT (off := i * 3) (ob.ext x1 (fun h => h)) (by rw [kR]; omega)
 rw [arI hlt] at l1
 obtain ⟨n, hn, hn2, hb0', hb1⟩ := hL _ (aG7 hlt)
 have hsome : L[i]? = some L[i] := aGX hlt
 have e1 : nY L i = n := by unfold nY; simp [hsome, hn]
 have e2 : ∀ x : Nat, xF L i x = L[i].2.2 + x := fun x => by unfold xF; simp [hsome]
 generalize L[i] = e at *
 obtain ⟨e0, en, eb⟩ := e
 simp only at hn hb0' hb1 l1 e2
 subst hn
 rw [e1, e2]
 simp (disch := omega) only [aC, aX, d1, bY, aGP, aA, eC, and_true, true_and, dS, dG, bO, aGW, if_false, bP, c1, aI, hY, pD, d2, lP, aGO, l1, aE]
 refine Qb fun w3 o3 x3 s3 => ?_
 refine Mg o3 rfl (by simp [one]) (by simp) fun w4 o4 x4 s4 => ?_
 simp only [aV, aGS, aGU] at o4
 have x14 : aS w1 w4 cM := x3.new x4 (by omega)
 have od := dO o4
 have k1 := o4.cell (off := 1)
 have k2 := o4.cell (off := 2)
 have k1d := od.cell (off := 1)
 have k2d := od.cell (off := 2)
 simp only [aGQ, aGR] at k1 k2 k1d k2d
 simp (disch := omega) only [lF, aGP, jT, Result.ok.injEq, Next.value.injEq, and_true, aA, bZ, k1d, aI, true_and, k2d]
 have z3 := x3.size
 refine (afE ((hbw.ext x14 (fun _ _ _ h => h) hlh).ext (aS.dr _ cM) (fun _ _ _ h => h) hlh) hlh (by omega) h1 (by omega) hl).mono ?_
 rintro r w5 ⟨rfl, b5, x5⟩
 have x45 : aS w4 w5 (fun y => y = hi) := (aS.dr _ _).seq x5
 have k2e := (o4.ext x45 (by omega)).cell (off := 2)
 simp only [aGQ, aGR] at k2e
 have hlt := CZ ((bE l).take left.toNat) n
 have hp : 2 ^ n <= 2 ^ 20 := aG0 (by omega) hn2
 generalize sO ((bE l).take left.toNat) n = x at *
 simp (disch := omega) only [k2e, aI, cZ, aT, aA, bM, true_and]
 exact ⟨b5, ((x1.seq x14).mono fun _ _ h => h.elim).seq x45⟩
theorem asJ {a b : Nat} (ha : a < 2 ^ 62) (hb : b < 2 ^ 62) : orI .i64 (a : Int) (b : Int) = ((a ||| b : Nat) : Int) := by
 have h := Nat.or_lt_two_pow ha hb
 unfold orI
 have e : IntKind.i64.bits = 64 := rfl
 rw [e, BitVec.ofInt_natCast, BitVec.ofInt_natCast, BitVec.toNat_or, BitVec.toNat_ofNat, BitVec.toNat_ofNat, aHm (by omega), aHm (by omega)]
 exact aT (by omega) (by have : ((a ||| b : Nat) : Int) < ((2 ^ 62 : Nat) : Int) := by exact_mod_cast h
                         omega)
def arN (w' : aJa) (lo hi p : Nat) (l : List UInt8) (r : aJb) : Prop := match St l with
 | .ok (n, rest) => r = .int .i64 n /\ Rdr w' lo hi p rest 0
 | .error e => e ≠ 0 /\ ∃ (n : Nat) (l' : List UInt8), r = .int .i64 n /\ Rdr w' lo hi p l' e
theorem V0 (n : Nat) (hn : 1 <= n) : I1 [] 0 n = ([], [], 10) := by
 unfold I1; rw [if_neg (by decide), if_pos (by simp; omega)]
theorem afB (c : UInt8) (r : List UInt8) : I1 (c :: r) 0 1 = ([c], r, 0) := by
 unfold I1; rw [if_neg (by decide), if_neg (by simp)] <;> rfl
theorem aCq (c d : UInt8) (r : List UInt8) : I1 (c :: d :: r) 0 2 = ([c, d], r, 0) := by
 unfold I1; rw [if_neg (by decide), if_neg (by simp)] <;> rfl
theorem aqM (c : UInt8) : I1 [c] 0 2 = ([], [c], 10) := by
 unfold I1; rw [if_neg (by decide), if_pos (by simp)]
theorem avM {lo hi p : Nat} {l : List UInt8} {w : aJa} (h : Rdr w lo hi p l 0) (hl : l.length <= 1000000000) :
 aR pg uI #[.pointer (some ⟨p, 0, none⟩)] w (fun r w' => arN w' lo hi p l r /\ aS w w' (fun y => y = p)) := by
 refine RZ ?_
 obtain ⟨RR, hRR⟩ : ∃ RR : aJb -> aJa -> Prop, RR = fun r w' => arN w' lo hi p l r /\ aS w w' (fun y => y = p) := ⟨_, rfl⟩
 rw [<- hRR]
 unfold O5 Am
 refine (Qw (n := 1) h hl (by omega)).mono ?_
 rintro r w1 ⟨rfl, h1, x1⟩
 cases l with
 | nil =>
   rw [V0 1 (by omega)] at h1 ⊢
   have d1 : decide ((0 : Int) < 128) = true := rfl
   have e0 : ((rC ([] : List UInt8) : Nat) : Int) = 0 := rfl
   simp (disch := omega) only [aC, e0, cZ, aT, aA, aX, d1, dZ, mE, aF]
   rw [hRR]
   exact ⟨⟨by decide, 0, [], rfl, h1⟩, x1⟩
 | cons f r =>
   rw [afB] at h1 ⊢
   have hf : rC [f] = f.toNat := by simp [rC]
   have hf8 : f.toNat < 256 := aHi f
   rw [hf]
   have hN : St (f :: r) = if f.toNat < 128 then .ok (f.toNat, r) else if f.toNat < 255 then aC7 f.toNat r else aCZ r := rfl
   generalize f.toNat = x at *
   have ew : IntKind.i64.wrap (x : Int) = x := aT (by omega) (by omega)
   have hl' : r.length <= 1000000000 := by simp at hl; omega
   by_cases h128 : x < 128
   .have d1 : decide ((x : Int) < 128) = true := by simp; omega
    simp (disch := omega) only [aC, cZ, ew, aA, aX, d1, dZ, aT, mE, aF]
    rw [hRR]
    refine ⟨?_, x1⟩
    unfold arN
    rw [hN, if_pos h128]
    exact ⟨rfl, h1⟩
   have d1 : decide ((x : Int) < 128) = false := by simp; omega
   by_cases h255 : x < 255
   .have d2 : decide ((x : Int) < 255) = true := by simp; omega
    obtain ⟨m, hm⟩ : ∃ m, m = x - 128 := ⟨_, rfl⟩
    have e1 : (x : Int) - 128 = (m : Int) := by omega
    have e2 : IntKind.i64.wrap ((m : Int) * 2 ^ (min (8 : Int).toNat IntKind.i64.bits)) = ((m * 256 : Nat) : Int) := by
     rw [show min (8 : Int).toNat IntKind.i64.bits = 8 from rfl, show (m : Int) * 2 ^ 8 = ((m * 256 : Nat) : Int) by omega]
     exact aT (by omega) (by omega)
    simp (disch := omega) only [aC, cZ, ew, aA, aX, d1, d2, dZ, e1, aT, mE, e2, aF, aE]
    refine (Qw (n := 1) h1 hl' (by omega)).mono ?_
    rintro v w2 ⟨rfl, h2, x2⟩
    have x12 := x1.seq x2
    cases r with
    | nil =>
      rw [V0 1 (by omega)] at h2 ⊢
      have e0 : ((rC ([] : List UInt8) : Nat) : Int) = ((0 : Nat) : Int) := rfl
      have e3 := asJ (a := m * 256) (b := 0) (by omega) (by omega)
      have e4 : IntKind.i64.wrap ((0 : Nat) : Int) = ((0 : Nat) : Int) := rfl
      simp (disch := omega) only [e0, cZ, e4, aA, asP, e3]
      rw [hRR]
      refine ⟨?_, x12⟩
      unfold arN
      rw [hN, if_neg h128, if_pos h255]
      exact ⟨by decide, m * 256, [], by simp, h2⟩
    | cons g s =>
      rw [afB] at h2 ⊢
      have hg : rC [g] = g.toNat := by simp [rC]
      have hg8 : g.toNat < 256 := aHi g
      rw [hg]
      have hN2 : aC7 x (g :: s) = .ok ((x - 128) * 256 + g.toNat, s) := rfl
      generalize g.toNat = y at *
      have ew2 : IntKind.i64.wrap (y : Int) = y := aT (by omega) (by omega)
      have e3 := asJ (a := m * 256) (b := y) (by omega) (by omega)
      have e4 : (m * 256) ||| y = m * 256 + y := by
       rw [Nat.or_comm, show m * 256 = m * 2 ^ 8 from rfl, ayH (by omega)]; omega
      rw [e4] at e3
      simp (disch := omega) only [cZ, ew2, aA, asP, e3]
      rw [hRR]
      refine ⟨?_, x12⟩
      unfold arN
      rw [hN, if_neg h128, if_pos h255, hN2, <- hm]
      exact ⟨rfl, h2⟩
   .have d2 : decide ((x : Int) < 255) = false := by simp; omega
    simp (disch := omega) only [aC, cZ, ew, aA, aX, d1, d2, dZ, aT, mE, aE]
    refine (Qw (n := 2) h1 hl' (by omega)).mono ?_
    rintro v w2 ⟨rfl, h2, x2⟩
    have x12 := x1.seq x2
    rw [if_neg h128, if_neg h255] at hN
    cases r with
    | nil =>
      rw [V0 2 (by omega)] at h2 ⊢
      have e0 : ((rC ([] : List UInt8) : Nat) : Int) = ((0 : Nat) : Int) := rfl
      have e4 : IntKind.i64.wrap ((0 : Nat) : Int) = ((0 : Nat) : Int) := rfl
      have e5 : IntKind.i64.wrap (((0 : Nat) : Int) + 32512) = ((32512 : Nat) : Int) := rfl
      simp (disch := omega) only [e0, cZ, e4, aA, bM, e5]
      rw [hRR]
      refine ⟨?_, x12⟩
      unfold arN
      rw [hN]
      exact ⟨by decide, 32512, [], rfl, h2⟩
    | cons g s =>
      cases s with
      | nil =>
        rw [aqM] at h2 ⊢
        have e0 : ((rC ([] : List UInt8) : Nat) : Int) = ((0 : Nat) : Int) := rfl
        have e4 : IntKind.i64.wrap ((0 : Nat) : Int) = ((0 : Nat) : Int) := rfl
        have e5 : IntKind.i64.wrap (((0 : Nat) : Int) + 32512) = ((32512 : Nat) : Int) := rfl
        simp (disch := omega) only [e0, cZ, e4, aA, bM, e5]
        rw [hRR]
        refine ⟨?_, x12⟩
        unfold arN
        rw [hN]
        exact ⟨by decide, 32512, [g], rfl, h2⟩
      | cons k s =>
        rw [aCq] at h2 ⊢
        have hg : rC [g, k] = g.toNat + 256 * k.toNat := by simp [rC]
        have hg8 : g.toNat < 256 := aHi g
        have hk8 : k.toNat < 256 := aHi k
        have hN3 : aCZ (g :: k :: s) = .ok (g.toNat + 256 * k.toNat + 32512, s) := rfl
        rw [hg]
        have hy : g.toNat + 256 * k.toNat < 65536 := by omega
        generalize g.toNat + 256 * k.toNat = y at *
        have ew2 : IntKind.i64.wrap (y : Int) = y := aT (by omega) (by omega)
        obtain ⟨z, hz⟩ : ∃ z, z = y + 32512 := ⟨_, rfl⟩
        have e5 : (y : Int) + 32512 = (z : Int) := by omega
        rw [<- hz] at hN3
        simp (disch := omega) only [cZ, ew2, aA, bM, e5, aT]
        rw [hRR]
        refine ⟨?_, x12⟩
        unfold arN
        rw [hN, hN3]
        exact ⟨rfl, h2⟩
abbrev TT := Nat × List T3
def SC (m k : Nat) : Nat := m / 2 ^ (6 - 2 * k) % 4
def Ss (t : Nat -> TT) (k : Nat) (x : TT) : Nat -> TT := fun i => if i = k then x else t i
def DP (m : Nat) (o : Nat -> TT) : Nat -> (Nat -> TT) -> List UInt8 -> Except Int ((Nat -> TT) × List UInt8)
 | 0, t, l => .ok (t, l)
 | j + 1, t, l => match gE ((2 - j : Nat) : Int) ((SC m (2 - j) : Nat) : Int) l (o (2 - j)) with
   | .error e => .error e
   | .ok (x, n) => DP m o j (Ss t (2 - j) x) (l.drop n)
def runT (t : Nat -> TT) (B : List Bool) (n : Nat) (k : Int) : List Sq × Int :=
 sqR (t 0).2 (t 1).2 (t 2).2 B n (rdL B k (t 0).1 : Nat) (rdL B (k - (t 0).1) (t 1).1 : Nat) (rdL B (k - (t 0).1 - (t 1).1) (t 2).1 : Nat) (k - (t 0).1 - (t 1).1 - (t 2).1)
def DI (t : Nat -> TT) (n : Nat) (l : List UInt8) : Except Int (List Sq × (Nat -> TT)) := match Zp l with
 | none => .error 11
 | some k => if (runT t (bE l) n k).2 < 0 then .error 11 else if 0 < (runT t (bE l) n k).2 then .error 15 else .ok ((runT t (bE l) n k).1, t)
def aqC (o : Nat -> TT) (n : Nat) : List UInt8 -> Except Int (List Sq × (Nat -> TT))
 | [] => .error 10
 | m :: l => if m.toNat % 4 ≠ 0 then .error 11 else match DP m.toNat o 3 o l with
   | .error e => .error e
   | .ok (t, r) => DI t n r
def tZ (l : List UInt8) (o : Nat -> TT) : Except Int (List Sq × (Nat -> TT)) := match St l with
 | .error e => .error e
 | .ok (n, r) => if n = 0 then (if r = [] then .ok ([], o) else .error 15) else aqC o n r
def aoH (o : Nat -> TT) : Prop := ∀ k, k < 3 -> (o k).2 ≠ [] -> yQ k (o k)
theorem alZ (m k : Nat) : SC m k < 4 := aIz _ (by omega)
theorem apR {m : Nat} {o : Nat -> TT} (ho : aoH o) : ∀ {j : Nat} {t t' : Nat -> TT} {l l' : List UInt8}, j <= 3 -> (∀ k, k + j < 3 -> yQ k (t k)) -> DP m o j t l = .ok (t', l') -> (∀ k, k < 3 -> yQ k (t' k)) /\ l'.length <= l.length
 | 0, t, t', l, l', _, hg, h => by cases h; exact ⟨fun k hk => hg k hk, aGZ _⟩
 | j + 1, t, t', l, l', hj, hg, h => by
   unfold DP at h
   split at h
   .cases h
   .rename_i x n hr
    obtain ⟨h1, h2⟩ := anF (k := 2 - j) (by omega) (fun _ hne => ho (2 - j) (by omega) hne) hr
    obtain ⟨h3, h4⟩ := apR ho (by omega) (fun k hk => by
     unfold Ss
     split
     .rename_i he; rw [he]; exact h1
     .exact hg k (by omega)) h
    exact ⟨h3, by rw [aHh] at h4; omega⟩
theorem ZZ {k : Nat} {T : TT} (h : yQ k T) {s : Nat} (hs : s < T.2.length) : ∃ e c : Nat × Nat, T.2[s]? = some ((e.1 : Int), (e.2 : Int), (c.1 : Int)) /\ e.1 < kZ k /\ e.2 <= 20 /\ c.1 <= 100000 /\ c.1 + 2 ^ e.2 <= T.2.length := by
 have hm := aG7 hs
 obtain ⟨n, h1, h2, h3, h4⟩ := h.low _ hm
 obtain ⟨c, h5, h6⟩ := h.sym _ hm
 have h7 := h.nxt _ hm
 have he : T.2[s]? = some T.2[s] := aGX hs
 generalize T.2[s] = e at *
 obtain ⟨a, b, d⟩ := e
 simp only at h1 h2 h3 h4 h5 h6 h7
 obtain ⟨y, rfl⟩ : ∃ y : Nat, d = y := ⟨d.toNat, by omega⟩
 subst h1 h5
 rw [aGO] at h7
 refine ⟨(c, n), (y, 0), he, h6, h2, by simp only; omega, ?_⟩
 simp only
 generalize 2 ^ n = z at *
 omega
theorem XC (B : List Bool) (left : Int) (n : Nat) : rdL B left n < 2 ^ n := CZ _ _
theorem ayL {L : List T3} {s : Nat} {c : Nat} {x y : Int} (h : L[s]? = some ((c : Int), x, y)) : sAt L s = c := by
 unfold sAt; rw [if_pos (by omega), aGO, h] <;> rfl
theorem PO {k : Nat} {T : TT} (h : yQ k T) {s : Nat} (hs : s < T.2.length) (B : List Bool) (left : Int) : ∃ s' : Nat, (nR T.2 s B left).1 = s' /\ s' < T.2.length /\ left - 20 <= (nR T.2 s B left).2 /\ (nR T.2 s B left).2 <= left := by
 obtain ⟨e, c, h1, h2, h3, h4, h5⟩ := ZZ h hs
 have hb : bAt T.2 s = e.2 := by unfold bAt; rw [if_pos (by omega), aGO, h1] <;> rfl
 have hr := XC B left e.2
 refine ⟨c.1 + rdL B left e.2, ?_, by omega, ?_, ?_⟩
 .unfold nR nAt
  rw [hb, if_pos (by omega), aGO, h1]
  rfl
 .unfold nR; simp only; rw [hb]; omega
 .unfold nR; simp only; rw [hb]; omega
theorem IS {k : Nat} (hk : k < 3) {T : TT} (h : yQ k T) {s : Nat} (hs : s < T.2.length) (B : List Bool) (left : Int) : (vR k T.2 s B left).1 < 4294967296 /\ left - 31 <= (vR k T.2 s B left).2 /\ (vR k T.2 s B left).2 <= left := by
 obtain ⟨e, c, h1, h2, h3, h4, h5⟩ := ZZ h hs
 have ha := Zq hk e.1
 have he := aEg hk e.1 h2
 have hr := XC B left ((kL k).getD e.1 0)
 unfold vR
 rw [ayL h1]
 simp only
 refine ⟨by omega, by omega, by omega⟩
theorem WM {k base lo hi b : Nat} {T : TT} {v : aJb} {s : Nat} {l : List UInt8} {left : Int} {w : aJa} (hg : uA w) (hk : k < 3) (ht : Tbl w base b T.1 T.2 v) (hG : yQ k T) (hs : s < T.2.length) (h : XG w lo hi l left) (hlh : lo <= hi) (hhi : hi < w.heap.size) (h1 : left <= 8 * l.length) (h2 : -100000000 <= left) (hl : l.length <= 1000000) :
 aR pg oY #[.int .i64 k, v, .int .i64 s, .pointer (some ⟨hi, 0, none⟩)] w (fun r w' => r = .int .u32 ((vR k T.2 s (bE l) left).1 : Nat) /\ XG w' lo hi l (vR k T.2 s (bE l) left).2 /\ aS w w' (fun y => y = hi)) := by
 refine TB ?_
 obtain ⟨RR, hRR⟩ : ∃ RR : aJb -> aJa -> Prop, RR = fun r w' => r = .int .u32 ((vR k T.2 s (bE l) left).1 : Nat) /\ XG w' lo hi l (vR k T.2 s (bE l) left).2 /\ aS w w' (fun y => y = hi) := ⟨_, rfl⟩
 rw [<- hRR]
 have hlen9 : T.2.length <= 512 := by rw [hG.len]; exact aG0 (by omega) hG.lg
 obtain ⟨rfl, hb0, ob⟩ := ht
 unfold Re BI
 refine fY fun w1 o1 x1 s1 => ?_
 simp only [Value.cells] at o1
 have c1 := o1.cell (off := 1)
 simp only [aGQ, aGR] at c1
 have hbw := h.ext x1 (fun _ _ _ h => h) hlh
 have d1 : decide ((s : Int) < 0) = false := by simp
 have d2 : decide ((T.2.length : Int) <= (s : Int)) = false := by simp; omega
 obtain ⟨e, c, e1, e2, e3, e4, e5⟩ := ZZ hG hs
 have k0 := (ob.ext x1 (fun h => h)).cell (off := s * 3)
 rw [(PL e1).1] at k0
 have hc53 : kZ k <= 53 := by rcases (show k = 0 ∨ k = 1 ∨ k = 2 by omega) with rfl | rfl | rfl <;> decide
 have ew : IntKind.i64.wrap (e.1 : Int) = (e.1 : Int) := aT (by omega) (by omega)
 simp (disch := omega) only [aC, aX, d1, bY, aGP, aA, dS, dG, bO, aGW, if_false, bP, c1, aI, hY, pD, d2, lP, aGO, fS, mI, k0, nO, ew, aE]
 refine (aDm (hg.ext x1) hk e2).mono ?_
 rintro r w2 ⟨rfl, x2⟩
 have ha := Zq hk e.1
 have he := aEg hk e.1 e2
 have hr := XC (bE l) left ((kL k).getD e.1 0)
 have hv : vR k T.2 s (bE l) left = ((rF k).getD e.1 0 + rdL (bE l) left ((kL k).getD e.1 0), left - (kL k).getD e.1 0) := by unfold vR; rw [ayL e1]
 rw [hv] at hRR
 simp (disch := omega) only [SE, SF, SD, aA]
 refine (afE (hbw.ext x2 (fun _ _ _ h => h) hlh) hlh (by omega) h1 (by omega) hl).mono ?_
 rintro r w3 ⟨rfl, b3, x3⟩
 have hr' : sO ((bE l).take left.toNat) ((kL k).getD e.1 0) = rdL (bE l) left ((kL k).getD e.1 0) := rfl
 rw [hr'] at *
 generalize rdL (bE l) left ((kL k).getD e.1 0) = x at *
 generalize (kL k).getD e.1 0 = n at *
 generalize (rF k).getD e.1 0 = y at *
 generalize 2 ^ n = z at *
 have ew2 : IntKind.u32.wrap (x : Int) = (x : Int) := w32 (by omega) (by omega)
 have ew3 : IntKind.u32.wrap ((y : Int) + (x : Int)) = ((y + x : Nat) : Int) := by rw [w32 (by omega) (by omega)]; omega
 simp (disch := omega) only [zF, ew2, aA, bM, ew3]
 rw [hRR]
 exact ⟨rfl, b3, ((x1.seq x2).mono fun _ _ h => h.elim).seq x3⟩
theorem UB {w : aJa} {b : Nat} {cs cs' : List aJb} (h : cJ w b cs) (h' : cJ w b cs') : cs = cs' := by
 obtain ⟨T, lo, hi, h1, _⟩ := h
 obtain ⟨T', lo', hi', h2, _⟩ := h'
 rw [h1] at h2
 have h3 := aG8 h2
 injection h3 with h4
 simpa using congrArg Array.toList h4
theorem F1.own {w w' : aJa} {base p : Nat} {T : TT} {v : aJb} {cs : List aJb} (h : F1 w base T v) (o : cJ w p cs) (h0 : 0 < cs.length) (hc : ∀ u, cs[0]? ≠ some (.int .u8 u)) (x : aS w w' (fun y => y = p)) : F1 w' base T v := by
 rcases h with h | ⟨b, h1, h2, h3⟩
 .exact .inl h
 .refine .inr ⟨b, h1, h2, h3.ext x ?_⟩
  rintro rfl
  have e := UB h3 o
  subst e
  cases hT : T.2 with
  | nil => rw [hT] at h0; simp [fe] at h0
  | cons a r =>
    have := (PL (k := .u8) (L := T.2) (i := 0) (e := a) (by rw [hT] <;> rfl)).1
    exact hc _ this
def tvL (T : TT) (a : Option Addr) : aJb := .agg #[.int .i64 T.1, .slice a T.2.length T.2.length]
def c6 (o : Nat -> TT) (a : Nat -> Option Addr) : List aJb := [.int .i64 (o 0).1, .slice (a 0) (o 0).2.length (o 0).2.length, .int .i64 (o 1).1, .slice (a 1) (o 1).2.length (o 1).2.length, .int .i64 (o 2).1, .slice (a 2) (o 2).2.length (o 2).2.length]
def Ol (w : aJa) (o : Nat -> TT) (a : Nat -> Option Addr) : Prop := ∀ k, k < 3 -> F1 w 0 (o k) (tvL (o k) (a k))
theorem Ol.ext {w w' : aJa} {o : Nat -> TT} {a : Nat -> Option Addr} (h : Ol w o a) (x : aS w w' cM) : Ol w' o a := fun k hk => (h k hk).ext x fun _ _ _ h => h
theorem Ol.own {w w' : aJa} {o : Nat -> TT} {a : Nat -> Option Addr} {p : Nat} {cs : List aJb} (h : Ol w o a) (ho : cJ w p cs) (h0 : 0 < cs.length) (hc : ∀ u, cs[0]? ≠ some (.int .u8 u)) (x : aS w w' (fun y => y = p)) : Ol w' o a := fun k hk => (h k hk).own ho h0 hc x
theorem Ol.rdr {w w' : aJa} {o : Nat -> TT} {a : Nat -> Option Addr} {lo hi p : Nat} {l : List UInt8} {e : Int} (h : Ol w o a) (hr : Rdr w lo hi p l e) (x : aS w w' (fun y => y = p)) : Ol w' o a := by
 obtain ⟨_, _, v, ho, hb, _⟩ := hr
 obtain ⟨va, vc, rfl, _⟩ := hb.len
 exact h.own ho (by simp) (fun u => by simp) x
def upA (a : Nat -> Option Addr) (k : Nat) (x : Option Addr) : Nat -> Option Addr := fun i => if i = k then x else a i
theorem Ol.up {w : aJa} {o : Nat -> TT} {a : Nat -> Option Addr} {k : Nat} {T : TT} {x : Option Addr} (h : Ol w o a) (hx : F1 w 0 T (tvL T x)) : Ol w (Ss o k T) (upA a k x) := fun i hi => by
 unfold Ss upA
 split
 .exact hx
 .exact h i hi
def LP (o : Nat -> TT) : List UInt8 -> Except Int ((Nat -> TT) × List UInt8)
 | [] => .error 10
 | m :: l => if m.toNat % 4 ≠ 0 then .error 11 else DP m.toNat o 3 o l
def Gf : aJb := .agg #[(.int .i64 0), (.slice none 0 0), (.int .i64 0), (.slice none 0 0), (.int .i64 0), (.slice none 0 0)]
def aAo (w : aJa) (lo p : Nat) (x : Except Int ((Nat -> TT) × List UInt8)) (r : aJb) : Prop := match x with
 | .error e => r = .tuple #[Gf, .int .i64 e] /\ e ≠ 0
 | .ok (t, l) => ∃ a, r = .tuple #[.agg (c6 t a).toArray, .int .i64 0] /\ Ol w t a /\ Rdr w lo w.heap.size p l 0
theorem O4 {a mode : Int} {l : List UInt8} {T : TT} {e : Int} (h : gE a mode l T = .error e) : e ≠ 0 := by
 unfold gE at h
 split at h
 .cases h; decide
 split at h
 .cases h
 split at h
 .split at h
  .cases h; decide
  .split at h
   .cases h; decide
   .cases h
 split at h
 .split at h
  .cases h; decide
  .cases h
 .split at h
  .rename_i e' he
   cases h
   exact abI he
  .cases h
theorem aBx {o : Nat -> TT} {l : List UInt8} {e : Int} (h : LP o l = .error e) : e ≠ 0 := by
 have ht : ∀ {m j : Nat} {t : Nat -> TT} {l : List UInt8}, DP m o j t l = .error e -> e ≠ 0 := by
  intro m j
  induction j with
  | zero => intro t l h; cases h
  | succ j ih =>
    intro t l h
    unfold DP at h
    split at h
    .rename_i e' he
     cases h
     exact O4 he
    .exact ih h
 cases l with
 | nil => cases h; decide
 | cons m l =>
   have hh : LP o (m :: l) = if m.toNat % 4 ≠ 0 then .error 11 else DP m.toNat o 3 o l := rfl
   rw [hh] at h
   by_cases hm : m.toNat % 4 ≠ 0
   .rw [if_pos hm] at h; cases h; decide
   .rw [if_neg hm] at h; exact ht h
theorem auC {x : Nat} (h : x < 256) : amF .i64 (x : Int) 3 = ((x % 4 : Nat) : Int) := by
 have : ∀ k : Fin 256, amF .i64 (k.val : Int) 3 = ((k.val % 4 : Nat) : Int) := by decide +kernel
 exact this ⟨x, h⟩
theorem apQ (o : Nat -> TT) (a : Nat -> Option Addr) {k : Nat} (h : k < 3) : ((c6 o a).drop (k * 2)).take 2 = [.int .i64 (o k).1, .slice (a k) (o k).2.length (o k).2.length] := by
 rcases (show k = 0 ∨ k = 1 ∨ k = 2 by omega) with rfl | rfl | rfl <;> rfl
theorem azI (o : Nat -> TT) (a : Nat -> Option Addr) {k : Nat} (h : k < 3) (T : TT) (x : Option Addr) : aV (c6 o a) (k * 2) [.int .i64 T.1, .slice x T.2.length T.2.length] = c6 (Ss o k T) (upA a k x) := by
 rcases (show k = 0 ∨ k = 1 ∨ k = 2 by omega) with rfl | rfl | rfl <;> rfl
theorem aD3 {x k : Nat} (hx : x < 256) (h : k < 3) : amF .i64 ((x : Int).fdiv (2 ^ min (6 - 2 * k) IntKind.i64.bits)) 3 = ((SC x k : Nat) : Int) := by
 have h64 : IntKind.i64.bits = 64 := rfl
 have hf : (x : Int).fdiv (2 ^ min (6 - 2 * k) IntKind.i64.bits) = ((x / 2 ^ (6 - 2 * k) : Nat) : Int) := by
  rw [h64, aHG (by omega), show (2 : Int) ^ (6 - 2 * k) = ((2 ^ (6 - 2 * k) : Nat) : Int) by simp, aIs _ (Int.natCast_nonneg _)]
  rfl
 rw [hf, auC (Nat.lt_of_le_of_lt (aIP _ _) hx)]
 rfl
theorem PS {a mode : Int} {n : Nat} {l : List UInt8} {T T' : TT} (h : gE a mode l T = .ok (T', n)) : n <= l.length := by
 unfold gE at h
 split at h
 .cases h
 split at h
 .cases h; exact aHZ _
 split at h
 .split at h
  .cases h
  .split at h
   .cases h
   .cases h; simp
 split at h
 .split at h
  .cases h
  .cases h; exact aHZ _
 .split at h
  .cases h
  .rename_i lg ps u hr
   cases h
   have h4 := aoB hr
   rw [lQ] at h4
   omega
theorem awM {p : Nat} {w : aJa} {x0 x1 x2 : Int} {a0 a1 a2 : Option Addr} {n0 n1 n2 : Nat} {c : List aJb} {e : aJb} (o : cJ w p c) (hc : c.length = 6) {RR : aJb -> aJa -> Prop}
 (hR : ∀ w', aS w w' (fun y => y = p) -> RR (.tuple #[.agg #[.int .i64 x0, .slice a0 n0 n0, .int .i64 x1, .slice a1 n1 n1, .int .i64 x2, .slice a2 n2 n2], e]) w') :
 aC pg (aJ 29 (.pointer (some ⟨p, 0, none⟩)) (.agg #[.int .i64 x0, .slice a0 n0 n0, .int .i64 x1, .slice a1 n1 n1, .int .i64 x2, .slice a2 n2 n2])) w fun _u w => kC pg 29 (.pointer (some ⟨p, 0, none⟩)) w fun r0 => RR (.tuple #[r0, e]) w := by
 match c, hc with
 | [c0, c1, c2, c3, c4, c5], _ =>
   refine kD o rfl (by simp [one]) (by simp) fun w6 o6 x6 s6 => ?_
   refine Gk o6 (by simp [aV]) ?_
   simp only [aV, aGS, aGU, aGT, aGN, aGV]
   exact hR _ x6
theorem aE7 {w0 w : aJa} {lo hi p : Nat} {l : List UInt8} {o : Nat -> TT} {a : Nat -> Option Addr} (hg : uA w0) (x0 : aS w0 w cM) (hp : w0.heap.size <= p) (h : Rdr w lo hi p l 0) (hhi : hi <= w.heap.size) (hl : l.length <= 1000000) (hT : Ol w o a) (hO : ∀ k, k < 3 -> (o k).2.length <= 1000000) :
 aR pg tI #[.pointer (some ⟨p, 0, none⟩), .agg (c6 o a).toArray] w (fun r w' => aAo w' lo p (LP o l) r /\ aS w w' (fun y => y = p)) := by
 refine UR ?_
 obtain ⟨RR, hRR⟩ : ∃ RR : aJb -> aJa -> Prop, RR = fun r w' => aAo w' lo p (LP o l) r /\ aS w w' (fun y => y = p) := ⟨_, rfl⟩
 rw [<- hRR]
 have hpl := h.lt
 have err : ∀ {e : Int} {w' : aJa}, LP o l = .error e -> aS w w' (fun y => y = p) -> RR (.tuple #[Gf, .int .i64 e]) w' := fun h x => by
  rw [hRR]; unfold aAo; rw [h]; exact ⟨⟨rfl, aBx h⟩, x⟩
 unfold TM Bz Bn
 refine fY fun w1 o1 x1 s1 => ?_
 have o1 : cJ w1 w.heap.size (c6 o a) := o1
 refine jQ fun w2 o2 x2 s2 => ?_
 have x12 := x1.seq x2
 have o1 := o1.ext x2 (fun h => h)
 have h2 := h.ext x12 (fun _ _ _ h => h)
 have hT2 := hT.ext x12
 refine (Qw (n := 1) h2 (by omega) (by omega)).mono ?_
 rintro r w3 ⟨rfl, h3, x3⟩
 have hT3 := hT2.rdr h2 x3
 have o1 := o1.ext x3 (by omega)
 have o2 := o2.ext x3 (by omega)
 have x13 : aS w w3 (fun y => y = p) := (x12.mono fun _ _ h => h.elim).seq x3
 cases l with
 | nil =>
   rw [V0 1 (by omega)] at h3 ⊢
   have e0 : ((rC ([] : List UInt8) : Nat) : Int) = 0 := rfl
   have e1 : IntKind.i64.wrap (0 : Int) = 0 := rfl
   have n1 : ((10 : Int) != 0) = true := rfl
   simp (disch := omega) only [aC, e0, cZ, e1, dU, aA, Rw, eT]
   refine (UA h3).mono ?_
   rintro r w4 ⟨rfl, hw⟩
   rw [hw]; clear hw w4
   simp (disch := omega) only [eT, n1, aA, aF]
   refine (UA h3).mono ?_
   rintro r w4 ⟨rfl, hw⟩
   rw [hw]; clear hw w4
   exact awM o2 rfl fun w' x => err rfl (x13.trans x fun b hb h => by omega)
 | cons m l =>
   rw [afB] at h3 ⊢
   have h3 : Rdr w3 lo hi p l 0 := h3
   have hm8 : m.toNat < 256 := aHi m
   have hm1 : rC [m] = m.toNat := by simp [rC]
   have ew : IntKind.i64.wrap (m.toNat : Int) = (m.toNat : Int) := aT (by omega) (by omega)
   have ea := auC hm8
   have n0 : ((0 : Int) != 0) = false := rfl
   have hH : LP o (m :: l) = if m.toNat % 4 ≠ 0 then .error 11 else DP m.toNat o 3 o l := rfl
   rw [hm1]
   have hl' : l.length <= 1000000 := by simp at hl; omega
   generalize m.toNat = x at *
   simp (disch := omega) only [aC, cZ, ew, dU, aA, Rw, eT]
   refine (UA h3).mono ?_
   rintro r w4 ⟨rfl, hw⟩
   rw [hw]; clear hw w4
   by_cases h4 : x % 4 ≠ 0
   .have n1 : (((x % 4 : Nat) : Int) != 0) = true := by simp; omega
    rw [if_pos h4] at hH
    simp (disch := omega) only [eT, n0, ea, n1, aF, aA, aE]
    exact awM o2 rfl fun w' x => err hH (x13.trans x fun b hb h => by omega)
   rw [if_neg h4] at hH
   have n1 : (((x % 4 : Nat) : Int) != 0) = false := by simp; omega
   simp (disch := omega) only [eT, n0, ea, n1, aE, aA]
   refine (akJ h3).mono ?_
   rintro r w4 ⟨rfl, hw⟩
   rw [hw]; clear hw w4
   refine (apF h3 (by omega) (by omega)).mono ?_
   rintro bv w4 ⟨hb4, hat4, h4r, x4⟩
   have htk : I1 l 0 l.length = (l, [], 0) := by unfold I1; rw [if_neg (by decide), if_neg (by omega), aIw, List.drop_length]
   rw [htk] at hb4 h4r
   simp only at hb4 h4r
   have o1 := o1.ext x4 (by omega)
   have o2 := o2.ext x4 (by omega)
   have hT4 := hT3.rdr h3 x4
   have x14 := x13.seq x4
   have l1 := mB (off := 0) o1 (by simp [c6])
   simp only [c6, aGT, aGN, aGV] at l1
   simp (disch := omega) only [l1, aA]
   refine jQ fun w5 o5 x5 s5 => ?_
   refine kD o5 rfl (by simp [one]) (by simp) fun w6 o6 x6 s6 => ?_
   have o6 : cJ w6 w4.heap.size (c6 o a) := o6
   have x46 : aS w4 w6 cM := x5.new x6 (aGZ _)
   have o1 := o1.ext x46 (fun h => h)
   have o2 := o2.ext x46 (fun h => h)
   have hT6 := hT4.ext x46
   have h6 := h4r.ext x46 (fun _ _ _ h => h)
   have hb6 := hb4.ext x46 (cD _)
   have x16 := x14.more x46
   have z3 := x3.size
   have z4 := x4.size
   have z6 := x46.size
   unfold Bx Bo B1 BW BY
   obtain ⟨p8, hp8⟩ : ∃ p8, p8 = w4.heap.size := ⟨_, rfl⟩
   obtain ⟨p3, hp3⟩ : ∃ p3, p3 = w.heap.size := ⟨_, rfl⟩
   obtain ⟨p4, hp4⟩ : ∃ p4, p4 = w1.heap.size := ⟨_, rfl⟩
   rw [<- hp8] at o6 ⊢
   rw [<- hp3] at o1 ⊢
   rw [<- hp4] at o2 ⊢
   refine cG.rule (fun n (t : aJb × aJb) w' => ∃ (j : Nat) (b : aJb) (l' : List UInt8) (t' : Nat -> TT) (a' : Nat -> Option Addr), n = j /\ j <= 3 /\ t = (b, .int .i64 (3 - j : Nat)) /\ Bs w' b l' /\ AtS b (fun b => lo <= b /\ b < hi /\ b ≠ p) /\ l'.length <= l.length /\ cJ w' p8 (c6 t' a') /\ Ol w' t' a' /\ DP x o 3 o l = DP x o j t' l' /\ aS w6 w' (fun y => y = p8)) 3
    ⟨3, bv, l, o, a, rfl, aGZ _, rfl, hb6, hat4, aGZ _, o6, hT6, rfl, aS.refl _ _⟩ ?_
   rintro j t w7 ⟨n, bb, l', t', a', rfl, hj, rfl, hb7, hat7, hl7, o8, hT7, hE, x7⟩
   unfold wM C2 Cs CO L5 CJ
   have o17 := o1.ext x7 (by omega)
   have o27 := o2.ext x7 (by omega)
   have x07 : aS w0 w7 cM := by
    have : aS w w7 (fun y => y = p ∨ y = p8) := (x16.mono fun _ _ h => .inl h).seq (x7.mono fun _ _ h => .inr h)
    have z0 := x0.size
    exact x0.trans this fun b hb h => by omega
   have hg7 := hg.ext x07
   have hTo : Ol w7 o a := fun k hk => (hT6 k hk).own o6 (by simp [c6]) (fun u => by simp [c6]) x7
   obtain ⟨ba, bc, rfl, hbc⟩ := hb7.len
   rw [aG1] at hb7 hat7 hbc ⊢
   have err7 : ∀ {e : Int} {w' : aJa}, DP x o j t' l' = .error e -> aS w7 w' (fun y => y = p4) -> RR (.tuple #[Gf, .int .i64 e]) w' := fun h x => by
    refine err (by rw [hH, hE, h]) ?_
    have x6' : aS w6 w7 (fun y => y = p ∨ y = p3 ∨ y = p4 ∨ y = p8) := x7.mono fun _ _ h => .inr (.inr (.inr h))
    exact (((x16.mono fun _ _ h => .inl h).seq x6').seq (x.mono fun _ _ h => .inr (.inr (.inl h)))).mono fun b hb h => by omega
   rcases j with _ | n
   .have d1 : decide (((3 - 0 : Nat) : Int) < 3) = false := rfl
    simp (disch := omega) only [aC, aX, d1, pH, aT, eC, and_true, true_and, aA, dZ, wV, Rw, Result.ok.injEq, Next.value.injEq, aE]
    unfold wS
    refine (agF hb7 (by omega)).mono ?_
    rintro r w8 ⟨q, rfl, h8, x8⟩
    have o8' := o8.ext x8 (fun h => h)
    have hT8 := hT7.ext x8
    have hq1 := h8.1
    have hq2 := h8.2.1
    have hq8 := h8
    obtain ⟨_, _, qv, oq, hbq, hatq⟩ := h8
    obtain ⟨qa, qc, rfl, hqc⟩ := hbq.len
    rw [aG1] at hbq oq hqc hatq
    have lq := ZV (off := 0) oq (by simp)
    simp only [aGT, aGN, aGV] at lq
    simp (disch := omega) only [aC, rB, aA, lq]
    have hp7 : Rdr w7 lo hi p [] 0 := h6.ext x7 (fun b h1 h2 => by omega)
    have hp8 := hp7.ext x8 (fun _ _ _ h => h)
    obtain ⟨hpl1, hpl2, pv, op, _, _⟩ := hp8
    refine ZP op rfl (by simp [one]) (by simp) fun w9 o9 x9 s9 => ?_
    simp only [aV, aGS, aGU] at o9
    have z8 := x8.size
    have hT9 := hT8.own op (by simp) (fun u => by
     obtain ⟨pa, pn, pc, rfl, _⟩ : ∃ pa pn pc, pv = .slice pa pn pc /\ True := by
      rename_i hbp _
      obtain ⟨pa, pc, rfl, _⟩ := hbp.len
      exact ⟨_, _, _, rfl, trivial⟩
     simp) x9
    have z7 := x7.size
    have l8 := mB (off := 0) (o8'.ext x9 (by omega)) (by simp [c6])
    simp only [c6, aGT, aGN, aGV] at l8
    simp (disch := omega) only [l8, aA]
    refine awM ((o27.ext x8 (fun h => h)).ext x9 (by omega)) rfl fun w' x => ?_
    rw [hRR]
    unfold aAo
    rw [hH, hE]
    have hz' := x.size
    have hT' := fun (w9 w' : aJa) (h : Ol w9 t' a') (o2 : cJ w9 p4 [Value.int IntKind.i64 0, Value.slice none 0 0, Value.int IntKind.i64 0, Value.slice none 0 0, Value.int IntKind.i64 0, Value.slice none 0 0]) (x : aS w9 w' (fun y => y = p4)) => h.own o2 (by simp) (fun u => by simp) x
    refine ⟨⟨a', rfl, hT' _ _ hT9 ((o27.ext x8 (fun h => h)).ext x9 (by omega)) x, ?_⟩, ?_⟩
    .have hbq' := (hbq.ext x9 (hatq _ fun b hb => by omega)).ext x (hatq _ fun b hb => by omega)
     exact ⟨hpl1, by omega, _, o9.ext x (by omega), hbq', hatq.mono fun b hb => by omega⟩
    .have y1 : aS w w8 (fun y => y = p ∨ y = p4 ∨ y = p8) := ((x16.mono fun _ _ h => .inl h).seq (x7.mono fun _ _ h => .inr (.inr h))).seq (x8.mono fun _ _ h => h.elim)
     exact ((y1.seq (x9.mono fun _ _ h => .inl h)).seq (x.mono fun _ _ h => .inr (.inl h))).mono fun b hb h => by omega
   .obtain ⟨k, hk⟩ : ∃ k, k = 2 - n := ⟨_, rfl⟩
    have hk3 : k < 3 := by omega
    have ek : ((3 - (n + 1) : Nat) : Int) = (k : Int) := by omega
    have d1 : decide ((k : Int) < 3) = true := by simp; omega
    have e2 : (2 : Int) * (k : Int) = ((2 * k : Nat) : Int) := by omega
    have e6 : (6 : Int) - ((2 * k : Nat) : Int) = ((6 - 2 * k : Nat) : Int) := by omega
    have em := aD3 (x := x) (k := k) hm8 hk3
    have hS : DP x o (n + 1) t' l' = match gE (k : Int) ((SC x k : Nat) : Int) l' (o k) with
     | .error e => .error e
     | .ok (y, u) => DP x o n (Ss t' k y) (l'.drop u) := by rw [hk] <;> rfl
    have hm4 := alZ x k
    have l2 := gI (off := k * 2) (dO o17) (by simp [c6]; omega)
    rw [apQ _ _ hk3] at l2
    rw [ek]
    simp (disch := omega) only [aC, aX, d1, pH, e2, aT, eK, aGO, aGP, eC, and_true, true_and, aA, dZ, e6, wV, Rw, em, Result.ok.injEq, Next.value.injEq, l2, aF]
    have hl8 : l'.length <= 1000000 := by omega
    have hgd : uA (dr w7) := hg7.ext (aS.dr _ cM)
    have hbd : Bs (dr w7) (.slice ba l'.length bc) l' := hb7.ext (aS.dr _ cM) (cD _)
    have hTd : Ol (dr w7) o a := hTo.ext (aS.dr _ cM)
    have z7 := x7.size
    refine Ld ?_ ?_
    .refine (aAf hgd hbd (fun _ => hl8) (hTd k hk3) (aHZ _) (by omega) (hO k hk3)).mono ?_
     rintro r w8 ⟨hR, x8⟩
     have x78 : aS w7 w8 cM := (aS.dr _ _).seq x8
     have z8 := x78.size
     cases hE' : gE (k : Int) ((SC x k : Nat) : Int) l' (o k) with
     | error e =>
       rw [hE'] at hR hS
       have ne := O4 hE'
       have n1 : (e != 0) = true := by simpa using ne
       unfold aBq at hR
       subst hR
       simp (disch := omega) only [SE, SF, SD, Result.ok.injEq, Next.value.injEq, and_true, aA, true_and]
       refine iK fun w9 o9 x9 s9 => ?_
       refine eI o9 rfl (by simp [one]) (by simp) fun w10 o10 x10 s10 => ?_
       unfold mH
       simp (disch := omega) only [aC, eT, n1, dU, aA, qD, eK, aGO, aGP, eC, Result.ok.injEq, Next.value.injEq, and_true, true_and, aF]
       have x710 : aS w7 w10 cM := x78.seq (x9.new x10 (aGZ _))
       exact awM (o27.ext x710 (fun h => h)) rfl fun w' x => err7 hS ((x710.mono fun _ _ h => h.elim).seq x)
     | ok yu =>
       obtain ⟨T, u⟩ := yu
       rw [hE'] at hR hS
       have hu := PS hE'
       unfold aBq at hR
       obtain ⟨t, rfl, hV⟩ := hR
       obtain ⟨ta, rfl⟩ := hV.form
       simp (disch := omega) only [SE, SF, SD, Result.ok.injEq, Next.value.injEq, and_true, aA, true_and]
       refine iK fun w9 o9 x9 s9 => ?_
       refine eI o9 rfl (by simp [one]) (by simp) fun w10 o10 x10 s10 => ?_
       have o10 : cJ w10 w8.heap.size [.int .i64 T.1, .slice ta T.2.length T.2.length] := o10
       have x810 : aS w8 w10 cM := x9.new x10 (aGZ _)
       have x710 := x78.seq x810
       have l10 := gI (off := 0) (dO o10) (by simp)
       simp only [aGT, aGN, aGV] at l10
       unfold mH
       simp (disch := omega) only [aC, eT, n0, dU, aA, qD, aGO, eK, aGP, eC, Result.ok.injEq, Next.value.injEq, and_true, true_and, l10, aE]
       have x710 : aS w7 (dr w10) cM := x710.seq (aS.dr _ _)
       refine eI (o8.ext x710 (fun h => h)) rfl (by simp [one]) (by simp [c6]; omega) fun w11 o11 x11 s11 => ?_
       have x8N : aS w8 (dr w10) cM := x810.seq (aS.dr _ _)
       have o11 : cJ w11 p8 (c6 (Ss t' k T) (upA a' k ta)) := by rw [<- azI _ _ hk3]; exact o11
       have hbn : Bs w7 (.slice (iO ba bc u 1) (l'.length - u) (bc - u)) (l'.drop u) := by
        have := hb7.drop' (k := u) (by omega)
        rwa [<- aI3] at this
       have han := hat7.sub (mx := bc) (k := u) (sz := 1) (m := l'.length - u) (c' := bc - u) (by omega)
       have hV11 : F1 w11 0 T (tvL T ta) := (hV.ext x8N (fun _ _ _ h => h)).own (o8.ext x710 (fun h => h)) (by simp [c6]) (fun u => by simp [c6]) x11
       have hT11 : Ol w11 t' a' := (hT7.ext x710).own (o8.ext x710 (fun h => h)) (by simp [c6]) (fun u => by simp [c6]) x11
       have hbn11 := (hbn.ext x710 (cD _)).ext x11 (han _ fun b hb => by omega)
       have hld : (l'.drop u).length <= l.length := by rw [aHh]; omega
       have e3 : ((k : Int) + 1) = ((3 - n : Nat) : Int) := by omega
       unfold sB
       simp (disch := omega) only [aC, bM, e3, aT, aA]
       exact ⟨n, by omega, _, _, _, _, _, rfl, by omega, rfl, hbn11, han, hld, o11, hT11.up hV11, by rw [hE, hS], x7.seq ((x710.mono fun _ _ h => h.elim).seq x11)⟩
    .refine iK fun w9 o9 x9 s9 => ?_
     have l9 := gI (off := k * 2) (o17.ext ((aS.dr _ cM).seq x9) (fun h => h)) (by simp [c6]; omega)
     rw [apQ _ _ hk3] at l9
     simp (disch := omega) only [l9, true_and]
     refine (aAf (hgd.ext x9) (hbd.ext x9 (cD _)) (fun _ => hl8) (hTd.ext x9 k hk3) (aHZ _) (by omega) (hO k hk3)).mono ?_
     rintro r w8 ⟨hR, x8⟩
     have x78 : aS w7 w8 cM := ((aS.dr _ _).seq x9).seq x8
     have z8 := x78.size
     have z88 := x8.size
     have hz7 : (dr w7).heap.size = w7.heap.size := rfl
     have o9 := o9.ext x8 (fun h => h)
     cases hE' : gE (k : Int) ((SC x k : Nat) : Int) l' (o k) with
     | error e =>
       rw [hE'] at hR hS
       have ne := O4 hE'
       have n1 : (e != 0) = true := by simpa using ne
       unfold aBq at hR
       subst hR
       simp (disch := omega) only [SE, SF, SD, Result.ok.injEq, Next.value.injEq, and_true, aA, true_and]
       refine eI o9 rfl (by simp [one]) (by simp) fun w10 o10 x10 s10 => ?_
       unfold mH
       simp (disch := omega) only [aC, eT, n1, dU, aA, qD, eK, aGO, aGP, eC, Result.ok.injEq, Next.value.injEq, and_true, true_and, aF]
       have x710 : aS w7 w10 cM := x78.new x10 (by omega)
       exact awM (o27.ext x710 (fun h => h)) rfl fun w' x => err7 hS ((x710.mono fun _ _ h => h.elim).seq x)
     | ok yu =>
       obtain ⟨T, u⟩ := yu
       rw [hE'] at hR hS
       have hu := PS hE'
       unfold aBq at hR
       obtain ⟨t, rfl, hV⟩ := hR
       obtain ⟨ta, rfl⟩ := hV.form
       simp (disch := omega) only [SE, SF, SD, Result.ok.injEq, Next.value.injEq, and_true, aA, true_and]
       have hV8 := fun (w' : aJa) (x : aS w8 w' (fun y => y = (dr w7).heap.size)) => hV.own (base := 0) (p := (dr w7).heap.size) o9 (by simp) (fun u => by simp) x
       refine eI o9 rfl (by simp [one]) (by simp) fun w10 o10 x10 s10 => ?_
       have hV10 := hV8 w10 x10
       have o10 : cJ w10 (dr w7).heap.size [.int .i64 T.1, .slice ta T.2.length T.2.length] := o10
       have x710 : aS w7 w10 cM := x78.new x10 (by omega)
       have l10 := gI (off := 0) (dO o10) (by simp)
       simp only [aGT, aGN, aGV] at l10
       unfold mH
       simp (disch := omega) only [aC, eT, n0, dU, aA, qD, aGO, eK, aGP, eC, Result.ok.injEq, Next.value.injEq, and_true, true_and, l10, aE]
       have x710 : aS w7 (dr w10) cM := x710.seq (aS.dr _ _)
       refine eI (o8.ext x710 (fun h => h)) rfl (by simp [one]) (by simp [c6]; omega) fun w11 o11 x11 s11 => ?_
       have o11 : cJ w11 p8 (c6 (Ss t' k T) (upA a' k ta)) := by rw [<- azI _ _ hk3]; exact o11
       have hbn : Bs w7 (.slice (iO ba bc u 1) (l'.length - u) (bc - u)) (l'.drop u) := by
        have := hb7.drop' (k := u) (by omega)
        rwa [<- aI3] at this
       have han := hat7.sub (mx := bc) (k := u) (sz := 1) (m := l'.length - u) (c' := bc - u) (by omega)
       have hV11 : F1 w11 0 T (tvL T ta) := (hV10.ext (aS.dr w10 cM) (fun _ _ _ h => h)).own (o8.ext x710 (fun h => h)) (by simp [c6]) (fun u => by simp [c6]) x11
       have hT11 : Ol w11 t' a' := (hT7.ext x710).own (o8.ext x710 (fun h => h)) (by simp [c6]) (fun u => by simp [c6]) x11
       have hbn11 := (hbn.ext x710 (cD _)).ext x11 (han _ fun b hb => by omega)
       have hld : (l'.drop u).length <= l.length := by rw [aHh]; omega
       have e3 : ((k : Int) + 1) = ((3 - n : Nat) : Int) := by omega
       unfold sB
       simp (disch := omega) only [aC, bM, e3, aT, aA]
       exact ⟨n, by omega, _, _, _, _, _, rfl, by omega, rfl, hbn11, han, hld, o11, hT11.up hV11, by rw [hE, hS], x7.seq ((x710.mono fun _ _ h => h.elim).seq x11)⟩
def upS (st : Nat -> Nat) (k x : Nat) : Nat -> Nat := fun i => if i = k then x else st i
def KA (r : Nat) : Nat := if r = 0 then 0 else if r = 1 then 2 else 1
theorem YZ (r : Nat) : KA r < 3 := by unfold KA; split <;> (try split) <;> omega
def nxs (t : Nat -> TT) (B : List Bool) : Nat -> (Nat -> Nat) -> Int -> (Nat -> Nat) × Int
 | 0, st, left => (st, left)
 | j + 1, st, left => nxs t B j (upS st (KA (2 - j)) (nR (t (KA (2 - j))).2 (st (KA (2 - j)) : Nat) B left).1.toNat) (nR (t (KA (2 - j))).2 (st (KA (2 - j)) : Nat) B left).2
def sts (t : Nat -> TT) (B : List Bool) : Nat -> (Nat -> Nat) -> Int -> (Nat -> Nat) × Int
 | 0, st, left => (st, left)
 | j + 1, st, left => sts t B j (upS st (2 - j) (rdL B left (t (2 - j)).1)) (left - (t (2 - j)).1)
def sqF (t : Nat -> TT) (B : List Bool) (n : Nat) (st : Nat -> Nat) (left : Int) : List Sq × Int := sqR (t 0).2 (t 1).2 (t 2).2 B n (st 0 : Nat) (st 1 : Nat) (st 2 : Nat) left
def v3 (t : Nat -> TT) (B : List Bool) (st : Nat -> Nat) (left : Int) : Sq × Int :=
 let o := vR 1 (t 1).2 (st 1 : Nat) B left
 let m := vR 2 (t 2).2 (st 2 : Nat) B o.2
 let l := vR 0 (t 0).2 (st 0 : Nat) B m.2
 (⟨l.1, m.1, o.1⟩, l.2)
theorem amD (t : Nat -> TT) (B : List Bool) (n : Nat) (k : Int) : runT t B n k = sqF t B n (sts t B 3 (fun _ => 0) k).1 (sts t B 3 (fun _ => 0) k).2 := rfl
theorem aqT (t : Nat -> TT) (B : List Bool) (st : Nat -> Nat) (left : Int) : sqF t B 1 st left = ([(v3 t B st left).1], (v3 t B st left).2) := rfl
def RH (t : Nat -> TT) (st : Nat -> Nat) : Prop := ∀ k, k < 3 -> yQ k (t k) /\ st k < (t k).2.length
theorem anD {t : Nat -> TT} {st : Nat -> Nat} (h : RH t st) (B : List Bool) (m : Nat) (left : Int) :
 sqF t B (m + 2) st left = ((v3 t B st left).1 :: (sqF t B (m + 1) (nxs t B 3 st (v3 t B st left).2).1 (nxs t B 3 st (v3 t B st left).2).2).1, (sqF t B (m + 1) (nxs t B 3 st (v3 t B st left).2).1 (nxs t B 3 st (v3 t B st left).2).2).2) := by
 have hn : ∀ k, k < 3 -> ∀ x : Int, (((nR (t k).2 (st k : Nat) B x).1.toNat : Nat) : Int) = (nR (t k).2 (st k : Nat) B x).1 := fun k hk x => by
  obtain ⟨s', h1, _⟩ := PO (h k hk).1 (h k hk).2 B x
  rw [h1] <;> rfl
 unfold sqF
 rw [sqR, if_neg (by omega)]
 show ((v3 t B st left).1 :: _, _) = _
 have h0 := hn 0 (by omega) (v3 t B st left).2
 have h2 := hn 2 (by omega) (nR (t 0).2 (st 0 : Nat) B (v3 t B st left).2).2
 have h1 := hn 1 (by omega) (nR (t 2).2 (st 2 : Nat) B (nR (t 0).2 (st 0 : Nat) B (v3 t B st left).2).2).2
 have e0 : (nxs t B 3 st (v3 t B st left).2).1 0 = (nR (t 0).2 (st 0 : Nat) B (v3 t B st left).2).1.toNat := rfl
 have e2 : (nxs t B 3 st (v3 t B st left).2).1 2 = (nR (t 2).2 (st 2 : Nat) B (nR (t 0).2 (st 0 : Nat) B (v3 t B st left).2).2).1.toNat := rfl
 have e1 : (nxs t B 3 st (v3 t B st left).2).1 1 = (nR (t 1).2 (st 1 : Nat) B (nR (t 2).2 (st 2 : Nat) B (nR (t 0).2 (st 0 : Nat) B (v3 t B st left).2).2).2).1.toNat := rfl
 have e3 : (nxs t B 3 st (v3 t B st left).2).2 = (nR (t 1).2 (st 1 : Nat) B (nR (t 2).2 (st 2 : Nat) B (nR (t 0).2 (st 0 : Nat) B (v3 t B st left).2).2).2).2 := rfl
 rw [e0, e1, e2, e3, h0, h1, h2]
 rfl
theorem Zz {t : Nat -> TT} {B : List Bool} : ∀ {j : Nat} {st : Nat -> Nat} {left : Int}, RH t st -> RH t (nxs t B j st left).1 /\ left - 20 * j <= (nxs t B j st left).2 /\ (nxs t B j st left).2 <= left
 | 0, st, left, h => ⟨h, by unfold nxs; simp, by unfold nxs; simp⟩
 | j + 1, st, left, h => by
   obtain ⟨s', h1, h2, h3, h4⟩ := PO (h _ (YZ (2 - j))).1 (h _ (YZ (2 - j))).2 B left
   rw [nxs]
   obtain ⟨g1, g2, g3⟩ := Zz (B := B) (j := j) (st := upS st (KA (2 - j)) (nR (t (KA (2 - j))).2 (st (KA (2 - j)) : Nat) B left).1.toNat) (left := (nR (t (KA (2 - j))).2 (st (KA (2 - j)) : Nat) B left).2) (fun k hk => by
    unfold upS
    split
    .rename_i he; rw [he, h1]; exact ⟨(h _ (YZ _)).1, h2⟩
    .exact h k hk)
   exact ⟨g1, by omega, by omega⟩
theorem aAD {t : Nat -> TT} {st : Nat -> Nat} (h : RH t st) (B : List Bool) (left : Int) : left - 93 <= (v3 t B st left).2 /\ (v3 t B st left).2 <= left := by
 obtain ⟨_, a1, a2⟩ := IS (by omega) (h 1 (by omega)).1 (h 1 (by omega)).2 B left
 obtain ⟨_, b1, b2⟩ := IS (by omega) (h 2 (by omega)).1 (h 2 (by omega)).2 B (vR 1 (t 1).2 (st 1 : Nat) B left).2
 obtain ⟨_, c1, c2⟩ := IS (by omega) (h 0 (by omega)).1 (h 0 (by omega)).2 B (vR 2 (t 2).2 (st 2 : Nat) B (vR 1 (t 1).2 (st 1 : Nat) B left).2).2
 have e : (v3 t B st left).2 = (vR 0 (t 0).2 (st 0 : Nat) B (vR 2 (t 2).2 (st 2 : Nat) B (vR 1 (t 1).2 (st 1 : Nat) B left).2).2).2 := rfl
 rw [e]; omega
theorem anH {t : Nat -> TT} {B : List Bool} : ∀ {n : Nat} {st : Nat -> Nat} {left : Int}, RH t st -> left - 160 * n <= (sqF t B n st left).2 /\ (sqF t B n st left).2 <= left /\ (sqF t B n st left).1.length = n
 | 0, st, left, h => ⟨by unfold sqF sqR; simp, by unfold sqF sqR; simp, rfl⟩
 | 1, st, left, h => by
   rw [aqT]
   have := aAD h B left
   exact ⟨by simp only; omega, by simp only; omega, rfl⟩
 | n + 2, st, left, h => by
   rw [anD h]
   have h1 := aAD h B left
   obtain ⟨g1, g2, g3⟩ := Zz (B := B) (j := 3) (left := (v3 t B st left).2) h
   obtain ⟨k1, k2, k3⟩ := anH (B := B) (n := n + 1) (left := (nxs t B 3 st (v3 t B st left).2).2) g1
   exact ⟨by simp only; omega, by simp only; omega, by simp only [aHc]; omega⟩
theorem F1.tbl {w : aJa} {base : Nat} {T : TT} {v : aJb} (h : F1 w base T v) (h0 : 0 < T.2.length) : ∃ b, Tbl w base b T.1 T.2 v := by
 rcases h with ⟨e, _⟩ | h
 .rw [e] at h0; simp at h0
 .exact h
theorem aEZ {w : aJa} {base b log p : Nat} {L : List T3} {v : aJb} {cs : List aJb} (h : Tbl w base b log L v) (hL : 0 < L.length) (o : cJ w p cs) (hc : ∀ u, cs[0]? ≠ some (.int .u8 u)) : b ≠ p := by
 rintro rfl
 have e := UB h.2.2 o
 subst e
 cases hT : L with
 | nil => rw [hT] at hL; simp at hL
 | cons a r =>
   have := (PL (k := .u8) (L := L) (i := 0) (e := a) (by rw [hT] <;> rfl)).1
   exact hc _ this
def s3L (st : Nat -> Nat) : List aJb := [.int .i64 (st 0 : Nat), .int .i64 (st 1 : Nat), .int .i64 (st 2 : Nat)]
theorem apZ (st : Nat -> Nat) {k : Nat} (h : k < 3) : (s3L st)[k]? = some (.int .i64 (st k : Nat)) := by
 rcases (show k = 0 ∨ k = 1 ∨ k = 2 by omega) with rfl | rfl | rfl <;> rfl
theorem arB (st : Nat -> Nat) {k : Nat} (h : k < 3) (x : Nat) : (s3L st).set k (.int .i64 (x : Nat)) = s3L (upS st k x) := by
 rcases (show k = 0 ∨ k = 1 ∨ k = 2 by omega) with rfl | rfl | rfl <;> rfl
theorem XG.hd {w : aJa} {lo hi : Nat} {l : List UInt8} {left : Int} (h : XG w lo hi l left) : ∃ cs, cJ w hi cs /\ ∀ u, cs[0]? ≠ some (.int .u8 u) := by
 obtain ⟨v, h1, h2, h3⟩ := h
 obtain ⟨va, vc, rfl, _⟩ := h2.len
 exact ⟨_, h1, fun u => by simp⟩
theorem avT {k5 : K8} {t5 n8 out t76 t77 : aJb} {pt ps lo hi : Nat} {t : Nat -> TT} {a : Nat -> Option Addr} {st : Nat -> Nat} {l : List UInt8} {left : Int} {w : aJa} (oT : cJ w pt (c6 t a)) (hT : Ol w t a) (oS : cJ w ps (s3L st)) (hB : XG w lo hi l left)
 (h1 : pt < lo) (h2 : lo <= hi) (h3 : hi < ps) (hG : RH t st) (hl : l.length <= 1000000) (hb1 : left <= 8 * l.length) (hb2 : -90000000 <= left)
 (hk : ∀ w', cJ w' ps (s3L (nxs t (bE l) 3 st left).1) -> XG w' lo hi l (nxs t (bE l) 3 st left).2 -> aS w w' (fun y => y = hi ∨ y = ps) -> k5 t5 n8 (.pointer (some ⟨pt, 0, none⟩)) (.pointer (some ⟨hi, 0, none⟩)) (.pointer (some ⟨ps, 0, none⟩)) out t76 t77 w') :
 xA k5 t5 n8 (.pointer (some ⟨pt, 0, none⟩)) (.pointer (some ⟨hi, 0, none⟩)) (.pointer (some ⟨ps, 0, none⟩)) out t76 t77 (.agg #[.int .i64 0, .int .i64 2, .int .i64 1]) (.int .i64 0) w := by
 have hps := oS.lt
 unfold xA
 refine cG.rule (fun n (v : aJb) w' => ∃ (j : Nat) (st' : Nat -> Nat) (left' : Int), n = j /\ j <= 3 /\ v = .int .i64 (3 - j : Nat) /\ cJ w' ps (s3L st') /\ XG w' lo hi l left' /\ RH t st' /\ Ol w' t a /\ nxs t (bE l) 3 st left = nxs t (bE l) j st' left' /\ left - 20 * (3 - j : Nat) <= left' /\ left' <= left /\ aS w w' (fun y => y = hi ∨ y = ps)) 3
  ⟨3, st, left, rfl, aGZ _, rfl, oS, hB, hG, hT, rfl, by simp, Int.le_refl _, aS.refl _ _⟩ ?_
 rintro j v w1 ⟨n, st', left', rfl, hj, rfl, oS1, hB1, hG1, hT1, hE, hc1, hc2, x1⟩
 unfold wN
 rcases j with _ | j
 .have d1 : decide (((3 - 0 : Nat) : Int) < 3) = false := rfl
  simp (disch := omega) only [aC, aX, d1, bM, aT, aA, true_and, aE]
  rw [hE] at hk
  exact hk _ oS1 hB1 x1
 .obtain ⟨r, hr⟩ : ∃ r, r = 2 - j := ⟨_, rfl⟩
  have hr3 : r < 3 := by omega
  have ek : ((3 - (j + 1) : Nat) : Int) = (r : Int) := by omega
  have d1 : decide ((r : Int) < 3) = true := by simp; omega
  rw [ek]
  have hN : nxs t (bE l) (j + 1) st' left' = nxs t (bE l) j (upS st' (KA r) (nR (t (KA r)).2 (st' (KA r) : Nat) (bE l) left').1.toNat) (nR (t (KA r)).2 (st' (KA r) : Nat) (bE l) left').2 := by rw [hr] <;> rfl
  have hx : (#[Value.int .i64 0, .int .i64 2, .int .i64 1] : Array aJb)[r]? = some (.int .i64 (KA r : Nat)) := by
   rcases (show r = 0 ∨ r = 1 ∨ r = 2 by omega) with rfl | rfl | rfl <;> rfl
  have hk3 := YZ r
  obtain ⟨k, hkk⟩ : ∃ k, k = KA r := ⟨_, rfl⟩
  rw [<- hkk] at hx hk3 hN
  obtain ⟨hGk, hsk⟩ := hG1 k hk3
  have oT1 := oT.ext x1 (by omega)
  have l2 := gI (off := k * 2) (dO oT1) (by simp [c6]; omega)
  rw [apQ _ _ hk3] at l2
  have c2 := (dO oS1).cell (off := k)
  rw [apZ _ hk3] at c2
  simp (disch := omega) only [aC, aX, d1, BL, aGO, hx, aI, bM, aT, aA, true_and, eK, aGP, xR, bZ, l2, c2, aF]
  obtain ⟨b, htb⟩ := (hT1.ext (aS.dr w1 cM) k hk3).tbl (by omega)
  have hB1d : XG (dr w1) lo hi l left' := hB1.ext (aS.dr _ cM) (fun _ _ _ h => h) h2
  obtain ⟨cs, oc, hcs⟩ := hB1d.hd
  have hne := aEZ htb (by omega) oc hcs
  have hlt512 : (t k).2.length <= 512 := by rw [hGk.len]; exact aG0 (by omega) hGk.lg
  have hbl := oc.lt
  refine (aBp htb hGk.low (by omega) hB1d h2 hbl hne (by omega) (by omega) hl).mono ?_
  rintro v w2 ⟨rfl, hB2, x2⟩
  obtain ⟨s', g1, g2, g3, g4⟩ := PO hGk hsk (bE l) left'
  have q1 : xF (t k).2 (st' k : Nat) (sO ((bE l).take left'.toNat) (nY (t k).2 (st' k : Nat))) = (nR (t k).2 (st' k : Nat) (bE l) left').1 := rfl
  have q2 : left' - (nY (t k).2 (st' k : Nat) : Nat) = (nR (t k).2 (st' k : Nat) (bE l) left').2 := rfl
  rw [q1, g1]
  rw [q2] at hB2
  rw [g1, aGO] at hN
  have x12 : aS w1 w2 (fun y => y = hi) := (aS.dr _ _).seq x2
  have hTd : Ol (dr w1) t a := hT1.ext (aS.dr w1 cM)
  have hT2 : Ol w2 t a := hTd.own oc (by
   rcases hcl : cs with _ | ⟨c0, cr⟩
   .obtain ⟨v, hv, _⟩ := hB1d
    have := UB oc hv
    rw [hcl] at this; cases this
   .simp) hcs x2
  have oS2 := oS1.ext x12 (by omega)
  refine sH oS2 rfl (by simp [s3L]; omega) fun w3 o3 x3 s3 => ?_
  rw [arB _ hk3] at o3
  have hT3 := hT2.own oS2 (by simp [s3L]) (fun u => by simp [s3L]) x3
  have e1 : (r : Int) + 1 = ((3 - j : Nat) : Int) := by omega
  simp (disch := omega) only [e1]
  refine ⟨j, by omega, _, _, _, rfl, by omega, rfl, o3, hB2.ext x3 (fun b _ _ => by omega) h2, fun i hi => ?_, hT3, by rw [hE, hN], by omega, by omega, (x1.seq (x12.mono fun _ _ h => .inl h)).seq (x3.mono fun _ _ h => .inr h)⟩
  unfold upS
  split
  .rename_i he; rw [he]; exact ⟨hGk, g2⟩
  .exact hG1 i hi
end Go.Proofs.YtaggdjhhmbnhoaaDoor
namespace Go.En
open Go
theorem OSS.ext {w w' : aJa} {S M : Nat -> Prop} {sz n : Nat} {v : aJb} {l : List aJb} (h : OSS w S sz v n l) (hx : aS w w' M) (hM : ∀ b, S b -> ¬ M b) : OSS w' S sz v n l := by
 refine ⟨h.1, ?_⟩
 rcases h.2 with h2 | ⟨b, c, rest, h1, h2, h3, h4, h5⟩
 .exact .inl h2
 .exact .inr ⟨b, c, rest, h1, h2, h3.ext hx (hM b h2), h4, h5⟩
theorem sN.ne {w : aJa} {base p sz n : Nat} {v : aJb} {l : List aJb} (h : sN w base sz v n l) (hp : w.heap.size <= p) : OSS w (fun b => base <= b /\ b ≠ p) sz v n l := by
 refine ⟨h.1, ?_⟩
 rcases h.2 with h2 | ⟨b, c, rest, h1, h2, h3, h4, h5⟩
 .exact .inl h2
 .have := h3.lt
  exact .inr ⟨b, c, rest, h1, ⟨h2, by omega⟩, h3, h4, h5⟩
theorem OSS.osl {w : aJa} {base p sz n : Nat} {v : aJb} {l : List aJb} (h : OSS w (fun b => base <= b /\ b ≠ p) sz v n l) : sN w base sz v n l := by
 refine ⟨h.1, ?_⟩
 rcases h.2 with h2 | ⟨b, c, rest, h1, h2, h3, h4, h5⟩
 .exact .inl h2
 .exact .inr ⟨b, c, rest, h1, h2.1, h3, h4, h5⟩
theorem OSS.len {w : aJa} {S : Nat -> Prop} {sz n : Nat} {v : aJb} {l : List aJb} (h : OSS w S sz v n l) : ∃ a c, v = .slice a n c := by
 rcases h.2 with ⟨h1, rfl⟩ | ⟨b, c, rest, h1, _⟩
 .exact ⟨_, _, h1⟩
 .exact ⟨_, _, h1⟩
end Go.En
namespace Go.Proofs.YtaggdjhhmbnhoaaDoor
open Go Go.En Go.Pu
set_option maxRecDepth 4000
def YB (q : Sq) : List aJb := [.int .u32 q.ll, .int .u32 q.ml, .int .u32 q.of]
def Zn (l : List Sq) : List aJb := l.flatMap YB
theorem auV (l : List Sq) (q : Sq) : Zn (l ++ [q]) = Zn l ++ YB q := by unfold Zn; rw [List.flatMap_append]; simp
theorem XG.hd0 {w : aJa} {lo hi : Nat} {l : List UInt8} {left : Int} {cs : List aJb} (h : XG w lo hi l left) (o : cJ w hi cs) : 0 < cs.length := by
 obtain ⟨v, h1, _⟩ := h
 rw [UB o h1]; simp
theorem Ol.ownM {w w' : aJa} {o : Nat -> TT} {a : Nat -> Option Addr} {M : Nat -> Prop} (h : Ol w o a) (hM : ∀ b, M b -> ∃ cs, cJ w b cs /\ 0 < cs.length /\ ∀ u, cs[0]? ≠ some (.int .u8 u)) (x : aS w w' M) : Ol w' o a := fun k hk => by
 rcases h k hk with h | ⟨b, h1, h2, h3⟩
 .exact .inl h
 .refine .inr ⟨b, h1, h2, h3.ext x fun hb => ?_⟩
  obtain ⟨cs, hc1, hc2, hc3⟩ := hM b hb
  have e := UB h3 hc1
  subst e
  cases hT : (o k).2 with
  | nil => rw [hT] at hc2; simp [fe] at hc2
  | cons y r =>
    have := (PL (k := .u8) (L := (o k).2) (i := 0) (e := y) (by rw [hT] <;> rfl)).1
    exact hc3 _ this
theorem ayS {k3 : K4} {t5 : aJb} {n pt ps lo hi : Nat} {t : Nat -> TT} {a : Nat -> Option Addr} {st : Nat -> Nat} {l : List UInt8} {left : Int} {w0 w : aJa} (hn : 1 <= n /\ n <= 98047) (hg : uA w0) (x0 : aS w0 w cM) (oT : cJ w pt (c6 t a)) (hT : Ol w t a) (oS : cJ w ps (s3L st)) (hB : XG w lo hi l left)
 (h0 : w0.heap.size <= pt) (h1 : pt < lo) (h2 : lo <= hi) (h3 : hi < ps) (hG : RH t st) (hl : l.length <= 1000000) (hb1 : left <= 8 * l.length) (hb2 : -1000 <= left)
 (hk : ∀ w' out, sN w' w.heap.size 3 out n (Zn (sqF t (bE l) n st left).1) -> XG w' lo hi l (sqF t (bE l) n st left).2 -> cJ w' pt (c6 t a) -> Ol w' t a -> aS w w' (fun y => y = hi ∨ y = ps) -> k3 t5 (.pointer (some ⟨pt, 0, none⟩)) (.pointer (some ⟨hi, 0, none⟩)) out w') :
 uP k3 t5 (.int .i64 n) (.pointer (some ⟨pt, 0, none⟩)) (.pointer (some ⟨hi, 0, none⟩)) (.pointer (some ⟨ps, 0, none⟩)) (.slice none 0 0) (.int .i64 n) (.int .i64 0) w := by
 have hps := oS.lt
 have z0 := x0.size
 have hTx : ∀ {w' : aJa}, aS w w' (fun y => y = hi ∨ y = ps) -> Ol w' t a := fun x => by
  obtain ⟨cs, oc, hcs⟩ := hB.hd
  refine hT.ownM (fun b hb => ?_) x
  rcases hb with rfl | rfl
  .exact ⟨cs, oc, hB.hd0 oc, hcs⟩
  .exact ⟨_, oS, by simp [s3L], fun u => by simp [s3L]⟩
 unfold uP
 refine cG.rule (fun m (v : aJb × aJb) w' => ∃ (i : Nat) (out : aJb) (qs : List Sq) (st' : Nat -> Nat) (left' : Int), m = n - i /\ i < n /\ v = (out, .int .i64 i) /\ qs.length = i /\ sN w' w.heap.size 3 out i (Zn qs) /\ cJ w' ps (s3L st') /\ XG w' lo hi l left' /\ RH t st' /\ Ol w' t a /\
  sqF t (bE l) n st left = (qs ++ (sqF t (bE l) (n - i) st' left').1, (sqF t (bE l) (n - i) st' left').2) /\ left - 160 * i <= left' /\ left' <= left /\ aS w w' (fun y => y = hi ∨ y = ps)) n
  ⟨0, _, [], st, left, rfl, by omega, rfl, rfl, sN.nil _ _ _, oS, hB, hG, hT, rfl, by simp, Int.le_refl _, aS.refl _ _⟩ ?_
 rintro m v w1 ⟨i, out, qs, st', left', rfl, hin, rfl, hqs, os1, oS1, hB1, hG1, hT1, hE, hc1, hc2, x1⟩
 have d1 : decide ((i : Int) < (n : Int)) = true := by simp; omega
 unfold uH BR
 simp (disch := omega) only [aC, aX, d1, aA, aF]
 unfold DK C9 Mb Dh
 refine HD fun w2 o2 x2 s2 => ?_
 obtain ⟨hG0, hs0⟩ := hG1 0 (by omega)
 obtain ⟨hGo, hso⟩ := hG1 1 (by omega)
 obtain ⟨hGm, hsm⟩ := hG1 2 (by omega)
 have z1 := x1.size
 have oT2 := (oT.ext x1 (by omega)).ext x2 (fun h => h)
 have oS2 := oS1.ext x2 (fun h => h)
 have hB2 := hB1.ext x2 (fun _ _ _ h => h) h2
 have hT2 := hT1.ext x2
 have os2 := (os1.ne (aGZ w1.heap.size)).ext x2 (fun b _ h => h)
 have x02 : aS w0 w2 cM := x0.trans (x1.seq (x2.mono fun _ _ h => h.elim)) fun b hb h => by omega
 have t1 : (1 : Int).toNat = 1 := rfl
 have t2 : (2 : Int).toNat = 2 := rfl
 have t0 : (0 : Int).toNat = 0 := rfl
 obtain ⟨pq, hpq⟩ : ∃ pq, pq = w1.heap.size := ⟨_, rfl⟩
 rw [<- hpq] at o2 os2 ⊢
 have hpq2 : ps < pq := by have := oS1.lt; omega
 have hpw : w.heap.size <= pq := by omega
 have hnb : ∀ (w' : aJa), XG w' lo hi l left -> True := fun _ _ => trivial
 have xx2 : aS w1 w2 (fun y => y = hi ∨ y = pq) := x2.mono fun _ _ h => h.elim
 have hc3 : -90000000 <= left' - 200 := by omega
 have l2 := gI (off := 2) oT2 (by simp [c6])
 have c2 := oS2.cell (off := 1)
 rw [apZ _ (by omega)] at c2
 simp only [c6, aHx, aGT, aGN, aGV] at l2
 simp (disch := omega) only [aC, eK, t1, aGP, xR, kP, t2, lH, t0, jN, dZ, aT, pX, aA, cW, bZ, l2, c2, aI]
 obtain ⟨b2, ht2⟩ := (hT2 1 (by omega)).tbl (by omega)
 obtain ⟨cs2, oc2, hcs2⟩ := hB2.hd
 have hhi2 := oc2.lt
 refine (WM (k := 1) (T := t 1) (s := st' 1) (hg.ext x02) (by omega) ht2 hGo hso hB2 h2 hhi2 (by omega) (by omega) hl).mono ?_
 rintro r u2 ⟨rfl, hBv2, xv2⟩
 obtain ⟨hv2, hw21, hw22⟩ := IS (k := 1) (by omega) hGo hso (bE l) left'
 have oTv2 := oT2.ext xv2 (by omega)
 have oSv2 := oS2.ext xv2 (by omega)
 have hTv2 := hT2.own oc2 (hB2.hd0 oc2) hcs2 xv2
 have osv2 := os2.ext xv2 (fun b h e => by omega)
 have oqv2 := o2.ext xv2 (by omega)
 have x0v2 : aS w0 u2 cM := x02.trans xv2 fun b hb h => by omega
 refine EN oqv2 rfl (by simp) fun w3 o3 x3 s3 => ?_
 simp only [aGS, aGU] at o3
 have oT3 := oTv2.ext x3 (by omega)
 have oS3 := oSv2.ext x3 (by omega)
 have hT3 := hTv2.own oqv2 (by simp) (fun u => by simp) x3
 have os3 := osv2.ext x3 (fun b h e => h.2 e)
 have hB3 := hBv2.ext x3 (fun b _ _ => by omega) h2
 have x03 : aS w0 w3 cM := x0v2.trans x3 fun b hb h => by omega
 have xx3 : aS w1 w3 (fun y => y = hi ∨ y = pq) := (xx2.seq (xv2.mono fun _ _ h => .inl h)).seq (x3.mono fun _ _ h => .inr h)
 have l3 := gI (off := 4) oT3 (by simp [c6])
 have c3 := oS3.cell (off := 2)
 rw [apZ _ (by omega)] at c3
 simp only [c6, aHx, aGT, aGN, aGV] at l3
 simp (disch := omega) only [l3, aA, c3, aI]
 obtain ⟨b3, ht3⟩ := (hT3 2 (by omega)).tbl (by omega)
 obtain ⟨cs3, oc3, hcs3⟩ := hB3.hd
 have hhi3 := oc3.lt
 refine (WM (k := 2) (T := t 2) (s := st' 2) (hg.ext x03) (by omega) ht3 hGm hsm hB3 h2 hhi3 (by omega) (by omega) hl).mono ?_
 rintro r u3 ⟨rfl, hBv3, xv3⟩
 obtain ⟨hv3, hw31, hw32⟩ := IS (k := 2) (by omega) hGm hsm (bE l) (vR 1 (t 1).2 (st' 1 : Nat) (bE l) left').2
 have oTv3 := oT3.ext xv3 (by omega)
 have oSv3 := oS3.ext xv3 (by omega)
 have hTv3 := hT3.own oc3 (hB3.hd0 oc3) hcs3 xv3
 have osv3 := os3.ext xv3 (fun b h e => by omega)
 have oqv3 := o3.ext xv3 (by omega)
 have x0v3 : aS w0 u3 cM := x03.trans xv3 fun b hb h => by omega
 refine EN oqv3 rfl (by simp) fun w4 o4 x4 s4 => ?_
 simp only [aGS, aGU] at o4
 have oT4 := oTv3.ext x4 (by omega)
 have oS4 := oSv3.ext x4 (by omega)
 have hT4 := hTv3.own oqv3 (by simp) (fun u => by simp) x4
 have os4 := osv3.ext x4 (fun b h e => h.2 e)
 have hB4 := hBv3.ext x4 (fun b _ _ => by omega) h2
 have x04 : aS w0 w4 cM := x0v3.trans x4 fun b hb h => by omega
 have xx4 : aS w1 w4 (fun y => y = hi ∨ y = pq) := (xx3.seq (xv3.mono fun _ _ h => .inl h)).seq (x4.mono fun _ _ h => .inr h)
 have l4 := gI (off := 0) oT4 (by simp [c6])
 have c4 := oS4.cell (off := 0)
 rw [apZ _ (by omega)] at c4
 simp only [c6, aHx, aGT, aGN, aGV] at l4
 simp (disch := omega) only [l4, aA, c4, aI]
 obtain ⟨b4, ht4⟩ := (hT4 0 (by omega)).tbl (by omega)
 obtain ⟨cs4, oc4, hcs4⟩ := hB4.hd
 have hhi4 := oc4.lt
 refine (WM (k := 0) (T := t 0) (s := st' 0) (hg.ext x04) (by omega) ht4 hG0 hs0 hB4 h2 hhi4 (by omega) (by omega) hl).mono ?_
 rintro r u4 ⟨rfl, hBv4, xv4⟩
 obtain ⟨hv4, hw41, hw42⟩ := IS (k := 0) (by omega) hG0 hs0 (bE l) (vR 2 (t 2).2 (st' 2 : Nat) (bE l) (vR 1 (t 1).2 (st' 1 : Nat) (bE l) left').2).2
 have oTv4 := oT4.ext xv4 (by omega)
 have oSv4 := oS4.ext xv4 (by omega)
 have hTv4 := hT4.own oc4 (hB4.hd0 oc4) hcs4 xv4
 have osv4 := os4.ext xv4 (fun b h e => by omega)
 have oqv4 := o4.ext xv4 (by omega)
 have x0v4 : aS w0 u4 cM := x04.trans xv4 fun b hb h => by omega
 refine EN oqv4 rfl (by simp) fun w5 o5 x5 s5 => ?_
 simp only [aGS, aGU] at o5
 have oT5 := oTv4.ext x5 (by omega)
 have oS5 := oSv4.ext x5 (by omega)
 have hT5 := hTv4.own oqv4 (by simp) (fun u => by simp) x5
 have os5 := osv4.ext x5 (fun b h e => h.2 e)
 have hB5 := hBv4.ext x5 (fun b _ _ => by omega) h2
 have x05 : aS w0 w5 cM := x0v4.trans x5 fun b hb h => by omega
 have xx5 : aS w1 w5 (fun y => y = hi ∨ y = pq) := (xx4.seq (xv4.mono fun _ _ h => .inl h)).seq (x5.mono fun _ _ h => .inr h)
 obtain ⟨q, lf, hq⟩ : ∃ q lf, v3 t (bE l) st' left' = (q, lf) := ⟨_, _, rfl⟩
 have hq1 : (v3 t (bE l) st' left').1 = q := by rw [hq]
 have hq2 : (v3 t (bE l) st' left').2 = lf := by rw [hq]
 have hlf := aAD hG1 (bE l) left'
 rw [hq2] at hlf
 have o5 : cJ w5 pq (YB (v3 t (bE l) st' left').1) := o5
 have hB5 : XG w5 lo hi l (v3 t (bE l) st' left').2 := hB5
 rw [hq1] at o5
 rw [hq2] at hB5
 have l5 := Em (off := 0) o5 (by simp [YB])
 simp only [YB, aGT, aGN, aGV] at l5
 simp (disch := omega) only [l5, aA]
 refine BG (cells := #[.int .u32 q.ll, .int .u32 q.ml, .int .u32 q.of]) (by decide) (by decide) (by kernel_rfl) fun w6 o6 x6 s6 => ?_
 have os6 := (os5.ext x6 (fun b _ h => h)).osl
 have z5 := xx5.size
 have z6 := x6.size
 refine qK (m := 1) (news := YB q) os6 (o6.cl (off := 0) (l := YB q) (n := 1) rfl (fun i hi => by rw [aGP] <;> rfl)) (by simp [YB, one]) (by omega) (by omega) fun v7 w7 o7 x7 => ?_
 rw [<- auV] at o7
 have oT7 := (oT5.ext x6 (fun h => h)).ext x7 (by omega)
 have oS7 := (oS5.ext x6 (fun h => h)).ext x7 (by omega)
 have hw6 : aS w1 w6 (fun y => y = hi ∨ y = ps) := (xx5.mono fun b hb h => by omega : aS w1 w5 (fun y => y = hi ∨ y = ps)).more x6
 have hw7 : aS w w7 (fun y => y = hi ∨ y = ps) := (x1.seq hw6).trans x7 fun b hb h => by omega
 have hB7 := (hB5.ext x6 (fun _ _ _ h => h) h2).ext x7 (fun b _ _ => by omega) h2
 have hT6 := hT5.ext x6
 have hT7 : Ol w7 t a := hTx hw7
 by_cases hlast : i + 1 = n
 .have n1 : ((i : Int) == (n : Int) - 1) = true := by simp; omega
  simp (disch := omega) only [n1, aF]
  have h1 : n - i = 1 := by omega
  rw [h1, aqT, hq] at hE
  rw [hE] at hk
  rw [hlast] at o7
  exact hk _ _ o7 hB7 oT7 hT7 hw7
 .have n1 : ((i : Int) == (n : Int) - 1) = false := by simp; omega
  simp (disch := omega) only [n1, aE]
  unfold C8
  obtain ⟨m, hm⟩ : ∃ m, n - i = m + 2 := ⟨n - i - 2, by omega⟩
  have hm1 : n - (i + 1) = m + 1 := by omega
  have hE2 := anD hG1 (bE l) m left'
  rw [hq] at hE2
  simp only at hE2
  obtain ⟨g1, g2, g3⟩ := Zz (B := bE l) (j := 3) (left := lf) hG1
  refine avT oT7 hT7 oS7 hB7 h1 h2 h3 hG1 hl (by omega) (by omega) fun w8 oS8 hB8 x8 => ?_
  unfold wZ
  have e1 : (i : Int) + 1 = ((i + 1 : Nat) : Int) := by omega
  simp (disch := omega) only [aC, bM, e1, aT, aA]
  have hT8 : Ol w8 t a := hTx (hw7.seq x8)
  refine ⟨n - (i + 1), by omega, i + 1, _, qs ++ [q], _, _, rfl, by omega, rfl, by rw [aGY, hqs] <;> rfl, o7.ext x8 (fun b hb h => by omega), oS8, hB8, g1, hT8, ?_, by omega, by omega, hw7.seq x8⟩
  rw [hE, hm, hE2, hm1, aG2]
  rfl
def kv (q : Sq) (k : Nat) : Nat := if k = 0 then q.ll else if k = 1 then q.of else q.ml
def kvL (q : Sq) : List aJb := [.int .u32 (kv q 0 : Nat), .int .u32 (kv q 1 : Nat), .int .u32 (kv q 2 : Nat)]
theorem aE2 (q : Sq) {k : Nat} (h : k < 3) : (kvL q).toArray[k]? = some (.int .u32 (kv q k : Nat)) := by
 rcases (show k = 0 ∨ k = 1 ∨ k = 2 by omega) with rfl | rfl | rfl <;> rfl
theorem avA (q : Sq) (w : aJa) : aR pg qB #[.agg (YB q).toArray] w (fun r w' => r = .agg (kvL q).toArray /\ aS w w' cM) := by
 refine Sv ?_
 unfold Pa Ab
 refine fY fun w1 o1 x1 s1 => ?_
 have o1 : cJ w1 w.heap.size (YB q) := o1
 refine Vp fun w2 o2 x2 s2 => ?_
 have o1 := o1.ext x2 (fun h => h)
 have z1 := x1.size
 have c0 := o1.cell (off := 0)
 have c1 := o1.cell (off := 1)
 have c2 := o1.cell (off := 2)
 simp only [YB, aGQ, aGR] at c0 c1 c2
 simp (disch := omega) only [aC, jN, kP, aGP, lH, aA, tL, c0, aI, c2, c1, Aj]
 refine T7 o2 rfl (by simp [one]) (by simp) fun w3 o3 x3 s3 => ?_
 refine alM o3 (by simp [aV]) ?_
 simp only [aV, aGS, aGU, aGT, aGN, aGV]
 exact ⟨rfl, (x1.seq x2).new x3 (by omega)⟩
theorem TG {w w' : aJa} {sz n : Nat} {v : aJb} {l : List aJb} {M : Nat -> Prop} (h : Cl w sz v n l) (x : aS w w' M) (hM : ¬ inB v M) (hs : 0 < sz) : Cl w' sz v n l := by
 obtain ⟨a, c, rfl, h1, h2⟩ := h
 refine ⟨a, c, rfl, h1, fun h0 => ?_⟩
 obtain ⟨b, off, rfl, h3⟩ := h2 h0
 refine ⟨b, off, rfl, fun i hi => ?_⟩
 have h4 := h3 i hi
 rw [aGX hi] at h4 ⊢
 refine akR h4 x fun hb => hM ?_
 obtain ⟨n, rfl⟩ : ∃ m, n = m + 1 := ⟨n - 1, by omega⟩
 exact hb
theorem aEp {l : List Sq} {i : Nat} {q : Sq} (h : l[i]? = some q) : ((Zn l).drop (i * 3)).take 3 = YB q := by
 induction l generalizing i with
 | nil => simp at h
 | cons a l ih =>
   have e : Zn (a :: l) = YB a ++ Zn l := rfl
   rw [e]
   cases i with
   | zero =>
     simp only [aGQ, Option.some.injEq] at h
     subst h
     simp [YB]
   | succ i =>
     simp only [aGR] at h
     have hl : (YB a).length = 3 := rfl
     rw [show (i + 1) * 3 = 3 + i * 3 by omega, List.drop_append, hl, show 3 + i * 3 - 3 = i * 3 by omega, aHW (by omega), aHv]
     exact ih h
theorem akG {l : List Sq} {v : aJb} {w : aJa} (h : Cl w 3 v l.length (Zn l)) {i : Nat} {q : Sq} (hq : l[i]? = some q) : ∃ b off c, v = .slice (some ⟨b, off, none⟩) l.length c /\
 (∀ w', (∀ x, w'.cell? x = w.cell? x) -> (aH 47 (.pointer (some ⟨b, off + i * 3, none⟩))).run pg w' = .ok (.value (.agg (YB q).toArray)) w') := by
 obtain ⟨a, c, rfl, h1, h2⟩ := h
 have hi : i < l.length := by
  rcases aHd i l.length with h | h
  .exact h
  .rw [aHa h] at hq; cases hq
 obtain ⟨b, off, rfl, h3⟩ := h2 (by omega)
 refine ⟨b, off, c, rfl, fun w' hw => aeA (l := YB q) rfl fun j hj => ?_⟩
 have hj3 : j < 3 := hj
 have h4 := h3 (i * 3 + j) (by rw [h1]; omega)
 rw [hw, aIf, h4, <- aEp hq, aHr hj3, aIa]
structure C3 (w : aJa) (base : Nat) (L : Nat -> List Nat) (v : Nat -> aJb) (D : Nat -> Nat -> Prop) : Prop where
 row : ∀ k, k < 3 -> OSS w (D k) 1 (v k) (L k).length ((L k).map fun (n : Nat) => Value.int .i64 n)
 bd : ∀ k, k < 3 -> ∀ b, D k b -> base <= b /\ b < w.heap.size
 sep : ∀ j, j < 3 -> ∀ k, k < 3 -> j ≠ k -> ∀ b, D j b -> ¬ D k b
theorem C3.ext {w w' : aJa} {base : Nat} {L : Nat -> List Nat} {v : Nat -> aJb} {D : Nat -> Nat -> Prop} {M : Nat -> Prop} (h : C3 w base L v D) (x : aS w w' M) (hM : ∀ b, base <= b -> b < w.heap.size -> ¬ M b) : C3 w' base L v D :=
 ⟨fun k hk => (h.row k hk).ext x fun b hb => hM b (h.bd k hk b hb).1 (h.bd k hk b hb).2, fun k hk b hb => ⟨(h.bd k hk b hb).1, by have := (h.bd k hk b hb).2; have := x.size; omega⟩, h.sep⟩
def upL (L : Nat -> List Nat) (k : Nat) (x : List Nat) : Nat -> List Nat := fun i => if i = k then x else L i
def upV (v : Nat -> aJb) (k : Nat) (x : aJb) : Nat -> aJb := fun i => if i = k then x else v i
theorem C3.app {w w' : aJa} {base k : Nat} {L : Nat -> List Nat} {v : Nat -> aJb} {D : Nat -> Nat -> Prop} {x : aJb} {c : List Nat} (h : C3 w base L v D) (hk : k < 3) (hb : base <= w.heap.size)
 (o : OSS w' (fun b => D k b ∨ w.heap.size <= b) 1 x c.length (c.map fun (n : Nat) => Value.int .i64 n)) (y : aS w w' (fun b => D k b ∨ w.heap.size <= b)) : C3 w' base (upL L k c) (upV v k x) (fun j b => if j = k then (D k b ∨ w.heap.size <= b) /\ b < w'.heap.size else D j b) := by
 have hz := y.size
 refine ⟨fun j hj => ?_, fun j hj b hb' => ?_, fun i hi j hj hij b hbi hbj => ?_⟩
 .by_cases he : j = k
  .subst he
   have e1 : upL L j c j = c := by unfold upL; rw [if_pos rfl]
   have e2 : upV v j x j = x := by unfold upV; rw [if_pos rfl]
   rw [e1, e2]
   simp only [if_true]
   refine ⟨o.1, ?_⟩
   rcases o.2 with h2 | ⟨b, cc, rest, h1, h2, h3, h4, h5⟩
   .exact .inl h2
   .exact .inr ⟨b, cc, rest, h1, ⟨h2, h3.lt⟩, h3, h4, h5⟩
  .have e1 : upL L k c j = L j := by unfold upL; rw [if_neg he]
   have e2 : upV v k x j = v j := by unfold upV; rw [if_neg he]
   rw [e1, e2]
   simp only [if_neg he]
   refine (h.row j hj).ext y fun b hb hb2 => ?_
   rcases hb2 with hb2 | hb2
   .exact h.sep j hj k hk he b hb hb2
   .have := (h.bd j hj b hb).2; omega
 .by_cases he : j = k
  .simp only [if_pos he] at hb'
   rcases hb'.1 with h1 | h1
   .exact ⟨(h.bd k hk b h1).1, hb'.2⟩
   .exact ⟨by omega, hb'.2⟩
  .simp only [if_neg he] at hb'
   have := h.bd j hj b hb'
   exact ⟨this.1, by omega⟩
 .by_cases he : i = k
  .have hj' : j ≠ k := fun h => hij (by rw [he, h])
   simp only [if_pos he, if_neg hj'] at hbi hbj
   rcases hbi.1 with h1 | h1
   .exact h.sep j hj k hk hj' b hbj h1
   .have := (h.bd j hj b hbj).2; omega
  .simp only [if_neg he] at hbi
   by_cases hj' : j = k
   .simp only [if_pos hj'] at hbj
    rcases hbj.1 with h1 | h1
    .exact h.sep i hi k hk he b hbi h1
    .have := (h.bd i hi b hbi).2; omega
   .simp only [if_neg hj'] at hbj
    exact h.sep i hi j hj hij b hbi hbj
def WR (k : Nat) (l : List Sq) (L : List Nat) : Prop := L.length = l.length /\ ∀ (i : Nat) (q : Sq) (c : Nat), l[i]? = some q -> L[i]? = some c -> tW k (kv q k) c
theorem WR.snoc {k : Nat} {l : List Sq} {L : List Nat} {q : Sq} {c : Nat} (h : WR k l L) (hc : tW k (kv q k) c) : WR k (l ++ [q]) (L ++ [c]) := by
 refine ⟨by rw [aGY, aGY, h.1] <;> rfl, fun i p d hp hd => ?_⟩
 rcases aHd i l.length with hi | hi
 .rw [aG6 hi] at hp
  rw [aG6 (by rw [h.1]; exact hi)] at hd
  exact h.2 i p d hp hd
 .rw [aHy hi] at hp
  rw [aHy (by rw [h.1]; exact hi), h.1] at hd
  rcases aHT (i - l.length) with h0 | h0
  .rw [h0] at hp hd
   cases hp; cases hd; exact hc
  .rw [aHa (by simp; omega)] at hp; cases hp
def vL (v : Nat -> aJb) : List aJb := [v 0, v 1, v 2]
theorem aAy (v : Nat -> aJb) {k : Nat} (h : k < 3) : (vL v)[k]? = some (v k) := by
 rcases (show k = 0 ∨ k = 1 ∨ k = 2 by omega) with rfl | rfl | rfl <;> rfl
theorem aFr (v : Nat -> aJb) {k : Nat} (h : k < 3) (x : aJb) : (vL v).set k x = vL (upV v k x) := by
 rcases (show k = 0 ∨ k = 1 ∨ k = 2 by omega) with rfl | rfl | rfl <;> rfl
def aBW (w : aJa) (base : Nat) (l : List Sq) (r : aJb) : Prop :=
 (∃ v D L, r = .tuple #[.agg (vL v).toArray, .int .i64 0] /\ C3 w base L v D /\ ∀ k, k < 3 -> WR k l (L k)) ∨
 ((∃ q ∈ l, ∃ k, k < 3 /\ ∀ c, ¬ tW k (kv q k) c) /\ ∃ x y z : Option Addr × Nat × Nat, r = .tuple #[.agg #[.slice x.1 x.2.1 x.2.2, .slice y.1 y.2.1 y.2.2, .slice z.1 z.2.1 z.2.2], .int .i64 1])
theorem C3.lower {w : aJa} {base base' : Nat} {L : Nat -> List Nat} {v : Nat -> aJb} {D : Nat -> Nat -> Prop} (h : C3 w base L v D) (hb : base' <= base) : C3 w base' L v D :=
 ⟨h.row, fun k hk b hd => ⟨by have := (h.bd k hk b hd).1; omega, (h.bd k hk b hd).2⟩, h.sep⟩
theorem C3.ones {w : aJa} {base : Nat} {L : Nat -> List Nat} {v : Nat -> aJb} {D : Nat -> Nat -> Prop} (h : C3 w base L v D) : ∀ x ∈ vL v, one x = true := by
 intro x hx
 have : ∀ k, k < 3 -> one (v k) = true := fun k hk => by
  obtain ⟨a, c, e⟩ := (h.row k hk).len
  rw [e] <;> rfl
 rcases aHE.1 hx with rfl | hx
 .exact this 0 (by omega)
 rcases aHE.1 hx with rfl | hx
 .exact this 1 (by omega)
 rcases aHE.1 hx with rfl | hx
 .exact this 2 (by omega)
 .cases hx
theorem C3.form {w : aJa} {base : Nat} {L : Nat -> List Nat} {v : Nat -> aJb} {D : Nat -> Nat -> Prop} (h : C3 w base L v D) : ∃ x y z : Option Addr × Nat × Nat, v 0 = .slice x.1 x.2.1 x.2.2 /\ v 1 = .slice y.1 y.2.1 y.2.2 /\ v 2 = .slice z.1 z.2.1 z.2.2 := by
 obtain ⟨a0, c0, e0⟩ := (h.row 0 (by omega)).len
 obtain ⟨a1, c1, e1⟩ := (h.row 1 (by omega)).len
 obtain ⟨a2, c2, e2⟩ := (h.row 2 (by omega)).len
 exact ⟨(a0, _, c0), (a1, _, c1), (a2, _, c2), e0, e1, e2⟩
theorem aEv {p : Nat} {w : aJa} {v0 v1 v2 : aJb} {c : List aJb} {e : aJb} (o : cJ w p c) (hc : c.length = 3) (h0 : one v0 = true) (h1 : one v1 = true) (h2 : one v2 = true) {RR : aJb -> aJa -> Prop}
 (hR : ∀ w', aS w w' (fun y => y = p) -> RR (.tuple #[.agg #[v0, v1, v2], e]) w') :
 aC pg (aJ 98 (.pointer (some ⟨p, 0, none⟩)) (.agg #[v0, v1, v2])) w fun _u w => kC pg 98 (.pointer (some ⟨p, 0, none⟩)) w fun r0 => RR (.tuple #[r0, e]) w := by
 match c, hc with
 | [c0, c1, c2], _ =>
   refine Ku o rfl (by simp [h0, h1, h2]) (by simp) fun w6 o6 x6 s6 => ?_
   refine akV o6 (by simp [aV]) ?_
   simp only [aV, aGS, aGU, aGT, aGN, aGV]
   exact hR _ x6
theorem aDT {lv : aJb} {l : List Sq} {w : aJa} (hg : uA w) (h : Cl w 3 lv l.length (Zn l)) (hu : ∀ q ∈ l, ∀ k, kv q k < 4294967296) (hl : l.length <= 1000000) :
 aR pg xC #[lv] w (fun r w' => aBW w' w.heap.size l r /\ aS w w' cM) := by
 refine TI ?_
 obtain ⟨RR, hRR⟩ : ∃ RR : aJb -> aJa -> Prop, RR = fun r w' => aBW w' w.heap.size l r /\ aS w w' cM := ⟨_, rfl⟩
 rw [<- hRR]
 have hf := h
 obtain ⟨la, lc, rfl, _⟩ := hf
 unfold Rv zZ Af
 refine Fo fun w1 o1 x1 s1 => ?_
 refine Fo fun w2 o2 x2 s2 => ?_
 have o1 := o1.ext x2 (fun h => h)
 have x02 := x1.seq x2
 obtain ⟨pt, hpt⟩ : ∃ pt, pt = w.heap.size := ⟨_, rfl⟩
 obtain ⟨po, hpo⟩ : ∃ po, po = w1.heap.size := ⟨_, rfl⟩
 rw [<- hpt] at o1 ⊢
 rw [<- hpo] at o2 ⊢
 have hg2 := hg.ext x02
 unfold Ad Ae Ao
 simp (disch := omega) only [aC, fH, aA]
 unfold zY An
 refine cG.rule (fun m (t : aJb) w' => ∃ (i : Nat) (v : Nat -> aJb) (D : Nat -> Nat -> Prop) (L : Nat -> List Nat), m = l.length - i /\ i <= l.length /\ t = .int .i64 i /\ cJ w' po (vL v) /\ C3 w' w2.heap.size L v D /\ (∀ k, k < 3 -> WR k (l.take i) (L k)) /\ (∀ q ∈ l.take i, ∀ k, k < 3 -> ∃ c, tW k (kv q k) c) /\ aS w2 w' (fun y => y = po)) l.length
  ⟨0, fun _ => .slice none 0 0, fun _ _ => False, fun _ => [], rfl, by omega, rfl, o2, ⟨fun k _ => ⟨rfl, .inl ⟨rfl, rfl⟩⟩, fun _ _ _ h => h.elim, fun _ _ _ _ _ _ h => h.elim⟩, fun k _ => ⟨rfl, fun i q c h => by simp at h⟩, fun q hq => by simp at hq, aS.refl _ _⟩ ?_
 rintro m t w3 ⟨i, v, D, L, rfl, hi, rfl, o3, hC, hK, hA, x3⟩
 unfold sW Ai
 have o13 := o1.ext x3 (by omega)
 have z2 := x02.size
 have z3 := x3.size
 have x03 : aS w w3 cM := x02.trans x3 fun b hb h => by omega
 by_cases hlt : i < l.length
 rotate_left
 .obtain rfl : i = l.length := by omega
  have d1 : decide ((l.length : Int) < (l.length : Int)) = false := by simp
  have l3 := KH (off := 0) o3 (by simp [vL])
  simp only [vL, aGT, aGN, aGV] at l3
  obtain ⟨y0, y1, y2, e0, e1, e2⟩ := hC.form
  simp (disch := omega) only [aC, aX, d1, aA, aE]
  unfold vF
  simp (disch := omega) only [aC, l3, aA]
  refine aEv o13 rfl (by rw [e0] <;> rfl) (by rw [e1] <;> rfl) (by rw [e2] <;> rfl) fun w' x => ?_
  rw [hRR]
  refine ⟨.inl ⟨v, D, L, rfl, (hC.ext x fun b h1 h2 h3 => by omega).lower (by omega), ?_⟩, x03.new x (by omega)⟩
  rw [aIw] at hK
  exact hK
 have d1 : decide ((i : Int) < (l.length : Int)) = true := by simp; omega
 obtain ⟨q, hq⟩ : ∃ q, l[i]? = some q := ⟨_, aGX hlt⟩
 have hqm := aIc hq
 obtain ⟨b, off, c, e, lq⟩ := akG (TG h x03 (cD _) (by omega)) hq
 cases e
 have lq3 := lq w3 (fun _ => rfl)
 simp only [YB] at lq3
 simp (disch := omega) only [aC, aX, d1, aA, aF]
 unfold Bh B4 JM BQ
 simp (disch := omega) only [aC, nG, aGO, aA, lq3]
 refine HD fun w4 o4 x4 s4 => ?_
 refine abR o4 rfl (by simp [one]) (by simp) fun w5 o5 x5 s5 => ?_
 have o5 : cJ w5 w3.heap.size (YB q) := o5
 have x35 : aS w3 w5 cM := x4.new x5 (aGZ _)
 have l5 := Em (off := 0) o5 (by simp [YB])
 simp only [YB, aGT, aGN, aGV] at l5
 simp (disch := omega) only [l5, aA]
 refine (avA q _).mono ?_
 rintro r w6 ⟨rfl, x6⟩
 have x36 := x35.seq x6
 have z36 := x36.size
 unfold B3 BS
 refine cG.rule (fun m (t : aJb) w' => ∃ (j : Nat) (v : Nat -> aJb) (D : Nat -> Nat -> Prop) (L : Nat -> List Nat), m = j /\ j <= 3 /\ t = .int .i64 (3 - j : Nat) /\ cJ w' po (vL v) /\ C3 w' w2.heap.size L v D /\ (∀ k, k < 3 -> WR k (if k < 3 - j then l.take (i + 1) else l.take i) (L k)) /\ (∀ k, k < 3 - j -> ∃ c, tW k (kv q k) c) /\ aS w2 w' (fun y => y = po)) 3
  ⟨3, v, D, L, rfl, aGZ _, rfl, o3.ext x36 (fun h => h), hC.ext x36 (fun _ _ _ h => h), fun k hk => by rw [if_neg (by omega)]; exact hK k hk, fun k hk => by omega, x3.more x36⟩ ?_
 rintro j t w7 ⟨n, v7, D7, L7, rfl, hj, rfl, o7, hC7, hK7, hA7, x7⟩
 have z7 := x7.size
 have x07 : aS w w7 cM := x02.trans x7 fun b hb h => by omega
 have hgw := hg.ext x07
 have htk : l.take (i + 1) = l.take i ++ [q] := by rw [aHA, hq] <;> rfl
 unfold uQ
 rcases j with _ | j
 .have d2 : decide (((3 - 0 : Nat) : Int) < 3) = false := rfl
  have e1 : (i : Int) + 1 = ((i + 1 : Nat) : Int) := by omega
  simp (disch := omega) only [aC, aX, d2, bM, aT, aA, aE]
  unfold vC
  simp (disch := omega) only [aC, bM, e1, aT, aA]
  refine ⟨l.length - (i + 1), by omega, i + 1, v7, D7, L7, rfl, by omega, rfl, o7, hC7, fun k hk => ?_, fun p hp k hk => ?_, x7⟩
  .have := hK7 k hk
   rw [if_pos (by omega)] at this
   exact this
  .rw [htk] at hp
   rcases aH7.1 hp with hp | hp
   .exact hA p hp k hk
   .obtain rfl := aH2.1 hp
    exact hA7 k (by omega)
 obtain ⟨k, hkk⟩ : ∃ k, k = 2 - j := ⟨_, rfl⟩
 have hk3 : k < 3 := by omega
 have ek : ((3 - (j + 1) : Nat) : Int) = (k : Int) := by omega
 have hk2 : 3 - (j + 1) = k := by omega
 have d2 : decide ((k : Int) < 3) = true := by simp; omega
 rw [ek]
 rw [hk2] at hK7 hA7
 have hx := aE2 q hk3
 simp (disch := omega) only [aC, aX, d2, Mk, aGO, hx, aI, sJ, aGP, bM, aT, aA, cL, aF]
 refine (aGp hgw hk3 (hu q hqm k)).mono ?_
 rintro r w8 ⟨hr, x8⟩
 have x78 := x8
 have z8 := x8.size
 have o8 := o7.ext x8 (fun h => h)
 have hC8 := hC7.ext x8 (fun _ _ _ h => h)
 have o18 := (o1.ext x7 (by omega)).ext x8 (fun h => h)
 rcases hr with ⟨c, hcv, rfl⟩ | ⟨hno, rfl⟩
 rotate_left
 .have n1 : ((17 : Int) != 0) = true := rfl
  have l8 := KH (off := 0) o8 (by simp [vL])
  simp only [vL, aGT, aGN, aGV] at l8
  obtain ⟨y0, y1, y2, e0, e1, e2⟩ := hC8.form
  simp (disch := omega) only [SE, SF, SD, aA, eT, n1, aF, l8]
  refine aEv o18 rfl (by rw [e0] <;> rfl) (by rw [e1] <;> rfl) (by rw [e2] <;> rfl) fun w' x => ?_
  rw [hRR]
  refine ⟨.inr ⟨⟨q, hqm, k, hk3, hno⟩, y0, y1, y2, by rw [e0, e1, e2]⟩, (x07.seq x8).new x (by omega)⟩
 have n1 : ((0 : Int) != 0) = false := rfl
 have c8 := o8.cell (off := k)
 rw [aAy _ hk3] at c8
 obtain ⟨va, vc, ev⟩ := (hC8.row k hk3).len
 simp (disch := omega) only [SE, SF, SD, aA, eT, n1, aE, c8, aI]
 refine wC (cells := #[.int .i64 (c : Nat)]) (by decide) (by decide) (by kernel_rfl) fun w9 o9 x9 s9 => ?_
 have o9 : cJ w9 w8.heap.size [.int .i64 (c : Nat)] := o9
 have hlen : (L7 k).length <= l.length := by
  have := (hK7 k hk3).1
  rw [this]
  split
  .rw [aG4]; omega
  .rw [aG4]; omega
 have hC9 := hC8.ext x9 (fun _ _ _ h => h)
 have hb9 : ∀ b, w9.heap.size <= b -> (D7 k b ∨ w9.heap.size <= b) := fun b hb => .inr hb
 have os9 : OSS w9 (fun b => D7 k b ∨ w9.heap.size <= b) 1 (v7 k) (L7 k).length ((L7 k).map fun (n : Nat) => Value.int .i64 n) := by
  have := hC9.row k hk3
  refine ⟨this.1, ?_⟩
  rcases this.2 with h2 | ⟨b, cc, rest, h1, h2, h3⟩
  .exact .inl h2
  .exact .inr ⟨b, cc, rest, h1, .inl h2, h3⟩
 refine xT (m := 1) (news := [.int .i64 (c : Nat)]) (i := Tryd.t3) Tryd.underlying77 Tryd.underlying77 Cn rfl rfl rfl os9 (o9.cl (off := 0) (l := [.int .i64 (c : Nat)]) (n := 1) rfl (fun i hi => by rw [aGP])) (by simp [one]) hb9 (by omega) (by rw [show Tryd.t3.bytes = 8 from rfl]; omega) (by decide) fun v10 w10 o10 x10 => ?_
 have z9 := x9.size
 have hC10 := hC9.app (c := L7 k ++ [c]) hk3 (by omega) (by rw [aGY, aHw]; exact o10) x10
 have hpo2 : po < w2.heap.size := by omega
 have o10p : cJ w10 po (vL v7) := (o8.ext x9 (fun h => h)).ext x10 (fun h => by
  rcases h with h | h
  .have := (hC9.bd k hk3 po h).1; omega
  .omega)
 obtain ⟨va', vc', ev'⟩ := o10.len
 refine Ul o10p (by rw [ev'] <;> rfl) (by simp [vL]; omega) fun w11 o11 x11 s11 => ?_
 rw [aFr _ hk3] at o11
 have e1 : (k : Int) + 1 = ((3 - j : Nat) : Int) := by omega
 simp (disch := omega) only [e1]
 refine ⟨j, by omega, j, _, _, _, rfl, by omega, rfl, o11, hC10.ext x11 (fun b hb _ h => by omega), fun i' hi' => ?_, fun i' hi' => ?_, ?_⟩
 .unfold upL
  by_cases he : i' = k
  .subst he
   rw [if_pos rfl, if_pos (by omega), htk]
   have := hK7 i' hi'
   rw [if_neg (by omega)] at this
   exact this.snoc hcv
  .rw [if_neg he]
   have := hK7 i' hi'
   by_cases hlt' : i' < k
   .rw [if_pos hlt'] at this
    rw [if_pos (by omega)]; exact this
   .rw [if_neg hlt'] at this
    rw [if_neg (by omega)]; exact this
 .by_cases he : i' = k
  .rw [he]; exact ⟨c, hcv⟩
  .exact hA7 i' (by omega)
 .have x29 : aS w2 w9 (fun y => y = po) := (x7.more x8).more x9
  refine (x29.trans x10 fun b hb h => ?_).seq x11
  rcases h with h | h
  .have := (hC9.bd k hk3 b h).1; omega
  .have := x29.size; omega
theorem NN {w w' : aJa} {S M : Nat -> Prop} {sz n : Nat} {v : aJb} {l : List aJb} (h : OSS w S sz v n l) (hx : aS w w' M) (hM : ∀ b, S b -> ¬ M b) : OSS w' S sz v n l := by
 refine ⟨h.1, ?_⟩
 rcases h.2 with h2 | ⟨b, c, rest, h1, h2, h3, h4, h5⟩
 .exact .inl h2
 .exact .inr ⟨b, c, rest, h1, h2, h3.ext hx (hM b h2), h4, h5⟩
def Wr (w : aJa) (lo p : Nat) (B : List Bool) : Prop := lo <= p /\ ∃ v bytes, cJ w p [v, .int .i64 B.length] /\ OSS w (fun b => lo <= b /\ b ≠ p) 1 v bytes.length (bytes.map FQ) /\ aaI B bytes
def Rm (w : aJa) (lo p : Nat) (B : List Bool) : Prop := lo <= p /\ ∃ v bytes, cJ w p [v, .int .i64 B.length] /\ OSS w (fun b => lo <= b /\ b ≠ p) 1 v bytes.length (bytes.map FQ) /\
 bE bytes = B ++ List.replicate (8 * bytes.length - B.length) false /\ bytes.length = (B.length + 1 + 7) / 8
theorem Wr.ext {w w' : aJa} {lo p : Nat} {B : List Bool} {M : Nat -> Prop} (h : Wr w lo p B) (hx : aS w w' M) (hM : ∀ b, lo <= b -> ¬ M b) : Wr w' lo p B := by
 obtain ⟨h0, v, bytes, h1, h2, h3⟩ := h
 exact ⟨h0, v, bytes, h1.ext hx (hM _ h0), NN h2 hx fun b hb => hM b hb.1, h3⟩
theorem atV (w : aJa) : aR pg pY #[] w (fun r w' => r = .pointer (some ⟨w.heap.size, 0, none⟩) /\ w.heap.size < w'.heap.size /\ Wr w' w.heap.size w.heap.size [] /\ aS w w' cM) := by
 refine Ik ?_
 unfold KG xB
 simp (disch := omega) only [aC, A9, aA]
 refine fY fun w1 o1 x1 s1 => ?_
 simp only [Value.cells] at o1
 exact ⟨rfl, by omega, ⟨aGZ _, _, [], o1, ⟨rfl, .inl ⟨rfl, rfl⟩⟩, avW⟩, x1⟩
theorem aED {lo p x i : Nat} {B : List Bool} {t17 : aJb} {w : aJa} (h : Rm w lo p B) (hx : x < 2 ^ 64) (hi : i <= 60) (hB : B.length <= 1000000000)
 {kn : aJb -> aJb -> aJb -> aJb -> aJa -> Prop} (hR : ∀ w', Wr w' lo p (B ++ [x.testBit i]) -> aS w w' (fun y => lo <= y) -> kn (.pointer (some ⟨p, 0, none⟩)) (.int .u64 x) t17 (.int .i64 i) w') :
 kH kn (.pointer (some ⟨p, 0, none⟩)) (.int .u64 x) (.int .i64 i) t17 (.int .i64 i) w := by
 obtain ⟨h0, v, bytes, o, os, hbits, hlen⟩ := h
 obtain ⟨hlt, hheld, hval, hor⟩ := auD (y := x.testBit i) hbits hlen
 rcases os.2 with ⟨rfl, hz⟩ | ⟨b, c, rest, rfl, hS, ob, hc, hn⟩
 .rw [hlen] at hz; omega
 generalize hq : B.length = q at *
 have hcell : (bytes.map FQ ++ rest)[q / 8]? = some (.int .u8 ((bytes[q / 8]'hlt).toNat : Nat)) := by
  rw [aG6 (by rw [aG1]; exact hlt), aHg, aGX hlt] <;> rfl
 have hcl : (bytes[q / 8]'hlt).toNat < 2 ^ 8 := aHi _
 have hset : (bytes.map FQ ++ rest).set (q / 8) (.int .u8 (((bytes[q / 8]'hlt).toNat + 2 ^ (q % 8) * (x.testBit i).toNat : Nat))) = (bytes.set (q / 8) (UInt8.ofNat ((bytes[q / 8]'hlt).toNat + 2 ^ (q % 8) * (x.testBit i).toNat))).map FQ ++ rest := by
  rw [aIl _ _ (by rw [aG1]; exact hlt), aIq, FQ, UInt8.toNat_ofNat_of_lt' (by simpa using hval)]
 have hbl : (bytes.set (q / 8) (UInt8.ofNat ((bytes[q / 8]'hlt).toNat + 2 ^ (q % 8) * (x.testBit i).toNat))).length = bytes.length := aIA
 generalize bytes.set (q / 8) (UInt8.ofNat ((bytes[q / 8]'hlt).toNat + 2 ^ (q % 8) * (x.testBit i).toNat)) = bytes' at *
 generalize (bytes[q / 8]'hlt).toNat = y at *
 have e1 : (q : Int).tdiv 8 = ((q / 8 : Nat) : Int) := by rw [aHj (by omega)]; omega
 have e2 : (q : Int).tmod 8 = ((q % 8 : Nat) : Int) := by rw [aHF (by omega)]; omega
 have e3 := Uo x i (by omega)
 have hxl : x / 2 ^ i < 2 ^ 64 := by have := aIP x (2 ^ i); omega
 have e4 := awL hxl
 rw [<- aaT] at e4
 have hbt : (x.testBit i).toNat <= 1 := Bool.toNat_le _
 have hp8 : 2 ^ (q % 8) <= 2 ^ 7 := aG0 (by omega) (by omega)
 have hm : (x.testBit i).toNat * 2 ^ (q % 8) <= 2 ^ (q % 8) := by
  have := aHt (2 ^ (q % 8)) hbt
  omega
 have e5 : IntKind.u8.wrap (((x.testBit i).toNat : Int) * 2 ^ (min (q % 8) IntKind.u8.bits)) = (((x.testBit i).toNat * 2 ^ (q % 8) : Nat) : Int) := by
  rw [show min (q % 8) IntKind.u8.bits = q % 8 from aHG (by have h8 : IntKind.u8.bits = 8 := rfl; omega)]
  have e : ((x.testBit i).toNat : Int) * 2 ^ (q % 8) = (((x.testBit i).toNat * 2 ^ (q % 8) : Nat) : Int) := by simp
  rw [e]
  exact Qf (by omega) (by omega)
 have e6 := avN (a := y) (b := (x.testBit i).toNat * 2 ^ (q % 8)) hcl (by omega)
 rw [hor] at e6
 have e7 : (q : Int) + 1 = ((q + 1 : Nat) : Int) := by omega
 have od := dO o
 have obd := dO ob
 have c0 := od.cell (off := 0)
 have c1 := od.cell (off := 1)
 have g := obd.cell (off := q / 8)
 rw [hcell] at g
 simp only [aGQ, aGR] at c0 c1
 unfold kH
 simp (disch := omega) only [aC, rB, lD, hJ, aA, kQ, aGP, bZ, c1, aI, D5, e2, true_and, wV, aGO, e3, Rw, e4, pG, Qf, mE, e5, DU, e1, aT, iR, gA, c0, oM, mI, g, asP, e6]
 refine YP obd rfl (by rw [aGY, aG1]; omega) fun w2 o2 x2 s2 => ?_
 rw [hset] at o2
 have op2 := od.ext x2 (fun h => hS.2 h.symm)
 have c12 := op2.cell (off := 1)
 simp only [aGQ, aGR] at c12
 simp (disch := omega) only [c12, aI, aA, bM, e7, aT]
 refine sH op2 rfl (by simp) fun w3 o3 x3 s3 => ?_
 simp only [aGS, aGU] at o3
 have hBl : (B ++ [x.testBit i]).length = q + 1 := by rw [aGY, hq] <;> rfl
 refine hR _ ⟨h0, _, bytes', by rw [hBl]; exact o3, ⟨by simp, .inr ⟨b, c, rest, by rw [hbl], hS, o2.ext x3 hS.2, ?_, by rw [hbl]; exact hn⟩⟩, hheld⟩ ?_
 .rw [aGY, aG1] at hc ⊢; rw [hbl]; exact hc
 .exact ((aS.dr _ _).seq (x2.mono fun z _ h => by omega)).seq (x3.mono fun z _ h => by omega)
theorem aF9 {lo p x i n : Nat} {B : List Bool} {w : aJa} (hw : Wr w lo p B) (hx : x < 2 ^ 64) (hi : i <= 60) (hB : B.length <= 1000000000)
 {kn : aJb -> aJb -> aJb -> aJb -> aJa -> Prop} (hR : ∀ w', Wr w' lo p (B ++ [x.testBit i]) -> aS w w' (fun y => lo <= y) -> kn (.pointer (some ⟨p, 0, none⟩)) (.int .u64 x) (.int .i64 n) (.int .i64 i) w') :
 oL kn (.pointer (some ⟨p, 0, none⟩)) (.int .u64 x) (.int .i64 n) (.int .i64 i) w := by
 unfold oL rK
 obtain ⟨h0, v, bytes, o, os, hh⟩ := hw
 have c1 := o.cell (off := 1)
 have c0 := o.cell (off := 0)
 simp only [aGQ, aGR] at c0 c1
 have e2 : (B.length : Int).tmod 8 = ((B.length % 8 : Nat) : Int) := by rw [aHF (by omega)]; omega
 by_cases h8 : B.length % 8 = 0
 .have d4 : (((B.length % 8 : Nat) : Int) == 0) = true := by rw [h8] <;> rfl
  obtain ⟨hr1, hr2⟩ := apA hh h8
  have hl2 := hh.len
  have lp := o.lt
  simp (disch := omega) only [aC, rB, aA, iR, gA, kQ, aGP, bZ, c1, aI, D5, e2, cW, d4, c0, aF]
  refine tY (cells := #[.int .u8 0]) (by decide) (by decide) (by kernel_rfl) fun w2 o2 x2 s2 => ?_
  refine xT (m := 1) (news := [FQ 0]) (i := Tryd.t5) Tryd.underlying22 Tryd.underlying22 Vb rfl rfl rfl (NN os x2 (fun _ _ h => h)) (o2.cl (off := 0) (l := [FQ 0]) (n := 1) rfl (fun i hi => by rw [aGP] <;> rfl)) (by simp [one, FQ]) (fun b hb => ⟨by omega, by omega⟩) (by omega) (by rw [show Tryd.t5.bytes = 1 from rfl]; omega) (by decide) fun v3 w3 o3 x3 => ?_
  have x13 : aS w w3 (fun y => lo <= y /\ y ≠ p) := (x2.mono fun _ _ h => h.elim).seq x3
  have op3 := o.ext x13 (fun h => h.2 rfl)
  have hv3 : ∃ a n c, v3 = .slice a n c := by
   rcases o3.2 with ⟨rfl, _⟩ | ⟨b, c, rest, rfl, _⟩
   .exact ⟨_, _, _, rfl⟩
   .exact ⟨_, _, _, rfl⟩
  obtain ⟨a3, n3, c3, rfl⟩ := hv3
  refine Gn op3 rfl (by simp) fun w4 o4 x4 s4 => ?_
  simp only [aGS, aGU] at o4
  have x14 : aS w w4 (fun y => lo <= y) := (x13.mono fun y _ h => h.1).seq (x4.mono fun y _ h => by omega)
  refine aED (w := w4) ⟨h0, _, bytes ++ [0], o4, ?_, ?_, hr2⟩ hx hi hB fun w5 h5 x5 => hR w5 h5 (x14.seq x5)
  .have := NN o3 x4 (fun b hb h => hb.2 h)
   rw [aGY, aHw]
   exact this
  .rw [aGY]; exact hr1
 .have d4 : (((B.length % 8 : Nat) : Int) == 0) = false := by simp; omega
  simp (disch := omega) only [aC, rB, aA, iR, gA, kQ, aGP, bZ, c1, aI, D5, e2, cW, d4, aE]
  refine aED (w := w) ⟨h0, v, bytes, o, os, hh.bits, ?_⟩ hx hi hB fun w5 h5 x5 => hR w5 h5 x5
  rw [hh.len]; omega
theorem PG {lo p x n : Nat} {B : List Bool} {w : aJa} (h : Wr w lo p B) (hx : x < 2 ^ 64) (hn : n <= 56) (hB : B.length <= 100000000) :
 aR pg eY #[.pointer (some ⟨p, 0, none⟩), .int .u64 x, .int .i64 n] w (fun r w' => r = .tuple #[] /\ Wr w' lo p (B ++ gC x n) /\ aS w w' (fun y => lo <= y)) := by
 refine Dy ?_
 unfold CX qV qX
 by_cases hn0 : n = 0
 .subst hn0
  have d1 : decide (((0 : Nat) : Int) < 1) = true := rfl
  simp (disch := omega) only [aC, kJ, aHe, true_and, aA, dG, bO, aGW, if_false, bP, aX, d1, jE, if_true, aF, dV]
  exact ⟨by rw [EF, aHC]; exact h, aS.refl _ _⟩
 have d1 : decide ((n : Int) < 1) = false := by simp; omega
 have d2 : decide ((56 : Int) < (n : Int)) = false := by simp; omega
 simp (disch := omega) only [aC, kJ, aHe, true_and, aA, dG, bO, aGW, if_false, bP, aX, d1, dP, d2, aE]
 unfold qY rM
 refine cG.rule (fun m (t : aJb) w' => ∃ i : Nat, m = n - i /\ t = .int .i64 i /\ i <= n /\ Wr w' lo p (B ++ gC x i) /\ aS w w' (fun y => lo <= y)) n
  ⟨0, rfl, rfl, by omega, by rw [EF, aHC]; exact h, aS.refl _ _⟩ ?_
 rintro m t w1 ⟨i, rfl, rfl, hi, hw, x1⟩
 unfold oD rQ
 by_cases hlt : i < n
 .have d3 : decide ((i : Int) < (n : Int)) = true := by simp; omega
  simp (disch := omega) only [aC, aX, d3, aA, aF]
  unfold rV rP
  refine aF9 hw hx (by omega) (by rw [aGY, dH]; omega) fun w3 hw3 x3 => ?_
  unfold nQ
  simp (disch := omega) only [aC, bM, aT, aA]
  refine ⟨n - (i + 1), by omega, i + 1, rfl, rfl, by omega, ?_, x1.seq x3⟩
  rw [Jz, <- aG2]
  exact hw3
 .have d3 : decide ((i : Int) < (n : Int)) = false := by simp; omega
  obtain rfl : i = n := by omega
  simp (disch := omega) only [aC, aX, d3, aA, aE]
  exact ⟨hw, x1⟩
def Ws (w : aJa) (S : Nat -> Prop) (p : Nat) (B : List Bool) : Prop := ¬ S p /\ ∃ v bytes, cJ w p [v, .int .i64 B.length] /\ OSS w S 1 v bytes.length (bytes.map FQ) /\ aaI B bytes
def Rs (w : aJa) (S : Nat -> Prop) (p : Nat) (B : List Bool) : Prop := ¬ S p /\ ∃ v bytes, cJ w p [v, .int .i64 B.length] /\ OSS w S 1 v bytes.length (bytes.map FQ) /\
 bE bytes = B ++ List.replicate (8 * bytes.length - B.length) false /\ bytes.length = (B.length + 1 + 7) / 8
theorem Ws.ext {w w' : aJa} {S M : Nat -> Prop} {p : Nat} {B : List Bool} (h : Ws w S p B) (hx : aS w w' M) (hp : ¬ M p) (hM : ∀ b, S b -> ¬ M b) : Ws w' S p B := by
 obtain ⟨h0, v, bytes, h1, h2, h3⟩ := h
 exact ⟨h0, v, bytes, h1.ext hx hp, NN h2 hx hM, h3⟩
theorem Ws.turn {w : aJa} {S T : Nat -> Prop} {p : Nat} {B : List Bool} (h : Ws w S p B) (hp : ¬ T p) (hT : ∀ b, S b -> b < w.heap.size -> T b) : Ws w T p B := by
 obtain ⟨h0, v, bytes, h1, h2, h3⟩ := h
 refine ⟨hp, v, bytes, h1, ⟨h2.1, ?_⟩, h3⟩
 rcases h2.2 with h2 | ⟨b, c, rest, e, hb, o, hc, hn⟩
 .exact .inl h2
 .exact .inr ⟨b, c, rest, e, hT b hb o.lt, o, hc, hn⟩
theorem aCP {S : Nat -> Prop} {p x i : Nat} {B : List Bool} {t17 : aJb} {w : aJa} (h : Rs w S p B) (hx : x < 2 ^ 64) (hi : i <= 60) (hB : B.length <= 1000000000)
 {kn : aJb -> aJb -> aJb -> aJb -> aJa -> Prop} (hR : ∀ w', Ws w' S p (B ++ [x.testBit i]) -> aS w w' (fun y => y = p ∨ S y) -> kn (.pointer (some ⟨p, 0, none⟩)) (.int .u64 x) t17 (.int .i64 i) w') :
 kH kn (.pointer (some ⟨p, 0, none⟩)) (.int .u64 x) (.int .i64 i) t17 (.int .i64 i) w := by
 obtain ⟨h0, v, bytes, o, os, hbits, hlen⟩ := h
 obtain ⟨hlt, hheld, hval, hor⟩ := auD (y := x.testBit i) hbits hlen
 rcases os.2 with ⟨rfl, hz⟩ | ⟨b, c, rest, rfl, hS, ob, hc, hn⟩
 .rw [hlen] at hz; omega
 generalize hq : B.length = q at *
 have hcell : (bytes.map FQ ++ rest)[q / 8]? = some (.int .u8 ((bytes[q / 8]'hlt).toNat : Nat)) := by
  rw [aG6 (by rw [aG1]; exact hlt), aHg, aGX hlt] <;> rfl
 have hcl : (bytes[q / 8]'hlt).toNat < 2 ^ 8 := aHi _
 have hset : (bytes.map FQ ++ rest).set (q / 8) (.int .u8 (((bytes[q / 8]'hlt).toNat + 2 ^ (q % 8) * (x.testBit i).toNat : Nat))) = (bytes.set (q / 8) (UInt8.ofNat ((bytes[q / 8]'hlt).toNat + 2 ^ (q % 8) * (x.testBit i).toNat))).map FQ ++ rest := by
  rw [aIl _ _ (by rw [aG1]; exact hlt), aIq, FQ, UInt8.toNat_ofNat_of_lt' (by simpa using hval)]
 have hbl : (bytes.set (q / 8) (UInt8.ofNat ((bytes[q / 8]'hlt).toNat + 2 ^ (q % 8) * (x.testBit i).toNat))).length = bytes.length := aIA
 generalize bytes.set (q / 8) (UInt8.ofNat ((bytes[q / 8]'hlt).toNat + 2 ^ (q % 8) * (x.testBit i).toNat)) = bytes' at *
 generalize (bytes[q / 8]'hlt).toNat = y at *
 have e1 : (q : Int).tdiv 8 = ((q / 8 : Nat) : Int) := by rw [aHj (by omega)]; omega
 have e2 : (q : Int).tmod 8 = ((q % 8 : Nat) : Int) := by rw [aHF (by omega)]; omega
 have e3 := Uo x i (by omega)
 have hxl : x / 2 ^ i < 2 ^ 64 := by have := aIP x (2 ^ i); omega
 have e4 := awL hxl
 rw [<- aaT] at e4
 have hbt : (x.testBit i).toNat <= 1 := Bool.toNat_le _
 have hp8 : 2 ^ (q % 8) <= 2 ^ 7 := aG0 (by omega) (by omega)
 have hm : (x.testBit i).toNat * 2 ^ (q % 8) <= 2 ^ (q % 8) := by
  have := aHt (2 ^ (q % 8)) hbt
  omega
 have e5 : IntKind.u8.wrap (((x.testBit i).toNat : Int) * 2 ^ (min (q % 8) IntKind.u8.bits)) = (((x.testBit i).toNat * 2 ^ (q % 8) : Nat) : Int) := by
  rw [show min (q % 8) IntKind.u8.bits = q % 8 from aHG (by have h8 : IntKind.u8.bits = 8 := rfl; omega)]
  have e : ((x.testBit i).toNat : Int) * 2 ^ (q % 8) = (((x.testBit i).toNat * 2 ^ (q % 8) : Nat) : Int) := by simp
  rw [e]
  exact Qf (by omega) (by omega)
 have e6 := avN (a := y) (b := (x.testBit i).toNat * 2 ^ (q % 8)) hcl (by omega)
 rw [hor] at e6
 have e7 : (q : Int) + 1 = ((q + 1 : Nat) : Int) := by omega
 have od := dO o
 have obd := dO ob
 have c0 := od.cell (off := 0)
 have c1 := od.cell (off := 1)
 have g := obd.cell (off := q / 8)
 rw [hcell] at g
 simp only [aGQ, aGR] at c0 c1
 unfold kH
 simp (disch := omega) only [aC, rB, lD, hJ, aA, kQ, aGP, bZ, c1, aI, D5, e2, true_and, wV, aGO, e3, Rw, e4, pG, Qf, mE, e5, DU, e1, aT, iR, gA, c0, oM, mI, g, asP, e6]
 refine YP obd rfl (by rw [aGY, aG1]; omega) fun w2 o2 x2 s2 => ?_
 rw [hset] at o2
 have op2 := od.ext x2 (fun h => h0 (h ▸ hS))
 have c12 := op2.cell (off := 1)
 simp only [aGQ, aGR] at c12
 simp (disch := omega) only [c12, aI, aA, bM, e7, aT]
 refine sH op2 rfl (by simp) fun w3 o3 x3 s3 => ?_
 simp only [aGS, aGU] at o3
 have hBl : (B ++ [x.testBit i]).length = q + 1 := by rw [aGY, hq] <;> rfl
 refine hR _ ⟨h0, _, bytes', by rw [hBl]; exact o3, ⟨by simp, .inr ⟨b, c, rest, by rw [hbl], hS, o2.ext x3 (fun h => h0 (h ▸ hS)), ?_, by rw [hbl]; exact hn⟩⟩, hheld⟩ ?_
 .rw [aGY, aG1] at hc ⊢; rw [hbl]; exact hc
 .exact ((aS.dr _ _).seq (x2.mono fun z _ h => .inr (h ▸ hS))).seq (x3.mono fun z _ h => .inl h)
theorem aFf {S : Nat -> Prop} {p x i n : Nat} {B : List Bool} {w : aJa} (hw : Ws w S p B) (hN : ∀ b, w.heap.size <= b -> S b) (hx : x < 2 ^ 64) (hi : i <= 60) (hB : B.length <= 1000000000)
 {kn : aJb -> aJb -> aJb -> aJb -> aJa -> Prop} (hR : ∀ w', Ws w' S p (B ++ [x.testBit i]) -> aS w w' (fun y => y = p ∨ S y) -> kn (.pointer (some ⟨p, 0, none⟩)) (.int .u64 x) (.int .i64 n) (.int .i64 i) w') :
 oL kn (.pointer (some ⟨p, 0, none⟩)) (.int .u64 x) (.int .i64 n) (.int .i64 i) w := by
 unfold oL rK
 obtain ⟨h0, v, bytes, o, os, hh⟩ := hw
 have c1 := o.cell (off := 1)
 have c0 := o.cell (off := 0)
 simp only [aGQ, aGR] at c0 c1
 have e2 : (B.length : Int).tmod 8 = ((B.length % 8 : Nat) : Int) := by rw [aHF (by omega)]; omega
 by_cases h8 : B.length % 8 = 0
 .have d4 : (((B.length % 8 : Nat) : Int) == 0) = true := by rw [h8] <;> rfl
  obtain ⟨hr1, hr2⟩ := apA hh h8
  have hl2 := hh.len
  have lp := o.lt
  simp (disch := omega) only [aC, rB, aA, iR, gA, kQ, aGP, bZ, c1, aI, D5, e2, cW, d4, c0, aF]
  refine tY (cells := #[.int .u8 0]) (by decide) (by decide) (by kernel_rfl) fun w2 o2 x2 s2 => ?_
  refine xT (m := 1) (news := [FQ 0]) (i := Tryd.t5) Tryd.underlying22 Tryd.underlying22 Vb rfl rfl rfl (NN os x2 (fun _ _ h => h)) (o2.cl (off := 0) (l := [FQ 0]) (n := 1) rfl (fun i hi => by rw [aGP] <;> rfl)) (by simp [one, FQ]) (fun b hb => hN b (by omega)) (by omega) (by rw [show Tryd.t5.bytes = 1 from rfl]; omega) (by decide) fun v3 w3 o3 x3 => ?_
  have x13 : aS w w3 S := (x2.mono fun _ _ h => h.elim).seq x3
  have op3 := o.ext x13 h0
  have hv3 : ∃ a n c, v3 = .slice a n c := by
   rcases o3.2 with ⟨rfl, _⟩ | ⟨b, c, rest, rfl, _⟩
   .exact ⟨_, _, _, rfl⟩
   .exact ⟨_, _, _, rfl⟩
  obtain ⟨a3, n3, c3, rfl⟩ := hv3
  refine Gn op3 rfl (by simp) fun w4 o4 x4 s4 => ?_
  simp only [aGS, aGU] at o4
  have x14 : aS w w4 (fun y => y = p ∨ S y) := (x13.mono fun y _ h => .inr h).seq (x4.mono fun y _ h => .inl h)
  refine aCP (w := w4) ⟨h0, _, bytes ++ [0], o4, ?_, ?_, hr2⟩ hx hi hB fun w5 h5 x5 => hR w5 h5 (x14.seq x5)
  .have := NN o3 x4 (fun b hb h => h0 (h ▸ hb))
   rw [aGY, aHw]
   exact this
  .rw [aGY]; exact hr1
 .have d4 : (((B.length % 8 : Nat) : Int) == 0) = false := by simp; omega
  simp (disch := omega) only [aC, rB, aA, iR, gA, kQ, aGP, bZ, c1, aI, D5, e2, cW, d4, aE]
  refine aCP (w := w) ⟨h0, v, bytes, o, os, hh.bits, ?_⟩ hx hi hB fun w5 h5 x5 => hR w5 h5 x5
  rw [hh.len]; omega
theorem anQ {S : Nat -> Prop} {p x n : Nat} {B : List Bool} {w : aJa} (h : Ws w S p B) (hN : ∀ b, w.heap.size <= b -> S b) (hx : x < 2 ^ 64) (hn : n <= 56) (hB : B.length <= 100000000) :
 aR pg eY #[.pointer (some ⟨p, 0, none⟩), .int .u64 x, .int .i64 n] w (fun r w' => r = .tuple #[] /\ Ws w' S p (B ++ gC x n) /\ aS w w' (fun y => y = p ∨ S y)) := by
 refine Dy ?_
 unfold CX qV qX
 by_cases hn0 : n = 0
 .subst hn0
  have d1 : decide (((0 : Nat) : Int) < 1) = true := rfl
  simp (disch := omega) only [aC, kJ, aHe, true_and, aA, dG, bO, aGW, if_false, bP, aX, d1, jE, if_true, aF, dV]
  exact ⟨by rw [EF, aHC]; exact h, aS.refl _ _⟩
 have d1 : decide ((n : Int) < 1) = false := by simp; omega
 have d2 : decide ((56 : Int) < (n : Int)) = false := by simp; omega
 simp (disch := omega) only [aC, kJ, aHe, true_and, aA, dG, bO, aGW, if_false, bP, aX, d1, dP, d2, aE]
 unfold qY rM
 refine cG.rule (fun m (t : aJb) w' => ∃ i : Nat, m = n - i /\ t = .int .i64 i /\ i <= n /\ Ws w' S p (B ++ gC x i) /\ aS w w' (fun y => y = p ∨ S y)) n
  ⟨0, rfl, rfl, by omega, by rw [EF, aHC]; exact h, aS.refl _ _⟩ ?_
 rintro m t w1 ⟨i, rfl, rfl, hi, hw, x1⟩
 unfold oD rQ
 by_cases hlt : i < n
 .have d3 : decide ((i : Int) < (n : Int)) = true := by simp; omega
  simp (disch := omega) only [aC, aX, d3, aA, aF]
  unfold rV rP
  refine aFf hw (fun b hb => hN b (by have := x1.size; omega)) hx (by omega) (by rw [aGY, dH]; omega) fun w3 hw3 x3 => ?_
  unfold nQ
  simp (disch := omega) only [aC, bM, aT, aA]
  refine ⟨n - (i + 1), by omega, i + 1, rfl, rfl, by omega, ?_, x1.seq x3⟩
  rw [Jz, <- aG2]
  exact hw3
 .have d3 : decide ((i : Int) < (n : Int)) = false := by simp; omega
  obtain rfl : i = n := by omega
  simp (disch := omega) only [aC, aX, d3, aA, aE]
  exact ⟨hw, x1⟩
theorem aBX {lo p : Nat} {B : List Bool} {w : aJa} (h : Wr w lo p B) (hB : B.length <= 10000000) :
 aR pg rS #[.pointer (some ⟨p, 0, none⟩)] w (fun r w' => ∃ bytes, Bs w' r bytes /\ aaI (B ++ [true]) bytes /\ AtI r w.heap.size w'.heap.size /\ aS w w' cM) := by
 refine Pd ?_
 obtain ⟨h0, v, bytes, o, os, hh⟩ := h
 have c0 := (dO o).cell (off := 0)
 have c1 := (dO o).cell (off := 1)
 simp only [aGQ, aGR] at c0 c1
 have hs : Bs w v bytes := by
  have h1 := os.1
  rcases os.2 with ⟨rfl, h2⟩ | ⟨b, c, rest, rfl, h2, h3, h4, h5⟩
  .exact ⟨_, _, _, rfl, by omega, by omega, fun h => by omega⟩
  .refine ⟨_, _, _, rfl, by omega, h5, fun _ => ⟨b, 0, rfl, fun i hi => ?_⟩⟩
   rw [h3.cell, aGP, aG6 (by omega)]
 have hl := hh.len
 unfold Lj wF
 simp (disch := omega) only [aC, kJ, aHe, rB, eC, Result.ok.injEq, Next.value.injEq, and_true, true_and, aA, kQ, aGP, bZ, iR, gA, c0, aI, c1, aE]
 refine (Uq (hs.ext (aS.dr _ cM) (cD _)) (by omega)).mono ?_
 rintro r w1 ⟨o1, x1⟩
 have z1 := x1.size
 have x01 : aS w w1 cM := (aS.dr w cM).seq x1
 have c11 := (o.ext x01 (fun h => h)).cell (off := 1)
 simp only [aGQ, aGR] at c11
 have hdr : (dr w).heap.size = w.heap.size := rfl
 rw [hdr] at o1 z1
 obtain ⟨a1, cc1, rfl⟩ := o1.len
 simp (disch := omega) only [c11, aI, aA, BU, true_and]
 refine fY fun w2 o2 x2 s2 => ?_
 simp only [Value.cells] at o2
 have hw : Wr w2 w.heap.size w1.heap.size B := by
  refine ⟨z1, _, bytes, o2, ⟨o1.1, ?_⟩, hh⟩
  rcases o1.2 with h2 | ⟨b, c, rest, h1, h2, h3, h4, h5⟩
  .exact .inl h2
  .have := h3.lt
   exact .inr ⟨b, c, rest, h1, ⟨h2, by omega⟩, h3.ext x2 (fun h => h), h4, h5⟩
 refine (PG (x := 1) (n := 1) hw (by omega) (by omega) (by omega)).mono ?_
 rintro r w3 ⟨rfl, ⟨h0', v3, bytes3, o3, os3, hh3⟩, x3⟩
 have c03 := o3.cell (off := 0)
 simp only [aGQ, aGR] at c03
 simp (disch := omega) only [rB, aA, iR, gA, c03, aI]
 have e1 : gC 1 1 = [true] := by decide
 rw [e1] at hh3
 refine ⟨bytes3, ?_, hh3, ?_, ?_⟩
 .have h1 := os3.1
  rcases os3.2 with ⟨rfl, h2⟩ | ⟨b, c, rest, rfl, h2, h3, h4, h5⟩
  .exact ⟨_, _, _, rfl, by omega, by omega, fun h => by omega⟩
  .refine ⟨_, _, _, rfl, by omega, h5, fun _ => ⟨b, 0, rfl, fun i hi => ?_⟩⟩
   rw [h3.cell, aGP, aG6 (by omega)]
 .intro M hM
  rcases os3.2 with ⟨rfl, h2⟩ | ⟨b, c, rest, rfl, h2, h3, h4, h5⟩
  .exact fun h => h
  .exact At.at b 0 _ c M (hM b h2.1 h3.lt)
 .exact (x01.seq x2).trans x3 fun b hb h => by omega
def aCm (L : List T3) (s sy : Int) (r : aJb) : Prop :=
 (∃ (i : Nat) (e : T3), L[i]? = some e /\ inE sy s e = true /\ r = .tuple #[.int .i64 (i : Nat), .int .u64 (s - e.2.2), .int .i64 e.2.1, .int .i64 0]) ∨
 ((∀ (i : Nat) (e : T3), L[i]? = some e -> inE sy s e = false) /\ r = .tuple #[.int .i64 0, .int .u64 0, .int .i64 0, .int .i64 21])
theorem aCf {w : aJa} {base b log : Nat} {L : List T3} {v : aJb} (h : Tbl w base b log L v) (hL : Low L) (hl : L.length <= 1000000) (s : Nat) (hs : s < L.length) (sy : Int) :
 aR pg IA #[v, .int .i64 s, .int .u8 sy] w (fun r w' => aCm L s sy r /\ aS w w' cM) := by
 refine aiA ?_
 obtain ⟨rfl, hb, ob⟩ := h
 unfold alQ M3 NJ
 refine fY fun w1 o1 x1 s1 => ?_
 have c1 := o1.cell (off := 1)
 simp only [Value.cells, aGQ, aGR] at c1
 have d1 : decide ((s : Int) < 0) = false := by simp
 have d2 : decide ((L.length : Int) <= (s : Int)) = false := by simp; omega
 simp (disch := omega) only [aC, aX, d1, bY, aGP, aA, dG, bO, aGW, if_false, bP, dS, c1, aI, hY, pD, d2, aE]
 unfold Nb Me NX MU NC
 simp (disch := omega) only [aC, bY, aGP, aA, dS, c1, aI, hY]
 refine cG.rule (fun m t w' => ∃ i : Nat, m = L.length - i /\ t = .int .i64 i /\ i <= L.length /\ (∀ (j : Nat) (e : T3), j < i -> L[j]? = some e -> inE sy s e = false) /\ aS w w' cM) L.length ⟨0, rfl, rfl, by omega, fun j e hj => by omega, x1⟩ ?_
 rintro m t w2 ⟨i, rfl, rfl, hi, hno, x2⟩
 unfold FO
 by_cases hlt : i < L.length
 .have d3 : decide ((i : Int) < (L.length : Int)) = true := by simp; omega
  have l1 := NT (off := i * 3) (ob.ext x2 (fun h => h)) (by rw [kR]; omega)
  rw [arI hlt] at l1
  obtain ⟨n, hn, hn2, hb0, hb1⟩ := hL _ (aG7 hlt)
  have hge : L[i]? = some L[i] := aGX hlt
  have hinE : inE sy s L[i] = decide (L[i].1 = sy /\ L[i].2.2 <= s /\ (s : Int) < L[i].2.2 + ((2 ^ n : Nat) : Int)) := by
   unfold inE; rw [hn]; simp
  generalize L[i] = e at *
  obtain ⟨e1, e2, e3⟩ := e
  simp only at hn hb0 hb1 l1 hinE
  subst hn
  simp (disch := omega) only [aC, aX, d3, lP, aGO, aGP, true_and, bM, aT, aA, l1, aF]
  refine Qb fun w3 o3 x3 s3 => ?_
  refine Mg o3 rfl (by simp [one]) (by simp) fun w4 o4 x4 s4 => ?_
  simp only [aV, aGS, aGU] at o4
  have k0 := o4.cell (off := 0)
  have k1 := o4.cell (off := 1)
  have k2 := o4.cell (off := 2)
  simp only [aGQ, aGR] at k0 k1 k2
  have x5 : aS w w4 cM := (x2.seq x3).new x4 x2.size
  have hsh := arC hn2
  have od := dO o4
  have k1d := od.cell (off := 1)
  simp only [aGQ, aGR] at k1d
  have no : ∀ {b : Bool}, inE sy s (e1, (n : Int), e3) = b -> b = false -> ∀ (j : Nat) (e : T3), j < i + 1 -> L[j]? = some e -> inE sy s e = false := fun h1 h2 j e hj he => by
   by_cases hji : j = i
   .subst hji; rw [hge] at he; rw [<- aG8 he, h1, h2]
   .exact hno j e (by omega) he
  by_cases he : e1 = sy
  .have d4 : (e1 == sy) = true := by simpa using he
   by_cases h5 : e3 <= (s : Int)
   .have d5 : decide ((0 : Int) <= (s : Int) - e3) = true := by simp; omega
    by_cases h6 : (s : Int) - e3 < ((2 ^ n : Nat) : Int)
    .have d6 : decide ((s : Int) - e3 < ((2 ^ n : Nat) : Int)) = true := by simpa using h6
     have hw : IntKind.u64.wrap ((s : Int) - e3) = (s : Int) - e3 := hJ (by omega) (by omega)
     simp (disch := omega) only [lF, aGP, fS, jT, aA, bZ, true_and, mI, k2, aI, dZ, aT, k0, fW, hw, cW, d4, tR, bO, if_true, bP, pD, d5, k1, mE, aGO, hsh, aX, d6, k1d, aF]
     exact ⟨.inl ⟨i, _, hge, by rw [hinE, decide_eq_true ⟨he, h5, by omega⟩], rfl⟩, x5.seq (aS.dr _ _)⟩
    .have d6 : decide ((s : Int) - e3 < ((2 ^ n : Nat) : Int)) = false := by simpa using h6
     simp (disch := omega) only [lF, aGP, fS, jT, aA, bZ, true_and, mI, k2, aI, dZ, aT, k0, fW, hJ, cW, d4, tR, bO, if_true, bP, pD, d5, k1, mE, aGO, hsh, aX, d6, aE]
     exact ⟨L.length - (i + 1), by omega, i + 1, rfl, rfl, by omega, no hinE (decide_eq_false (by omega)), x5⟩
   .have d5 : decide ((0 : Int) <= (s : Int) - e3) = false := by simp; omega
    simp (disch := omega) only [lF, aGP, fS, jT, aA, bZ, true_and, mI, k2, aI, dZ, aT, k0, fW, cW, d4, tR, bO, if_true, bP, pD, d5, ED, aGW, if_false, aE, dV]
    exact ⟨L.length - (i + 1), by omega, i + 1, rfl, rfl, by omega, no hinE (decide_eq_false (by omega)), x5⟩
  .have d4 : (e1 == sy) = false := by simpa using he
   simp (disch := omega) only [lF, aGP, fS, jT, aA, bZ, true_and, mI, k2, aI, dZ, aT, k0, fW, cW, d4, ED, bO, aGW, if_false, aE, dV]
   exact ⟨L.length - (i + 1), by omega, i + 1, rfl, rfl, by omega, no hinE (decide_eq_false (by omega)), x5⟩
 .have d3 : decide ((i : Int) < (L.length : Int)) = false := by simp; omega
  unfold FT
  simp (disch := omega) only [aC, aX, d3, true_and, bM, aT, aA, aE]
  exact ⟨.inr ⟨fun j e he => hno j e (by
   rcases aHd j L.length with h | h
   .omega
   .rw [aHa h] at he; cases he) he, rfl⟩, x2⟩
def aD0 (L : List T3) (s : Int) (r : aJb) : Prop :=
 (∃ i, ∃ h : i < L.length, r = .tuple #[.int .i64 (i : Nat), .int .i64 0] /\ L[i].1 = s /\ ∀ j (hj : j < i), L[j].1 ≠ s) ∨
 (r = .tuple #[.int .i64 0, .int .i64 21] /\ ∀ j (hj : j < L.length), L[j].1 ≠ s)
theorem aEd {w : aJa} {base b log : Nat} {L : List T3} {v : aJb} (h : Tbl w base b log L v) (hl : L.length <= 1000000) (s : Int) :
 aR pg L9 #[v, .int .u8 s] w (fun r w' => aD0 L s r /\ aS w w' cM) := by
 refine alL ?_
 obtain ⟨rfl, hb, ob⟩ := h
 unfold aqJ QR QW
 refine fY fun w1 o1 x1 s1 => ?_
 have c1 := o1.cell (off := 1)
 simp only [Value.cells, aGQ, aGR] at c1
 unfold PZ P3 QC QD PC
 simp (disch := omega) only [aC, bY, aGP, aA, dS, c1, aI, hY]
 refine cG.rule (fun m t w' => ∃ i : Nat, m = L.length - i /\ t = .int .i64 i /\ i <= L.length /\ (∀ j (hj : j < i) (hj2 : j < L.length), L[j].1 ≠ s) /\ aS w w' cM) L.length ⟨0, rfl, rfl, by omega, fun j hj => by omega, x1⟩ ?_
 rintro m t w2 ⟨i, rfl, rfl, hi, hno, x2⟩
 unfold It
 by_cases hlt : i < L.length
 .have d1 : decide ((i : Int) < (L.length : Int)) = true := by simp; omega
  have l1 := NT (off := i * 3) (ob.ext x2 (fun h => h)) (by rw [kR]; omega)
  rw [arI hlt] at l1
  simp (disch := omega) only [aC, aX, d1, lP, aGO, aGP, bM, aT, aA, l1, aF]
  refine Qb fun w3 o3 x3 s3 => ?_
  refine Mg o3 rfl (by simp [one]) (by simp) fun w4 o4 x4 s4 => ?_
  simp only [aV, aGS, aGU] at o4
  have c0 := o4.cell (off := 0)
  simp only [aGQ] at c0
  have x5 : aS w w4 cM := (x2.seq x3).new x4 x2.size
  by_cases he : L[i].1 = s
  .have d2 : (L[i].1 == s) = true := by simpa using he
   simp (disch := omega) only [fS, aA, mI, c0, aI, cW, d2, aF]
   exact ⟨.inl ⟨i, hlt, rfl, he, fun j hj => hno j hj (by omega)⟩, x5⟩
  .have d2 : (L[i].1 == s) = false := by simpa using he
   simp (disch := omega) only [fS, aA, mI, c0, aI, cW, d2, aE]
   refine ⟨L.length - (i + 1), by omega, i + 1, rfl, rfl, by omega, fun j hj hj2 => ?_, x5⟩
   by_cases hji : j = i
   .subst hji; exact he
   .exact hno j (by omega) hj2
 .have d1 : decide ((i : Int) < (L.length : Int)) = false := by simp; omega
  unfold IG
  simp (disch := omega) only [aC, aX, d1, bM, aT, aA, aE]
  exact ⟨.inr ⟨rfl, fun j hj => hno j (by omega) hj⟩, x2⟩
end Go.Proofs.YtaggdjhhmbnhoaaDoor
namespace Go.Pu
theorem azF {B : Nat} : ∀ {l : List Nat}, (∀ n ∈ l, n <= B) -> l.sum <= l.length * B
 | [], _ => by simp
 | n :: l, h => by
   have h1 := h n (aH0 ..)
   have h2 := azF (l := l) fun m hm => h m (aG9 _ hm)
   rw [aIb, aHc, aIT]; omega
theorem arJ {n : Nat} : ∀ {l : List Nat}, n ∈ l -> n <= l.sum
 | [], h => by cases h
 | m :: l, h => by
   rw [aIb]
   rcases aHE.1 h with rfl | h
   .omega
   .have := arJ h; omega
def qU (R S n : Nat) : Nat := if n = 0 then 0 else 1 + n * R / S
def rO (R S n : Nat) : Nat := n * R / S
def iQ (n : Nat) : Bool := decide (0 < n)
def Q4 (ns : List Nat) (i last : Nat) : Prop := (last = 0 /\ ∀ j, j < i -> ns.getD j 0 = 0) ∨ (last < i /\ 0 < ns.getD last 0 /\ ∀ j, last < j -> j < i -> ns.getD j 0 = 0)
theorem Q4.step {ns : List Nat} {i last : Nat} (h : Q4 ns i last) : Q4 ns (i + 1) (if 0 < ns.getD i 0 then i else last) := by
 split
 .rename_i h0
  exact .inr ⟨by omega, h0, fun j h1 h2 => by omega⟩
 .rename_i h0
  rcases h with ⟨rfl, h⟩ | ⟨h1, h2, h3⟩
  .refine .inl ⟨rfl, fun j hj => ?_⟩
   rcases aHd j i with h' | h'
   .exact h j h'
   .have : j = i := by omega
    subst this; omega
  .refine .inr ⟨by omega, h2, fun j hj hj2 => ?_⟩
   rcases aHd j i with h' | h'
   .exact h3 j hj h'
   .have : j = i := by omega
    subst this; omega
theorem Q4.one {ns : List Nat} {i a b : Nat} (ha : Q4 ns i a) (hb : Q4 ns i b) : a = b := by
 rcases ha with ⟨rfl, h⟩ | ⟨h1, h2, h3⟩
 .rcases hb with ⟨rfl, _⟩ | ⟨k1, k2, _⟩
  .rfl
  .have := h b k1; omega
 .rcases hb with ⟨rfl, k⟩ | ⟨k1, k2, k3⟩
  .have := k a h1; omega
  .rcases aIm a b with h | h | h
   .have := h3 b h k1; omega
   .exact h
   .have := k3 a h h1; omega
theorem mC {ns : List Nat} {i : Nat} (h : i < ns.length) : ns.getD i 0 = ns[i] := by rw [aG3, aGX h] <;> rfl
theorem aBI {α : Type} {ns : List α} {i : Nat} (h : i < ns.length) : ns.take (i + 1) = ns.take i ++ [ns[i]] := by
 rw [aHA, aGX h] <;> rfl
theorem PJ {ns : List Nat} {i : Nat} (h : i < ns.length) : ns.take (i + 1) = ns.take i ++ [ns.getD i 0] := by rw [aBI h, mC h]
theorem apM : ∀ {l : List Nat}, (∀ n ∈ l, n = 0) -> l.sum = 0
 | [], _ => rfl
 | n :: l, h => by rw [aIb, h n (aH0 ..), apM fun m hm => h m (aG9 _ hm)]
theorem B8 : ∀ {l : List Nat}, (∀ n ∈ l, n = 0) -> l.countP iQ = 0
 | [], _ => rfl
 | n :: l, h => by
   rw [aIg, h n (aH0 ..), B8 fun m hm => h m (aG9 _ hm)] <;> rfl
theorem azG (a b S : Nat) : a / S + b / S <= (a + b) / S := by
 rcases aHT S with h | h
 .subst h; simp
 .rw [aII h, aHQ]
  have := aIN a S
  have := aIN b S
  omega
theorem awI (R S : Nat) : ∀ l : List Nat, (l.map (rO R S)).sum <= l.sum * R / S
 | [] => by simp
 | n :: l => by
   rw [aIn, aIb, aIb, aHQ]
   have := awI R S l
   have h2 := azG (n * R) (l.sum * R) S
   unfold rO at *
   omega
theorem agK {R S : Nat} {l : List Nat} (h : l.sum <= S) (hS : 0 < S) : (l.map (rO R S)).sum <= R := by
 have h1 := awI R S l
 have h2 : l.sum * R / S <= S * R / S := Nat.div_le_div_right (aHt _ h)
 rw [Nat.mul_div_cancel_left _ hS] at h2
 omega
theorem avP (R S : Nat) : ∀ l : List Nat, (l.map (qU R S)).sum = l.countP iQ + (l.map (rO R S)).sum
 | [] => by simp
 | n :: l => by
   rw [aIn, aIb, aIn, aIb, aIg, avP R S l]
   by_cases h : n = 0
   .subst h
    simp [qU, rO, iQ]
   .have : iQ n = true := by unfold iQ; simpa using (by omega : 0 < n)
    rw [this]
    simp only [qU, rO, if_neg h, if_true]
    omega
theorem azY : ∀ {l : List Nat} {i : Nat} (y : Nat) (h : i < l.length), (l.set i (l[i] + y)).sum = l.sum + y
 | [], i, y, h => by simp at h
 | n :: l, 0, y, h => by simp only [aGS, aIo, aIb]; omega
 | n :: l, i + 1, y, h => by
   simp only [aGU, aIZ, aIb]
   rw [azY y (by simpa using h)]; omega
theorem avS : ∀ l : List Nat, rE (l.map fun (n : Nat) => (n : Int)) = (l.sum : Nat)
 | [] => rfl
 | n :: l => by
   rw [aIn, wD, avS l, aIb]
   have : cR (n : Int) = n := by unfold cR; rw [if_neg (by omega)]
   rw [this]; simp
theorem aCk {P : List Nat} {gr i : Nat} (x : Nat) (hg : gr < P.length) (hi : i < P.length) : (P.set gr x).getD i 0 = if i = gr then x else P.getD i 0 := by
 rw [aG3, aG3, List.getElem?_set]
 by_cases h : i = gr
 .subst h; simp [hi]
 .rw [if_neg (fun e => h e.symm), if_neg h]
def A3 (log there S last gr left : Nat) (ns : List Nat) : List Nat :=
 ((ns.take (last + 1)).map (qU (2 ^ log - there) S)).set gr (((ns.take (last + 1)).map (qU (2 ^ log - there) S)).getD gr 0 + left)
theorem aE3 {log there last gr left : Nat} {ns : List Nat} (h5 : 5 <= log) (h15 : log <= 15) (hlen : ns.length <= 256) (hth : there = ns.countP iQ) (h2 : 2 <= there) (h3 : there <= 2 ^ log) (hl : Q4 ns ns.length last) (hgr : gr <= last) (hgr2 : 0 < ns.getD gr 0)
 (hleft : left + ((ns.take (last + 1)).map (rO (2 ^ log - there) ns.sum)).sum = 2 ^ log - there) :
 Sw log ((A3 log there ns.sum last gr left ns).map fun (n : Nat) => (n : Int)) /\ (A3 log there ns.sum last gr left ns).length = last + 1 /\ last < ns.length /\ ∀ i, i < last + 1 -> (0 < (A3 log there ns.sum last gr left ns).getD i 0 ↔ 0 < ns.getD i 0) := by
 have hlast : last < ns.length /\ 0 < ns.getD last 0 /\ ∀ j, last < j -> j < ns.length -> ns.getD j 0 = 0 := by
  rcases hl with ⟨rfl, h⟩ | h
  .exfalso
   have : ns.countP iQ = 0 := B8 fun n hn => by
    obtain ⟨i, hi, rfl⟩ := aHl hn
    rw [<- mC hi]; exact h i hi
   omega
  .exact h
 obtain ⟨l1, l2, l3⟩ := hlast
 have hz : ∀ n ∈ ns.drop (last + 1), n = 0 := fun n hn => by
  obtain ⟨i, hi, rfl⟩ := aHl hn
  rw [aHh] at hi
  rw [List.getElem_drop, <- mC (by omega)]
  exact l3 _ (by omega) (by omega)
 have hcnt : (ns.take (last + 1)).countP iQ = there := by
  have : ns.countP iQ = (ns.take (last + 1) ++ ns.drop (last + 1)).countP iQ := by rw [aIh]
  rw [List.countP_append, B8 hz] at this
  omega
 have hpl : ((ns.take (last + 1)).map (qU (2 ^ log - there) ns.sum)).length = last + 1 := by rw [aG1, aG4]; omega
 have hpart : ∀ i, i < last + 1 -> ((ns.take (last + 1)).map (qU (2 ^ log - there) ns.sum)).getD i 0 = qU (2 ^ log - there) ns.sum (ns.getD i 0) := fun i hi => by
  rw [mC (by omega), aHs, List.getElem_take, mC (by omega)]
 have hsum := avP (2 ^ log - there) ns.sum (ns.take (last + 1))
 rw [hcnt] at hsum
 have hl' : (A3 log there ns.sum last gr left ns).length = last + 1 := by unfold A3; rw [aIA, hpl]
 have hon : ∀ n, 0 < qU (2 ^ log - there) ns.sum n ↔ 0 < n := fun n => by
  unfold qU
  split
  .omega
  .generalize n * (2 ^ log - there) / ns.sum = q
   constructor <;> intro <;> omega
 have hget : ∀ i, i < last + 1 -> (A3 log there ns.sum last gr left ns).getD i 0 = if i = gr then qU (2 ^ log - there) ns.sum (ns.getD gr 0) + left else qU (2 ^ log - there) ns.sum (ns.getD i 0) := fun i hi => by
  unfold A3
  rw [aCk _ (by omega) (by omega), hpart gr (by omega), hpart i hi]
 have hiff : ∀ i, i < last + 1 -> (0 < (A3 log there ns.sum last gr left ns).getD i 0 ↔ 0 < ns.getD i 0) := fun i hi => by
  rw [hget i hi]
  split
  .rename_i h
   subst h
   have := (hon (ns.getD i 0)).2 hgr2
   constructor <;> intro <;> omega
  .exact hon _
 refine ⟨⟨h5, h15, by rw [aG1, hl']; omega, by rw [aG1, hl']; omega, ?_, ?_, ?_⟩, hl', l1, hiff⟩
 .intro h
  rw [aIu, aG1, hl', aHg, aHK] at h
  have h1 := (hiff last (by omega)).2 l2
  rw [mC (by omega)] at h1
  rw [aGX (by omega)] at h
  have h2 := aG8 h
  simp only at h2
  omega
 .intro p hp
  obtain ⟨n, _, rfl⟩ := aHH.1 hp
  omega
 .rw [avS]
  have : (A3 log there ns.sum last gr left ns).sum = 2 ^ log := by
   unfold A3
   rw [mC (show gr < ((ns.take (last + 1)).map (qU (2 ^ log - there) ns.sum)).length by omega), azY _ (by omega), hsum]
   omega
  rw [this]; simp
def Lx (S : List Int) : List Nat := (List.range 256).map fun (s : Nat) => S.count (s : Int)
theorem qN (S : List Int) : (Lx S).length = 256 := by simp [Lx]
theorem Uu {S : List Int} {s : Nat} (h : s < 256) : (Lx S).getD s 0 = S.count (s : Int) := by
 rw [mC (by rw [qN]; exact h)]; simp [Lx]
theorem arH : Lx [] = List.replicate 256 0 := by
 unfold Lx
 apply aHN
 .rw [aG1, aIF, aH9]
 .intro i h1 h2
  simp only [aHs, aHJ, List.count_nil, aI0]
theorem auT {S : List Int} {c : Nat} (h : c < 256) : Lx (S ++ [(c : Int)]) = (Lx S).set c (S.count (c : Int) + 1) := by
 apply aHN
 .simp [Lx]
 .intro j h1 h2
  have hj : j < 256 := by simpa [Lx] using h1
  rw [aIL]
  simp only [Lx, aHs, aHJ, aHX, aIv]
  by_cases hij : c = j
  .subst hij; simp
  .have : ((c : Int) == (j : Int)) = false := by simp; omega
   rw [if_neg hij, this]; simp
theorem V3 : ∀ {l : List Nat} {i x : Nat} (h : i < l.length) (hx : 0 < x), (l.set i x).countP iQ = l.countP iQ + if l.getD i 0 = 0 then 1 else 0
 | n :: l, 0, x, h, hx => by
   have e1 : iQ x = true := by unfold iQ; simp; omega
   rw [aGS, aIg, aIg, e1]
   simp only [List.getD_cons_zero]
   by_cases hn : n = 0
   .subst hn; simp [iQ]
   .have e2 : iQ n = true := by unfold iQ; simp; omega
    rw [e2, if_neg hn]; simp
 | n :: l, i + 1, x, h, hx => by
   have := V3 (l := l) (i := i) (Nat.lt_of_succ_lt_succ h) hx
   rw [aGU, aIg, aIg, this, List.getD_cons_succ]
   omega
def gmx (S : List Int) : Int := S.foldl max 0
theorem aDv (S : List Int) (c : Int) : gmx (S ++ [c]) = max (gmx S) c := by unfold gmx; rw [List.foldl_append] <;> rfl
theorem aEU {S : List Int} {n : Int} : ∀ {a : Int}, a <= n -> (∀ x ∈ S, x <= n) -> a <= S.foldl max a /\ S.foldl max a <= n /\ ∀ x ∈ S, x <= S.foldl max a := by
 induction S with
 | nil => intro a h _; exact ⟨by simp, by simpa using h, by simp⟩
 | cons y S ih =>
   intro a h hx
   have hy := hx y (aH0 ..)
   obtain ⟨h1, h2, h3⟩ := ih (a := max a y) (by omega) (fun x h => hx x (aG9 _ h))
   rw [List.foldl_cons]
   refine ⟨by omega, h2, fun x hx' => ?_⟩
   rcases aHE.1 hx' with rfl | hx'
   .omega
   .exact h3 x hx'
theorem abV {S : List Int} {x : Int} (h : x ∈ S) : 0 < S.count x := List.count_pos_iff.2 h
theorem aAw {S : List Int} {n : Nat} (hn : n < 256) (h : ∀ x ∈ S, 0 <= x /\ x <= n) :
 ∃ g : Nat, gmx S = g /\ g <= n /\ ((Lx S).take (g + 1)).length = g + 1 /\ (∀ s, s <= g -> ((Lx S).take (g + 1)).getD s 0 = S.count (s : Int)) /\ (∀ x ∈ S, x <= g) /\
   ((Lx S).take (g + 1)).countP iQ = (Lx S).countP iQ := by
 obtain ⟨h1, h2, h3⟩ := aEU (S := S) (n := n) (a := 0) (by omega) (fun x hx => (h x hx).2)
 have h1 : 0 <= gmx S := h1
 have h2 : gmx S <= n := h2
 have h3 : ∀ x ∈ S, x <= gmx S := h3
 obtain ⟨g, hg⟩ : ∃ g : Nat, gmx S = g := ⟨(gmx S).toNat, by omega⟩
 rw [hg] at h2 h3
 refine ⟨g, hg, by omega, by rw [aG4, qN]; omega, fun s hs => ?_, h3, ?_⟩
 .rw [aG3, aHr (by omega), <- aG3, Uu (by omega)]
 .have : (Lx S).countP iQ = ((Lx S).take (g + 1) ++ (Lx S).drop (g + 1)).countP iQ := by rw [aIh]
  rw [this, List.countP_append]
  have hz : ((Lx S).drop (g + 1)).countP iQ = 0 := B8 fun x hx => ?_
  .omega
  obtain ⟨i, hi, rfl⟩ := aHl hx
  rw [aHh, qN] at hi
  rw [List.getElem_drop]
  simp only [Lx, aHs, aHJ]
  exact List.count_eq_zero.2 fun hm => by have := h3 _ hm; omega
theorem aEo {S : List Int} (h : ∀ x ∈ S, 0 <= x /\ x <= 255) (hne : S ≠ []) : 0 < (Lx S).countP iQ := by
 obtain ⟨x, hx⟩ := aIQ _ hne
 obtain ⟨h0, h1⟩ := h x hx
 rw [List.countP_pos_iff]
 obtain ⟨c, rfl⟩ : ∃ c : Nat, x = c := ⟨x.toNat, by omega⟩
 refine ⟨(Lx S).getD c 0, ?_, ?_⟩
 .rw [mC (by rw [qN]; omega)]; exact aG7 _
 .rw [Uu (by omega)]; unfold iQ; simpa using hx
theorem arY : ∀ {l : List Nat} {i j : Nat}, i < j -> 0 < l.getD i 0 -> 0 < l.getD j 0 -> 2 <= l.countP iQ
 | [], i, j, _, h, _ => by simp at h
 | n :: l, 0, j + 1, _, h1, h2 => by
   rw [List.getD_cons_zero] at h1
   rw [List.getD_cons_succ] at h2
   have e1 : iQ n = true := by unfold iQ; simp; omega
   have hj : j < l.length := by
    rcases aHd j l.length with h | h
    .exact h
    .rw [aG3, aHa h] at h2; simp at h2
   have : 0 < l.countP iQ := by
    rw [List.countP_pos_iff]
    refine ⟨l[j], aG7 _, ?_⟩
    rw [mC hj] at h2
    unfold iQ; simpa using h2
   rw [aIg, if_pos e1]; omega
 | n :: l, i + 1, j + 1, h, h1, h2 => by
   rw [List.getD_cons_succ] at h1 h2
   have := arY (l := l) (by omega) h1 h2
   rw [aIg]; omega
theorem aEl {S : List Int} (h : ∀ x ∈ S, 0 <= x /\ x <= 255) (h1 : (Lx S).countP iQ = 1) : ∀ x ∈ S, ∀ y ∈ S, x = y := by
 intro x hx y hy
 obtain ⟨a, rfl⟩ : ∃ c : Nat, x = c := ⟨x.toNat, by have := h x hx; omega⟩
 obtain ⟨b, rfl⟩ : ∃ c : Nat, y = c := ⟨y.toNat, by have := h y hy; omega⟩
 have ha := h _ hx
 have hb := h _ hy
 have c1 : 0 < (Lx S).getD a 0 := by rw [Uu (by omega)]; exact abV hx
 have c2 : 0 < (Lx S).getD b 0 := by rw [Uu (by omega)]; exact abV hy
 rcases aIm a b with h | h | h
 .have := arY h c1 c2; omega
 .rw [h]
 .have := arY h c2 c1; omega
theorem aAB {S : List Int} {c : Nat} (hc : c < 256) (h : ∀ x ∈ S, x = (c : Int)) (hne : S ≠ []) : (Lx S).countP iQ = 1 := by
 have e : Lx S = (List.replicate 256 0).set c S.length := by
  apply aHN
  .rw [qN, aIA, aH9]
  .intro j h1 h2
   have hj : j < 256 := by rw [qN] at h1; exact h1
   rw [aIL, aI0]
   simp only [Lx, aHs, aHJ]
   by_cases hij : c = j
   .subst hij
    rw [if_pos rfl, List.count_eq_length]
    intro b hb; exact (h b hb).symm
   .rw [if_neg hij]
    exact List.count_eq_zero.2 fun hm => by have := h _ hm; omega
 have hl : 0 < S.length := aHP.2 hne
 rw [e, V3 (by rw [aH9]; exact hc) hl]
 rw [B8 (l := List.replicate 256 0) (fun n hn => aIx hn)]
 rw [aG3, aIy]
 simp [hc]
theorem axG (S : List Int) : ∀ n, ((List.range n).map fun (s : Nat) => S.count (s : Int)).sum <= S.length := by
 induction S with
 | nil => intro n; rw [apM]; · simp
          intro x hx; obtain ⟨i, _, rfl⟩ := aHH.1 hx; simp
 | cons y S ih =>
   intro n
   have key : ∀ m, ((List.range m).map fun (s : Nat) => (y :: S).count (s : Int)).sum = ((List.range m).map fun (s : Nat) => S.count (s : Int)).sum + (if 0 <= y /\ y < m then 1 else 0) := by
    intro m
    induction m with
    | zero => rw [if_neg (by omega)] <;> rfl
    | succ m im =>
      rw [aIO, aHw, aHw, aIR, aIR, im]
      simp only [aIn, List.map_nil, aIb, List.sum_nil, aIk]
      by_cases hy : y = (m : Int)
      .subst hy
       have a1 : ¬ (0 <= (m : Int) /\ (m : Int) < (m : Nat)) := by omega
       have a2 : 0 <= (m : Int) /\ (m : Int) < ((m + 1 : Nat) : Int) := by omega
       have a3 : ((m : Int) == (m : Int)) = true := beq_self_eq_true _
       rw [if_neg a1, if_pos a2, if_pos a3]; omega
      .have e1 : ¬ (y == (m : Int)) = true := by rw [beq_eq_false_iff_ne.2 hy]; decide
       rw [if_neg e1]
       by_cases h2 : 0 <= y /\ y < (m : Int)
       .have a2 : 0 <= y /\ y < ((m + 1 : Nat) : Int) := by omega
        rw [if_pos h2, if_pos a2]; omega
       .have a2 : ¬ (0 <= y /\ y < ((m + 1 : Nat) : Int)) := by omega
        rw [if_neg h2, if_neg a2]; omega
   rw [key n, aHc]
   have := ih n
   split <;> omega
theorem arE (S : List Int) (k : Nat) (hk : k <= 256) : ((Lx S).take k).sum <= S.length := by
 have e : (Lx S).take k = (List.range k).map fun (s : Nat) => S.count (s : Int) := by
  unfold Lx
  rw [<- aIM, List.take_range]
  congr 2; omega
 rw [e]; exact axG S k
theorem aEP (S : List Int) : ∀ n ∈ Lx S, n <= S.length := by
 intro n hn
 obtain ⟨s, _, rfl⟩ := aHH.1 hn
 exact aI8
end Go.Pu
namespace Go.Proofs.YtaggdjhhmbnhoaaDoor
open Go Go.En Go.Pu
set_option maxRecDepth 4000
def NB (L : List Bool) (v st1 : Nat) : Option (Nat × Nat) := if v = 1 then noR L (L.length + 1) st1 else some (0, st1)
theorem aEe {L : List Bool} {sym f st left : Nat} {ps : List Int} (h0 : left ≠ 0) : U7 L sym (f + 1) st left ps = match Vj L st left with
 | none => .error 10
 | some (v, st1) => match NB L v st1 with
   | none => .error 10
   | some (k, st2) => if sym < ps.length + 1 + k then .error 11 else U7 L sym f st2 (left - (cR ((v : Int) - 1)).toNat) (ps ++ ((v : Int) - 1) :: List.replicate k 0) := by
 rw [amC, if_neg h0]
 cases Vj L st left with
 | none => rfl
 | some x =>
   obtain ⟨v, st1⟩ := x
   simp only
   unfold NB
   by_cases h : v = 1
   .subst h
    rw [if_pos rfl, if_pos rfl]
    have : cR (((1 : Nat) : Int) - 1) = 0 := rfl
    rw [this] <;> rfl
   .rw [if_neg h, if_neg h]
    rfl
theorem abY {p6 : Nat} {w0 w : aJa} {e : Int} (o6 : cJ w p6 [.int .i64 0, .slice none 0 0]) (hx : aS w0 w cM) (hp : w0.heap.size <= p6) {RR : aJb -> aJa -> Prop}
 (hR : ∀ w', aS w0 w' cM -> RR (.tuple #[.agg #[.int .i64 0, .slice none 0 0], .int .i64 0, .int .i64 e]) w') :
 aC pg (aJ 130 (.pointer (some ⟨p6, 0, none⟩)) (.agg #[.int .i64 0, .slice none 0 0])) w fun _u w => kC pg 130 (.pointer (some ⟨p6, 0, none⟩)) w fun r0 => RR (.tuple #[r0, .int .i64 0, .int .i64 e]) w := by
 refine iH o6 rfl (by simp [one]) (by simp) fun w6 o6 x6 s6 => ?_
 refine nE o6 (by simp [aV]) ?_
 simp only [aV, aGS, aGU, aGT, aGN, aGV]
 exact hR _ (hx.new x6 hp)
structure RdS (w : aJa) (p6 pf pc log st : Nat) (bv : aJb) (L : List Bool) (ps : List Int) (v : aJb) : Prop where
 o6 : cJ w p6 [.int .i64 0, .slice none 0 0]
 of : cJ w pf [bv, .int .i64 st]
 oc : cJ w pc [.int .i64 log, v]
 os : sN w (pc + 1) 1 v ps.length (ps.map (Value.int .i64))
 bl : Bl w bv L
 at' : AtI bv 0 pf
 h6 : p6 < pf
 hf : pf < pc
theorem RdS.ext {w w' : aJa} {p6 pf pc log st : Nat} {bv : aJb} {L : List Bool} {ps : List Int} {v : aJb} (h : RdS w p6 pf pc log st bv L ps v) (hx : aS w w' cM) : RdS w' p6 pf pc log st bv L ps v :=
 ⟨h.o6.ext hx (fun h => h), h.of.ext hx (fun h => h), h.oc.ext hx (fun h => h), h.os.ext hx (fun _ _ h => h), h.bl.ext hx (cD _), h.at', h.h6, h.hf⟩
theorem RdS.setF {w w' : aJa} {p6 pf pc log st st' : Nat} {bv : aJb} {L : List Bool} {ps : List Int} {v : aJb} (h : RdS w p6 pf pc log st bv L ps v) (hx : aS w w' (fun y => y = pf)) (o : cJ w' pf [bv, .int .i64 st']) : RdS w' p6 pf pc log st' bv L ps v := by
 have h6 := h.h6
 have hf := h.hf
 exact ⟨h.o6.ext hx (by omega), o, h.oc.ext hx (by omega), h.os.ext hx (fun _ _ h => by omega), h.bl.ext hx (h.at' _ fun b _ hb => by omega), h.at', h.h6, h.hf⟩
theorem aC3 {w : aJa} {p6 pf pc log st : Nat} {bv : aJb} {L : List Bool} {ps : List Int} {v : aJb} (h : RdS w p6 pf pc log st bv L ps v) (p : Int) (hl : ps.length <= 100000000) {K : aJa -> Prop}
 (hK : ∀ w' v', RdS w' p6 pf pc log st bv L (ps ++ [p]) v' -> aS w w' (fun y => pc <= y) -> K w') :
 aC pg (bX 77 1 [(0, .int .i64 p)]) w fun t64 w => aC pg (jS .append #[77, 77] 77 [v, t64]) w fun t65 w => aC pg (aL 130 (.pointer (some ⟨pc, 0, none⟩)) 1) w fun t66 w => aC pg (aJ 77 t66 t65) w fun _ w => K w := by
 have lpc := h.oc.lt
 have h6 := h.h6
 have hf := h.hf
 refine wC (cells := #[.int .i64 p]) (by decide) (by decide) (by kernel_rfl) fun w4 o4 x4 s4 => ?_
 have z4 := x4.size
 refine EJ (m := 1) (news := [.int .i64 p]) (h.os.ext x4 (fun _ _ h => h)) (o4.cl (off := 0) (l := [.int .i64 p]) (n := 1) rfl (fun i hi => by rw [aGP])) (by simp [one]) (by omega) (by omega) fun v5 w5 o5 x5 => ?_
 have z5 := x5.size
 obtain ⟨av5, cv5, rfl⟩ := o5.len
 have oc5 := (h.oc.ext x4 (fun h => h)).ext x5 (by omega)
 simp (disch := omega) only [aC, aW, aGP, aA]
 refine Ul oc5 rfl (by simp) fun w6 oc6 x6 s6 => ?_
 simp only [aGS, aGU] at oc6
 have ov6 := o5.ext x6 (fun b hb h => by omega)
 have x26 : aS w w6 (fun y => pc <= y) := ((x4.mono fun _ _ h => h.elim).seq (x5.mono fun y _ h => by omega)).seq (x6.mono fun y _ h => by omega)
 rw [show (ps.map (Value.int .i64) ++ [Value.int .i64 p]) = (ps ++ [p]).map (Value.int .i64) from by simp, show ps.length + 1 = (ps ++ [p]).length from by simp] at ov6
 rw [show ps.length + 1 = (ps ++ [p]).length from by simp] at oc6
 exact hK w6 _ ⟨h.o6.ext x26 (by omega), h.of.ext x26 (by omega), oc6, ov6, h.bl.ext x26 (h.at' _ fun b _ hb => by omega), h.at', h6, hf⟩ x26
theorem aAO {w : aJa} {p6 pf pc log st sym left : Nat} {bv : aJb} {L : List Bool} {ps : List Int} {v : aJb} (h : RdS w p6 pf pc log st bv L ps v) {x : Nat} (hx3 : x <= 3) (hl : ps.length <= 90000000) {kn : aJb -> aJb -> aJb -> aJb -> aJb -> aJb -> aJa -> Prop}
 (hK : ∀ w' v', RdS w' p6 pf pc log st bv L (ps ++ List.replicate x 0) v' -> aS w w' (fun y => pc <= y) -> kn (.int .i64 sym) (.pointer (some ⟨p6, 0, none⟩)) (.pointer (some ⟨pf, 0, none⟩)) (.pointer (some ⟨pc, 0, none⟩)) (.int .i64 left) (.bool (((x : Nat) : Int) == 3)) w') :
 Fi kn (.int .i64 sym) (.pointer (some ⟨p6, 0, none⟩)) (.pointer (some ⟨pf, 0, none⟩)) (.int .u64 x) (.pointer (some ⟨pc, 0, none⟩)) (.int .i64 left) w := by
 unfold Fi ME Nl Oh NI
 refine cG.rule (fun m (t : aJb) w' => ∃ (i : Nat) (v' : aJb), m = x - i /\ t = .int .i64 i /\ i <= x /\ RdS w' p6 pf pc log st bv L (ps ++ List.replicate i 0) v' /\ aS w w' (fun y => pc <= y)) x
  ⟨0, v, rfl, rfl, by omega, by simpa using h, aS.refl _ _⟩ ?_
 rintro m t w1 ⟨i, v', rfl, rfl, hi, h1, x1⟩
 unfold FN
 by_cases hlt : i < x
 .have d1 : decide ((i : Int) < (x : Int)) = true := by simp; omega
  have c1 := h1.oc.cell (off := 1)
  simp only [aGQ, aGR] at c1
  simp (disch := omega) only [aC, cZ, aT, aW, aGP, bM, aA, cL, aX, d1, c1, aI, aF]
  refine aC3 h1 0 (by simp; omega) fun w2 v2 h2 x2 => ?_
  refine ⟨x - (i + 1), by omega, i + 1, v2, rfl, rfl, by omega, ?_, x1.seq x2⟩
  rw [aG2, <- List.replicate_succ'] at h2
  exact h2
 .have d1 : decide ((i : Int) < (x : Int)) = false := by simp; omega
  obtain rfl : i = x := by omega
  unfold Fx
  simp (disch := omega) only [aC, cZ, aT, aW, aGP, bM, aA, cL, cW, aX, d1, aE]
  exact hK _ _ h1 x1
end Go.Proofs.YtaggdjhhmbnhoaaDoor
