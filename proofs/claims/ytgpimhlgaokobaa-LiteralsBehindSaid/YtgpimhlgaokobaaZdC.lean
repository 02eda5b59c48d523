/- Parts of the proof of LiteralsBehind: merged and given short names by a program of ours. -/
import Derived.Laws.Strings
import Derived.Test.YtgpimhlgaokobaaZdB
set_option linter.unusedVariables false
set_option linter.unusedSimpArgs false
open Array renaming length_toList → alH
open Bool renaming false_eq_true → aiD, and_eq_true → aiN, not_true → ajB, not_false → akU, or_eq_false_iff → amC
open Int renaming toNat_natCast → aiB, tmod_eq_emod_of_nonneg → ajO, tdiv_eq_ediv_of_nonneg → akG, fdiv_eq_ediv_of_nonneg → alK
open List renaming getElem?_cons_zero → ahZ, getElem?_cons_succ → aiA, length_append → aiE, set_cons_succ → aiF, set_cons_zero → aiG, getElem?_eq_getElem → aiH, length_map → aiI, getD_eq_getElem?_getD → aiJ, getElem?_eq_none → aiO, length_cons → aiP, take_succ_cons → aiQ, length_take → aiR, mem_cons_of_mem → aiT, drop_zero → aiU, length_drop → aiV, take_zero → aiW, getElem?_append_left → aiX, map_append → aiZ, getElem?_map → ajA, map_congr_left → ajH, append_assoc → ajI, drop_eq_getElem_cons → ajK, mem_range → ajL, length_eq_zero_iff → ajM, length_singleton → ajP, replicate_succ → ajQ, mem_append → ajT, mem_cons → ajW, getElem?_take_of_lt → akA, append_nil → akB, getElem?_range → akD, getElem?_append_right → akF, mem_of_getElem? → akH, getElem?_eq_some_iff → akI, cons_append → akJ, getElem_mem → akK, getElem?_toArray → akL, mem_map → akM, take_of_length_le → akP, ext_getElem? → akQ, mem_append_left → akS, length_replicate → akW, getElem_map → akX, map_cons → akZ, mem_of_mem_take → alB, take_add_one → alD, nil_append → alE, mem_cons_self → alN, getElem?_drop → alP, take_append_drop → alQ, count_append → alS, take_append_of_le_length → alT, getElem?_replicate → alU, drop_succ_cons → alV, ext_getElem → alW, getElem_range → alZ, set_append_right → amA, flatten_cons → amB, drop_drop → amF, take_length → amG, getElem_of_mem → amI, map_drop → amJ, take_left' → amL, mem_singleton → amM, getLast?_concat → amR, mem_of_mem_drop → amS, map_take → amT, range_succ → amX, getLast?_eq_getElem? → amY, drop_left' → amZ, length_range → anD, getElem_cons_succ → anF, drop_eq_nil_of_le → anG, drop_of_length_le → anH, getElem_set_self → anN, map_nil → anO, map_set → anT
open Nat renaming zero_add → aiC, pow_le_pow_right → aiK, le_refl → aiM, lt_or_ge → aiS, two_pow_pos → aiY, mul_comm → ajD, mul_le_mul_right → ajG, mod_eq_of_lt → ajJ, add_mul → ajR, pow_succ → ajU, min_eq_left → ajY, pow_add → akC, add_zero → akN, add_sub_cancel → akO, le_trans → akT, mul_one → alA, div_le_self → alG, add_assoc → alJ, lt_of_lt_of_le → alM, eq_zero_or_pos → alX, sub_self → alY, mod_lt → amD, zero_le → amE, div_div_eq_div_mul → amN, one_mul → amU, mul_add → amV, mul_div_cancel_left → anB, lt_trichotomy → anC, mul_assoc → anI, log2_two_pow → anK, div_eq_of_lt → anL, zero_mul → anP
open Option renaming isNone_some → ajF, map_some → ajS
open Option.some renaming inj → ajE
open Prod.mk renaming inj → alR
open UInt8 renaming toNat_lt → ajV, toNat_ofNat_of_lt' → akY
namespace Go.Proofs.Ytgpimhlgaokobaa
open Go Go.En Go.Pu
set_option maxRecDepth 4000
theorem Wn {a b : Nat} (ha : a < 2 ^ 63) (hb : b < 2 ^ 63) : Jn .i64 (a : Int) (b : Int) = ((a &&& b : Nat) : Int) := by
 unfold Jn
 have e : IntKind.i64.bits = 64 := rfl
 have h := Nat.and_lt_two_pow (n := 63) a hb
 rw [e, BitVec.ofInt_natCast, BitVec.ofInt_natCast, BitVec.toNat_and, BitVec.toNat_ofNat, BitVec.toNat_ofNat, ajJ (by omega), ajJ (by omega)]
 exact aT (by omega) (by omega)
theorem aeB {v : anV} {l : List UInt8} {w : anU} (h : Bs w v l) (h0 : 0 < l.length) (hl : l.length <= 100000) :
 aP pg rL #[v] w (fun r w' => (∃ m : Nat, r = .int .u8 m /\ (∀ x ∈ aU l, x <= m) /\ m ∈ aU l) /\ w' = w) := by
 refine Kd ?_
 obtain ⟨b, off, c, rfl, hc, hcell⟩ := El h h0
 unfold II uM uL
 have d0 : decide ((l.length : Int) < 1) = false := by simp; omega
 have g0 := hcell 0 h0
 have t0 : (0 : Int).toNat = 0 := rfl
 simp (disch := omega) only [aD, aN, aA, aY, d0, aE]
 unfold vU xD
 simp (disch := omega) only [aD, cJ, t0, aA, dY, g0, aH]
 unfold xB wM wV wF wX
 refine cK.rule (fun m (t : anV × anV) w' => ∃ i q : Nat, m = l.length - i /\ t = (.int .u8 q, .int .i64 i) /\ 1 <= i /\ i <= l.length /\ (∀ x ∈ aU (l.take i), x <= q) /\ q ∈ aU (l.take i) /\ w' = w) (l.length - 1)
  ⟨1, l[0].toNat, by omega, rfl, by omega, by omega, ?_, ?_, rfl⟩ ?_
 .intro x hx
  rw [Lr (i := 0) h0] at hx
  simp at hx; omega
 .rw [Lr (i := 0) h0]; simp
 rintro m t w1 ⟨i, q, rfl, rfl, hi1, hi, hle, hmem, rfl⟩
 unfold oX
 by_cases hlt : i < l.length
 .have d1 : decide ((i : Int) < (l.length : Int)) = true := by simp; omega
  have g1 := hcell i hlt
  have ht := Lr hlt
  generalize (l[i]).toNat = x at *
  have hmx : (if (q : Int) <= (x : Int) then (x : Int) else (q : Int)) = ((max q x : Nat) : Int) := by split <;> omega
  have hmx2 : (if (x : Int) > (q : Int) then (x : Int) else (q : Int)) = ((max q x : Nat) : Int) := by split <;> omega
  have hmx3 : (if (q : Int) < (x : Int) then (x : Int) else (q : Int)) = ((max q x : Nat) : Int) := by split <;> omega
  simp (disch := omega) only [aD, aN, cJ, aiB, bQ, aT, aA, dY, aY, d1, g1, aH, Pl, hmx2, and_true, aF]
  refine ⟨l.length - (i + 1), by omega, i + 1, max q x, rfl, rfl, by omega, by omega, ?_, ?_⟩
  .intro y hy
   rw [ht] at hy
   rcases ajT.1 hy with hy | hy
   .have := hle y hy; omega
   .rw [amM.1 hy]; omega
  .rw [ht, ajT]
   rcases Nat.le_total q x with h | h
   .rw [Nat.max_eq_right h]; exact .inr (amM.2 rfl)
   .rw [Nat.max_eq_left h]; exact .inl hmem
 .have d1 : decide ((i : Int) < (l.length : Int)) = false := by simp; omega
  obtain rfl : i = l.length := by omega
  rw [amG] at *
  unfold pM
  simp (disch := omega) only [aD, aN, bQ, aT, aA, aY, d1, and_true, aE]
  exact ⟨q, rfl, hle, hmem⟩
theorem Rx {v : anV} {l : List UInt8} {w : anU} (h : Bs w v l) (hl : l.length <= 100000) :
 aP pg pR #[v] w (fun r w' => r = .int .i64 (dD (aU l) : Nat) /\ w' = w) := by
 refine NI ?_
 obtain ⟨a, n, c, rfl, hn, hc, hh⟩ := id h
 rw [aiI] at hn
 subst hn
 have no : ¬ (oM 11 (aU l) = true /\ 2 <= (aU l).length /\ (aU l).length <= 256 /\ (aU l).getLast? ≠ some 0 /\ 2 ^ (bN (aU l)).log2 = bN (aU l) /\ (bN (aU l)).log2 <= 11 /\ oM (bN (aU l)).log2 (aU l) = true) -> dD (aU l) = 0 := fun h => by
  unfold dD; rw [if_neg h]
 have hnl := cT l
 unfold MH Bd
 refine (XI h hl).mono ?_
 rintro r w1 ⟨rfl, rfl⟩
 cases hok : oM 11 (aU l) with
 | false =>
   have := no (by rw [hok]; simp)
   simp (disch := omega) only [aD, aiD, if_false, oH, oF, aA, rS, akU, jV, bO, if_true, aF, eF, and_true]
   rw [this] <;> rfl
 | true =>
   have hw := Lo (nP.1 hok)
   rw [hnl] at hw
   by_cases h2 : l.length < 2
   .have d2 : decide ((l.length : Int) < 2) = true := by simp; omega
    have := no (by omega)
    simp (disch := omega) only [aD, if_true, oH, oF, aA, rS, ajB, dS, bO, aiD, if_false, bW, aN, aY, d2, jV, aF, eF, and_true]
    rw [this] <;> rfl
   have d2 : decide ((l.length : Int) < 2) = false := by simp; omega
   by_cases h3 : 256 < l.length
   .have d3 : decide ((256 : Int) < (l.length : Int)) = true := by simp; omega
    have := no (by omega)
    simp (disch := omega) only [aD, if_true, oH, oF, aA, rS, ajB, dS, bO, aiD, if_false, bW, aN, aY, d2, dU, d3, jV, aF, eF, and_true]
    rw [this] <;> rfl
   have d3 : decide ((256 : Int) < (l.length : Int)) = false := by simp; omega
   obtain ⟨b, off, rfl, hcell⟩ := slA h (by omega)
   have e1 : (l.length : Int) - 1 = ((l.length - 1 : Nat) : Int) := by omega
   have g1 := hcell (l.length - 1) (by omega)
   rw [ajA, aiH (by omega)] at g1
   simp only [ajS, lL] at g1
   have hla := YB (l := l) (by omega)
   have hmem : (l[l.length - 1]'(by omega)).toNat ∈ aU l := akM.2 ⟨_, akK _, rfl⟩
   generalize (l[l.length - 1]'(by omega)).toNat = x at *
   by_cases h4 : x = 0
   .have d4 : ((x : Int) == 0) = true := by rw [h4] <;> rfl
    have := no (fun h => h.2.2.2.1 (hla.2 h4))
    simp (disch := omega) only [aD, if_true, oH, oF, aA, rS, ajB, dS, bO, aiD, if_false, bW, aN, aY, d2, dU, d3, fJ, e1, aT, cJ, aiB, dY, g1, aH, dZ, iZ, dV, d4, jV, aF, eF, and_true]
    rw [this] <;> rfl
   have d4 : ((x : Int) == 0) = false := beq_eq_false_iff_ne.2 (by omega)
   have hwp := SI hmem
   have hwx : 1 <= ES x := by unfold ES; rw [if_neg h4]; exact Nat.one_le_two_pow
   obtain ⟨s, hs⟩ : ∃ s, bN (aU l) = s := ⟨_, rfl⟩
   rw [hs] at no hw hwp ⊢
   have e2 : (s : Int) - 1 = ((s - 1 : Nat) : Int) := by omega
   have e3 := Wn (a := s) (b := s - 1) (by omega) (by omega)
   have hpw := V3 s (by omega)
   have hlast : (aU l).getLast? ≠ some 0 := fun h => h4 (hla.1 h)
   simp only [if_true]
   by_cases h5 : s &&& (s - 1) = 0
   .have d5 : (((s &&& (s - 1) : Nat) : Int) != 0) = false := by rw [h5] <;> rfl
    have hlog := hpw.1 h5
    have hbl : bl s = s.log2 + 1 := by unfold bl; rw [if_neg (by omega)]
    have e4 : ((s.log2 + 1 : Nat) : Int) - 1 = (s.log2 : Int) := by omega
    have hb20 : bl s <= 20 := uU (by omega)
    simp (disch := omega) only [aD, oH, oF, aA, rS, ajB, dS, bO, aiD, if_false, bW, aN, aY, d2, dU, d3, fJ, e1, aT, cJ, aiB, dY, g1, aH, dZ, iZ, dV, d4, e2, He, e3, cO, d5, and_true, aE]
    refine (Vh s (by omega) w1).mono ?_
    rintro r w2 ⟨rfl, rfl⟩
    rw [hbl]
    by_cases h6 : 11 < s.log2
    .have d6 : decide ((11 : Int) < (s.log2 : Int)) = true := by simp; omega
     have := no (by omega)
     simp (disch := omega) only [fJ, e4, aT, aA, dU, d6, jV, bO, if_true, aF, eF, and_true]
     rw [this] <;> rfl
    have d6 : decide ((11 : Int) < (s.log2 : Int)) = false := by simp; omega
    simp (disch := omega) only [fJ, e4, aT, aA, dU, d6, dS, bO, aiD, if_false, bW]
    refine (aeB h (by omega) hl).mono ?_
    rintro r w3 ⟨⟨q, rfl, hq1, hq2⟩, rfl⟩
    have hq := Un l q hq2
    by_cases h7 : s.log2 < q
    .have d7 : decide ((s.log2 : Int) < (q : Int)) = true := by simp; omega
     have := no (fun h => by have := nP.1 h.2.2.2.2.2.2 q hq2; omega)
     simp (disch := omega) only [gH, aT, aA, dU, d7, and_true, aF]
     rw [this] <;> rfl
    .have d7 : decide ((s.log2 : Int) < (q : Int)) = false := by simp; omega
     have hyes : dD (aU l) = s.log2 := by
      unfold dD
      rw [hs, if_pos ⟨hok, by omega, by omega, hlast, hlog, by omega, nP.2 fun y hy => by have := hq1 y hy; omega⟩]
     simp (disch := omega) only [gH, aT, aA, dU, d7, and_true, aE]
     rw [hyes]
   .have d5 : (((s &&& (s - 1) : Nat) : Int) != 0) = true := by simpa using h5
    have := no (fun h => h5 (hpw.2 h.2.2.2.2.1))
    simp (disch := omega) only [aD, oH, oF, aA, rS, ajB, dS, bO, aiD, if_false, bW, aN, aY, d2, dU, d3, fJ, e1, aT, cJ, aiB, dY, g1, aH, dZ, iZ, dV, d4, e2, He, e3, cO, d5, and_true, aF]
    rw [this] <;> rfl
def abU (w : anU) (base : Nat) (l : List UInt8) (o : Option Nat) (r : anV) : Prop := match o with
 | none => r = .tuple #[.slice none 0 0, .int .i64 11]
 | some k => ∃ v, r = .tuple #[v, .int .i64 0] /\ oI w base 1 v (l.length + 1) ((l ++ [UInt8.ofNat k]).map lL)
theorem Xz {v : anV} {l : List UInt8} {w : anU} (h : Bs w v l) (hl : l.length <= 100000) :
 aP pg vK #[v] w (fun r w' => abU w' w.heap.size l (pD (aU l)) r /\ aR w w' dH) := by
 refine NA ?_
 obtain ⟨a, n, c, rfl, hn, hc, hh⟩ := id h
 rw [aiI] at hn
 subst hn
 have hnl := cT l
 have no : ¬ (oM 11 (aU l) = true /\ 1 <= (aU l).length /\ (aU l).length <= 255 /\ 0 < bN (aU l) /\ bl (bN (aU l)) <= 11 /\ 2 ^ (2 ^ bl (bN (aU l)) - bN (aU l)).log2 = 2 ^ bl (bN (aU l)) - bN (aU l)) -> pD (aU l) = none := fun h => by
  unfold pD; rw [if_neg h]
 unfold Mu Bz
 refine (XI h hl).mono ?_
 rintro r w1 ⟨rfl, rfl⟩
 cases hok : oM 11 (aU l) with
 | false =>
   have := no (by rw [hok]; simp)
   simp (disch := omega) only [aD, aiD, if_false, oH, oF, aA, rS, akU, jV, bO, if_true, aF, eF]
   rw [this]; exact ⟨rfl, aR.refl _ _⟩
 | true =>
   have hw := Lo (nP.1 hok)
   rw [hnl] at hw
   by_cases h2 : l.length = 0
   .have d2 : ((l.length : Int) == 0) = true := by rw [h2] <;> rfl
    have := no (by omega)
    simp (disch := omega) only [aD, if_true, oH, oF, aA, rS, ajB, dS, bO, aiD, if_false, bW, aN, dV, d2, jV, aF, eF]
    rw [this]; exact ⟨rfl, aR.refl _ _⟩
   have d2 : ((l.length : Int) == 0) = false := beq_eq_false_iff_ne.2 (by omega)
   by_cases h3 : 256 <= l.length
   .have d3 : decide ((256 : Int) <= (l.length : Int)) = true := by simp; omega
    have := no (by omega)
    simp (disch := omega) only [aD, if_true, oH, oF, aA, rS, ajB, dS, bO, aiD, if_false, bW, aN, dV, d2, lK, d3, jV, aF, eF]
    rw [this]; exact ⟨rfl, aR.refl _ _⟩
   have d3 : decide ((256 : Int) <= (l.length : Int)) = false := by simp; omega
   obtain ⟨s, hs⟩ : ∃ s, bN (aU l) = s := ⟨_, rfl⟩
   rw [hs] at no hw ⊢
   simp only [if_true]
   by_cases h4 : s = 0
   .have d4 : ((s : Int) == 0) = true := by rw [h4] <;> rfl
    have := no (by omega)
    simp (disch := omega) only [aD, oH, oF, aA, rS, ajB, dS, bO, aiD, if_false, bW, aN, dV, d2, lK, d3, d4, dZ, iZ, aF]
    rw [this]; exact ⟨rfl, aR.refl _ _⟩
   have d4 : ((s : Int) == 0) = false := beq_eq_false_iff_ne.2 (by omega)
   have hbl19 : bl s <= 20 := uU (by omega)
   have hlt := QD s
   have hbl0 := KM h4
   have hp20 : 2 ^ bl s <= 2 ^ 20 := aiK (by omega) hbl19
   have hshl := Yt (n := bl s) hbl19
   have e1 : ((2 ^ bl s : Nat) : Int) - (s : Int) = ((2 ^ bl s - s : Nat) : Int) := by omega
   simp (disch := omega) only [aD, oH, oF, aA, rS, ajB, dS, bO, aiD, if_false, bW, aN, dV, d2, lK, d3, d4, dZ, iZ, aE]
   refine (Vh s (by omega) w1).mono ?_
   rintro r w2 ⟨rfl, rfl⟩
   obtain ⟨q, hq⟩ : ∃ q, 2 ^ bl s - s = q := ⟨_, rfl⟩
   rw [hq] at no e1
   by_cases h5 : 11 < bl s
   .have d5 : decide ((11 : Int) < (bl s : Int)) = true := by simp; omega
    have := no (by omega)
    simp (disch := omega) only [kM, aiB, hshl, dU, d5, aA, jV, bO, if_true, aF, eF, fJ, e1, aT]
    rw [this]; exact ⟨rfl, aR.refl _ _⟩
   have d5 : decide ((11 : Int) < (bl s : Int)) = false := by simp; omega
   have e2 : (q : Int) - 1 = ((q - 1 : Nat) : Int) := by omega
   have e3 := Wn (a := q) (b := q - 1) (by omega) (by omega)
   have hpw := V3 q (by omega)
   by_cases h6 : q &&& (q - 1) = 0
   .have d6 : (((q &&& (q - 1) : Nat) : Int) != 0) = false := by rw [h6] <;> rfl
    have hyes : pD (aU l) = some (q.log2 + 1) := by
     unfold pD
     rw [hs, hq, if_pos ⟨hok, by omega, by omega, by omega, by omega, hpw.1 h6⟩]
    have hblq : bl q = q.log2 + 1 := by unfold bl; rw [if_neg (by omega)]
    have hblq2 : bl q <= 20 := uU (by omega)
    simp (disch := omega) only [kM, aiB, hshl, dU, d5, aA, dS, bO, aiD, if_false, bW, fJ, e1, aT, e2, dZ, iZ, He, e3, cO, d6, aE]
    refine (BP (h.ext (aR.refl _ dH) (aW _)) (by omega)).mono ?_
    rintro r w3 ⟨o3, x3⟩
    have z3 := x3.size
    refine (Vh q (by omega) w3).mono ?_
    rintro r w4 ⟨rfl, rfl⟩
    rw [hblq] at hblq2 ⊢
    rw [hyes]
    have e8 : IntKind.u8.wrap ((q.log2 + 1 : Nat) : Int) = ((q.log2 + 1 : Nat) : Int) := LN (by omega) (by omega)
    simp (disch := omega) only [jK, e8, aA]
    obtain ⟨av, cv, rfl⟩ := o3.len
    refine iC (cells := #[.int .u8 (q.log2 + 1 : Nat)]) (by decide) (by decide) (by kernel_rfl) fun w5 o5 x5 s5 => ?_
    have z5 := x5.size
    refine fA (m := 1) (news := [.int .u8 (q.log2 + 1 : Nat)]) (o3.ext x5 (fun _ _ h => h)) (o5.cl (off := 0) (l := [.int .u8 (q.log2 + 1 : Nat)]) (n := 1) rfl (fun i hi => by rw [aiC])) (by simp [one]) (by omega) (by omega) fun v6 w6 o6 x6 => ?_
    refine ⟨⟨v6, rfl, ?_⟩, (x3.seq x5).trans x6 fun b hb h => by omega⟩
    have hb2 : lL (UInt8.ofNat (q.log2 + 1)) = .int .u8 (q.log2 + 1 : Nat) := by
     unfold lL
     rw [akY (show q.log2 + 1 < 256 by omega)]
    rw [aiZ, akZ, anO, hb2]
    exact o6
   .have d6 : (((q &&& (q - 1) : Nat) : Int) != 0) = true := by simpa using h6
    have := no (fun h => h6 (hpw.2 h.2.2.2.2.2))
    simp (disch := omega) only [kM, aiB, hshl, dU, d5, aA, dS, bO, aiD, if_false, bW, fJ, e1, aT, e2, dZ, iZ, He, e3, cO, d6, aF]
    rw [this]; exact ⟨rfl, aR.refl _ _⟩
end Go.Proofs.Ytgpimhlgaokobaa
namespace Go.Pu
open Go Go.En
def cc : List (Nat × Nat) -> List anV
 | [] => []
 | e :: r => .int .i64 (e.1 : Nat) :: .int .i64 (e.2 : Nat) :: cc r
theorem Ls : ∀ L : List (Nat × Nat), (cc L).length = 2 * L.length
 | [] => rfl
 | e :: r => by rw [cc, aiP, aiP, Ls r, aiP]; omega
theorem Xv : ∀ n : Nat, Ai n [Value.int .i64 0, Value.int .i64 0] = cc (List.replicate n (0, 0))
 | 0 => rfl
 | n + 1 => by
   have := Xv n
   unfold Ai at *
   rw [ajQ, amB, this, ajQ, cc] <;> rfl
theorem XB : ∀ {L : List (Nat × Nat)} {i : Nat} (h : i < L.length), ((cc L).drop (i * 2)).take 2 = [.int .i64 (L[i].1 : Nat), .int .i64 (L[i].2 : Nat)]
 | [], i, h => by simp at h
 | e :: r, 0, h => rfl
 | e :: r, i + 1, h => by
   have := XB (L := r) (i := i) (by simpa using h)
   rw [cc, show (i + 1) * 2 = i * 2 + 1 + 1 from by omega, alV, alV, anF]
   exact this
theorem ZA : ∀ {L : List (Nat × Nat)} {i : Nat} (e : Nat × Nat), i < L.length -> ((cc L).set (i * 2) (.int .i64 (e.1 : Nat))).set (i * 2 + 1) (.int .i64 (e.2 : Nat)) = cc (L.set i e)
 | [], i, e, h => by simp at h
 | x :: r, 0, e, h => rfl
 | x :: r, i + 1, e, h => by
   have := ZA (L := r) (i := i) e (by simpa using h)
   rw [cc, show (i + 1) * 2 = i * 2 + 1 + 1 from by omega, aiF, aiF, aiF, aiF, this, aiF, cc]
def pK (l : List Nat) (d w i : Nat) : List (Nat × Nat) := (List.range l.length).map fun s => if l.getD s 0 < w ∨ (l.getD s 0 = w /\ s < i) then A5 l d s else (0, 0)
def gL (l : List Nat) (d : Nat) : List (Nat × Nat) := (List.range l.length).map (A5 l d)
theorem fX (l : List Nat) (d w i : Nat) : (pK l d w i).length = l.length := by simp [pK]
theorem qD (l : List Nat) (d : Nat) : (gL l d).length = l.length := by simp [gL]
theorem Nb {l : List Nat} {d s : Nat} (h : s < l.length) : (gL l d)[s]? = some (A5 l d s) := by
 unfold gL; rw [ajA, akD h] <;> rfl
theorem lY {l : List Nat} {d w i s : Nat} (h : s < l.length) : (pK l d w i)[s]? = some (if l.getD s 0 < w ∨ (l.getD s 0 = w /\ s < i) then A5 l d s else (0, 0)) := by
 unfold pK; rw [ajA, akD h] <;> rfl
theorem S7 (l : List Nat) (d : Nat) : pK l d 1 0 = List.replicate l.length (0, 0) := by
 apply akQ
 intro s
 rcases aiS s l.length with h | h
 .rw [lY h, alU, if_pos h]
  congr 1
  split
  .rename_i hh
   unfold A5
   rw [if_pos (by omega)]
  .rfl
 .rw [aiO (by rw [fX]; exact h), aiO (by simpa using h)]
theorem T7 {l : List Nat} {d w : Nat} : pK l d w l.length = pK l d (w + 1) 0 := by
 apply akQ
 intro s
 rcases aiS s l.length with h | h
 .rw [lY h, lY h]
  congr 1
  by_cases hh : l.getD s 0 < w + 1
  .rw [if_pos (by omega), if_pos (by omega)]
  .rw [if_neg (by omega), if_neg (by omega)]
 .rw [aiO (by rw [fX]; exact h), aiO (by rw [fX]; exact h)]
theorem Vy {l : List Nat} {d w : Nat} (hall : ∀ x ∈ l, x <= d) (hw : d < w) : pK l d w 0 = gL l d := by
 apply akQ
 intro s
 rcases aiS s l.length with h | h
 .rw [lY h, Nb h, if_pos]
  have := hall _ (vE h)
  omega
 .rw [aiO (by rw [fX]; exact h), aiO (by rw [qD]; exact h)]
theorem Up {l : List Nat} {d w i : Nat} (h : i < l.length) (hw : l.getD i 0 ≠ w) : pK l d w (i + 1) = pK l d w i := by
 apply akQ
 intro s
 rcases aiS s l.length with hs | hs
 .rw [lY hs, lY hs]
  congr 1
  by_cases hsi : s = i
  .subst hsi
   by_cases h1 : l.getD s 0 < w
   .rw [if_pos (by omega), if_pos (by omega)]
   .rw [if_neg (by omega), if_neg (by omega)]
  .by_cases h1 : l.getD s 0 < w ∨ (l.getD s 0 = w /\ s < i)
   .rw [if_pos (by omega), if_pos h1]
   .rw [if_neg (by omega), if_neg h1]
 .rw [aiO (by rw [fX]; exact hs), aiO (by rw [fX]; exact hs)]
theorem Vi {l : List Nat} {d w i : Nat} (h : i < l.length) (hw : l.getD i 0 = w) : (pK l d w i).set i (A5 l d i) = pK l d w (i + 1) := by
 apply akQ
 intro s
 rw [List.getElem?_set]
 rcases aiS s l.length with hs | hs
 .by_cases hsi : i = s
  .subst hsi
   rw [if_pos rfl, if_pos (by rw [fX]; exact h), lY (i := i + 1) hs, if_pos (by omega)]
  .rw [if_neg hsi, lY (i := i) hs, lY (i := i + 1) hs]
   congr 1
   by_cases h1 : l.getD s 0 < w ∨ (l.getD s 0 = w /\ s < i)
   .rw [if_pos h1, if_pos (by omega)]
   .rw [if_neg h1, if_neg (by omega)]
 .rw [if_neg (by omega), aiO (by rw [fX]; exact hs), aiO (by rw [fX]; exact hs)]
def B4 (l : List Nat) (w i : Nat) : Nat := nX l w + (l.take i).count w * 2 ^ (w - 1)
theorem WQ (l : List Nat) : B4 l 1 0 = 0 := by unfold B4; rw [RM]; simp
theorem Tj {l : List Nat} {w : Nat} (h : 1 <= w) : B4 l w l.length = B4 l (w + 1) 0 := by
 unfold B4
 rw [amG, Fx l w h]; simp
theorem TG {l : List Nat} {w i : Nat} (h : i < l.length) : B4 l w (i + 1) = B4 l w i + (if l.getD i 0 = w then 2 ^ (w - 1) else 0) := by
 have hg : l.getD i 0 = l[i] := by rw [aiJ, aiH h] <;> rfl
 unfold B4
 rw [alD, aiH h, alS, hg]
 simp only [Option.toList, List.count_singleton]
 by_cases hw : l[i] = w
 .subst hw; simp [ajR]; omega
 .rw [if_neg hw]
  have : (l[i] == w) = false := by simpa using hw
  rw [this]; simp
theorem XG {l : List Nat} {w i : Nat} (h : l.getD i 0 = w) : B4 l w i = EW l i := by unfold B4 EW; rw [h]
theorem acG {l : List Nat} {d w i : Nat} (hs : bN l = 2 ^ d) (hall : ∀ x ∈ l, x <= d) (h1 : 1 <= w) (hw : w <= d) : B4 l w i <= 2 ^ d := by
 have h2 : B4 l w i <= nX l (w + 1) := by
  rw [Fx l w h1]
  unfold B4
  have hc : (l.take i).count w <= l.count w := (List.take_sublist _ _).count_le _
  have := ajG (2 ^ (w - 1)) hc
  omega
 have h3 := KO (l := l) (a := w + 1) (b := d + 1) (by omega) (by omega)
 rw [Ns hall, hs] at h3
 omega
end Go.Pu
namespace Go.Proofs.Ytgpimhlgaokobaa
open Go Go.En Go.Pu
set_option maxRecDepth 4000
theorem Xm {l : List UInt8} {i : Nat} (h : i < l.length) : (aU l).getD i 0 = l[i].toNat := by rw [aiJ, VH h] <;> rfl
theorem Uw {v : anV} {l : List UInt8} {d : Nat} {w : anU} (h : Bs w v l) (hd : dD (aU l) = d) (hd0 : d ≠ 0) :
 aP pg kD #[v] w (fun r w' => ∃ b, r = .tuple #[.slice (some ⟨b, 0, none⟩) l.length l.length, .int .i64 0] /\ w.heap.size <= b /\ cL w' b (cc (gL (aU l) d)) /\ aR w w' dH) := by
 refine Dt ?_
 obtain ⟨hall, hd11, hl2, hl256, hlast, hsum⟩ := pY hd hd0
 have hnl := cT l
 obtain ⟨b, off, c, rfl, hc, hcell⟩ := El h (by omega)
 unfold Gh rH rQ
 refine (Rx h (by omega)).mono ?_
 rintro r w1 ⟨rfl, rfl⟩
 rw [hd]
 have n1 : ((d : Int) == 0) = false := beq_eq_false_iff_ne.2 (by omega)
 simp (disch := omega) only [aD, dV, n1, aN, aA, aE]
 refine L5 (by omega) (by omega) fun w2 o2 x2 s2 => ?_
 rw [aiB] at o2 ⊢
 rw [Xv, <- hnl, <- S7 _ d] at o2
 generalize hpb : w1.heap.size = pb at *
 have hp2 : 2 ^ d <= 2 ^ 11 := aiK (by omega) hd11
 unfold AA yD zX Al zF
 refine cK.rule (fun m (t : anV × anV) w' => ∃ q : Nat, m = d + 1 - q /\ t = (.int .i64 (B4 (aU l) q 0 : Nat), .int .i64 q) /\ 1 <= q /\ q <= d + 1 /\ cL w' pb (cc (pK (aU l) d q 0)) /\ aR w2 w' (fun y => y = pb)) d
  ⟨1, by omega, by rw [WQ] <;> rfl, by omega, by omega, o2, aR.refl _ _⟩ ?_
 rintro m t w3 ⟨q, rfl, rfl, hq1, hqd, o3, x3⟩
 unfold qV Aq
 by_cases hq : q <= d
 .have d1 : decide ((q : Int) <= (d : Int)) = true := by simp; omega
  simp (disch := omega) only [aD, Y0, d1, aA, aF]
  unfold zQ zZ G6 A6
  simp (disch := omega) only [aD, aN, aA]
  unfold A7 Bt
  refine cK.rule (fun m (t : anV × anV) w' => ∃ i : Nat, m = l.length - i /\ t = (.int .i64 (B4 (aU l) q i : Nat), .int .i64 i) /\ i <= l.length /\ cL w' pb (cc (pK (aU l) d q i)) /\ aR w2 w' (fun y => y = pb)) l.length
   ⟨0, rfl, rfl, by omega, o3, x3⟩ ?_
  rintro m t w4 ⟨i, rfl, rfl, hi, o4, x4⟩
  unfold tV A0
  by_cases hlt : i < l.length
  .have d2 : decide ((i : Int) < (l.length : Int)) = true := by simp; omega
   have h4 : Bs w4 _ l := (h.ext x2 (aW _)).ext x4 (fun hb => (h.old) (Pq hb fun y hy => by omega))
   obtain ⟨_, _, _, he, _, hcell4⟩ := El h4 (by omega)
   cases he
   have g1 := hcell4 i hlt
   have hgd := Xm hlt
   have hstep := TG (l := aU l) (w := q) (i := i) (by omega)
   have hskip := Up (l := aU l) (d := d) (w := q) (i := i) (by omega)
   have hset := Vi (l := aU l) (d := d) (w := q) (i := i) (by omega)
   have hof := XG (l := aU l) (w := q) (i := i)
   have hle := acG (l := aU l) (d := d) (w := q) (i := i) hsum hall hq1 hq
   have hco : A5 (aU l) d i = if (aU l).getD i 0 = 0 then (0, 0) else (d + 1 - (aU l).getD i 0, EW (aU l) i / 2 ^ ((aU l).getD i 0 - 1)) := rfl
   rw [hgd] at hskip hset hstep hof hco
   have hx : (l[i]).toNat < 256 := ajV _
   generalize (l[i]).toNat = x at *
   unfold tS
   by_cases hxq : x = q
   .subst hxq
    have n2 : ((x : Int) != (x : Int)) = false := by simp
    have e1 : (d : Int) + 1 - (x : Int) = ((d + 1 - x : Nat) : Int) := by omega
    have e2 : (x : Int) - 1 = ((x - 1 : Nat) : Int) := by omega
    rw [if_neg (by omega), <- hof rfl] at hco
    rw [if_pos rfl] at hstep
    have hset := hset rfl
    rw [hco] at hset
    have e3 : ((B4 (aU l) x i : Nat) : Int).fdiv (2 ^ (min (x - 1) IntKind.i64.bits)) = ((B4 (aU l) x i / 2 ^ (x - 1) : Nat) : Int) := by
     rw [show min (x - 1) IntKind.i64.bits = x - 1 from ajY (by have : IntKind.i64.bits = 64 := rfl
                                                                omega), alK _ (Int.pow_nonneg (by omega))]
     simp
    have hdl := alG (B4 (aU l) x i) (2 ^ (x - 1))
    have hsh := Yt (n := x - 1) (by omega)
    have hpx : 2 ^ (x - 1) <= 2 ^ 11 := aiK (by omega) (by omega)
    have e4 : ((B4 (aU l) x i : Nat) : Int) + ((2 ^ (x - 1) : Nat) : Int) = ((B4 (aU l) x (i + 1) : Nat) : Int) := by omega
    generalize B4 (aU l) x i = at' at *
    generalize at' / 2 ^ (x - 1) = cd at *
    simp (disch := omega) only [aD, aY, d2, cJ, aiB, bQ, aT, aA, fJ, e2, jD, aiC, kM, uT, e3, e1, uP, dY, g1, aH, gH, cO, n2, aE, aF]
    refine BD o4 rfl (by simp [one]) (by rw [Ls, fX]; simp; omega) fun w5 o5 x5 s5 => ?_
    simp only [cG] at o5
    have hcs := ZA (L := pK (aU l) d x i) (i := i) (d + 1 - x, cd) (by rw [fX]; omega)
    simp only at hcs
    rw [hcs, hset] at o5
    simp (disch := omega) only [hsh, e4]
    exact ⟨l.length - (i + 1), by omega, i + 1, rfl, rfl, by omega, o5, x4.trans x5 fun _ _ h => h⟩
   .have n2 : ((x : Int) != (q : Int)) = true := by simp; omega
    rw [if_neg hxq, akN] at hstep
    have hskip := hskip hxq
    simp (disch := omega) only [aD, aY, d2, cJ, aiB, bQ, aT, aA, fJ, jD, aiC, kM, uT, uP, dY, g1, aH, gH, cO, n2, aF]
    exact ⟨l.length - (i + 1), by omega, i + 1, rfl, by rw [hstep] <;> rfl, by omega, by rw [hskip]; exact o4, x4⟩
  .have d2 : decide ((i : Int) < (l.length : Int)) = false := by simp; omega
   obtain rfl : i = l.length := by omega
   have e1 := Tj (l := aU l) (w := q) hq1
   rw [hnl] at e1
   have e2 := T7 (l := aU l) (d := d) (w := q)
   rw [hnl] at e2
   rw [e2] at o4
   unfold tJ
   simp (disch := omega) only [aD, aY, d2, bQ, aT, fJ, aA, kM, uT, uP, aE]
   exact ⟨d + 1 - (q + 1), by omega, q + 1, rfl, by rw [e1] <;> rfl, by omega, by omega, o4, x4⟩
 .have d1 : decide ((q : Int) <= (d : Int)) = false := by simp; omega
  rw [Vy hall (by omega)] at o3
  unfold tK
  simp (disch := omega) only [aD, Y0, d1, aA, aE]
  exact ⟨pb, rfl, by omega, o3, x2.trans x3 fun _ hb h => by omega⟩
theorem P5 {v : anV} {l : List UInt8} {w : anU} (h : Bs w v l) (hl : l.length <= 100000) (hd : dD (aU l) = 0) :
 aP pg kD #[v] w (fun r w' => r = .tuple #[.slice none 0 0, .int .i64 1] /\ w' = w) := by
 refine Dt ?_
 unfold Gh rH rQ
 refine (Rx h hl).mono ?_
 rintro r w1 ⟨rfl, rfl⟩
 rw [hd]
 have n1 : (((0 : Nat) : Int) == 0) = true := rfl
 simp (disch := omega) only [aD, dV, n1, true_and, aA, aF]
end Go.Proofs.Ytgpimhlgaokobaa
namespace Go.Pu
theorem To {log : Nat} {ps : List Int} {i : Nat} (h : i < 2 ^ log) : (qR log ps)[i]? = some (MI log ps (jL 0 log ps) i) := by
 unfold qR
 rw [ajA, akD h] <;> rfl
end Go.Pu
namespace Go.Pu
open Go Go.En
def JA (k : Nat) : List Nat := if k = 0 then [0, 1, 2, 3, 4, 5, 6, 7, 8, 9, 10, 11, 12, 13, 14, 15, 16, 18, 20, 22, 24, 28, 32, 40, 48, 64, 128, 256, 512, 1024, 2048, 4096, 8192, 16384, 32768, 65536]
 else if k = 1 then [1, 2, 4, 8, 16, 32, 64, 128, 256, 512, 1024, 2048, 4096, 8192, 16384, 32768, 65536, 131072, 262144, 524288, 1048576, 2097152, 4194304, 8388608, 16777216, 33554432, 67108864, 134217728, 268435456, 536870912, 1073741824, 2147483648]
 else [3, 4, 5, 6, 7, 8, 9, 10, 11, 12, 13, 14, 15, 16, 17, 18, 19, 20, 21, 22, 23, 24, 25, 26, 27, 28, 29, 30, 31, 32, 33, 34, 35, 37, 39, 41, 43, 47, 51, 59, 67, 83, 99, 131, 259, 515, 1027, 2051, 4099, 8195, 16387, 32771, 65539]
def RI (k : Nat) : List Nat := if k = 0 then [0, 0, 0, 0, 0, 0, 0, 0, 0, 0, 0, 0, 0, 0, 0, 0, 1, 1, 1, 1, 2, 2, 3, 3, 4, 6, 7, 8, 9, 10, 11, 12, 13, 14, 15, 16]
 else if k = 1 then List.range 32
 else [0, 0, 0, 0, 0, 0, 0, 0, 0, 0, 0, 0, 0, 0, 0, 0, 0, 0, 0, 0, 0, 0, 0, 0, 0, 0, 0, 0, 0, 0, 0, 0, 1, 1, 1, 1, 2, 2, 3, 3, 4, 4, 5, 7, 8, 9, 10, 11, 12, 13, 14, 15, 16]
abbrev Rk (k : Nat) : Nat := (JA k).length
theorem Yz {k : Nat} (h : k < 3) (c : Nat) (hc : c + 1 < Rk k) : (JA k).getD (c + 1) 0 = (JA k).getD c 0 + 2 ^ (RI k).getD c 0 := by
 have h0 : ∀ c, c < 53 -> c + 1 < Rk 0 -> (JA 0).getD (c + 1) 0 = (JA 0).getD c 0 + 2 ^ (RI 0).getD c 0 := by decide +kernel
 have h1 : ∀ c, c < 53 -> c + 1 < Rk 1 -> (JA 1).getD (c + 1) 0 = (JA 1).getD c 0 + 2 ^ (RI 1).getD c 0 := by decide +kernel
 have h2 : ∀ c, c < 53 -> c + 1 < Rk 2 -> (JA 2).getD (c + 1) 0 = (JA 2).getD c 0 + 2 ^ (RI 2).getD c 0 := by decide +kernel
 have hl : Rk k <= 53 := by rcases (show k = 0 ∨ k = 1 ∨ k = 2 by omega) with rfl | rfl | rfl <;> decide
 rcases (show k = 0 ∨ k = 1 ∨ k = 2 by omega) with rfl | rfl | rfl
 .exact h0 c (by omega) hc
 .exact h1 c (by omega) hc
 .exact h2 c (by omega) hc
theorem ahH {k : Nat} (h : k < 3) (c : Nat) (hc : c < Rk k) : (JA k).getD c 0 + 2 ^ (RI k).getD c 0 <= 4294967296 := by
 have h0 : ∀ c, c < 53 -> c < Rk 0 -> (JA 0).getD c 0 + 2 ^ (RI 0).getD c 0 <= 4294967296 := by decide +kernel
 have h1 : ∀ c, c < 53 -> c < Rk 1 -> (JA 1).getD c 0 + 2 ^ (RI 1).getD c 0 <= 4294967296 := by decide +kernel
 have h2 : ∀ c, c < 53 -> c < Rk 2 -> (JA 2).getD c 0 + 2 ^ (RI 2).getD c 0 <= 4294967296 := by decide +kernel
 have hl : Rk k <= 53 := by rcases (show k = 0 ∨ k = 1 ∨ k = 2 by omega) with rfl | rfl | rfl <;> decide
 rcases (show k = 0 ∨ k = 1 ∨ k = 2 by omega) with rfl | rfl | rfl
 .exact h0 c (by omega) hc
 .exact h1 c (by omega) hc
 .exact h2 c (by omega) hc
def UL (k v c : Nat) : Prop := c < Rk k /\ (JA k).getD c 0 <= v /\ v < (JA k).getD c 0 + 2 ^ (RI k).getD c 0
theorem Qc {k : Nat} (h : k < 3) : ∀ {c d : Nat}, c < d -> d < Rk k -> (JA k).getD c 0 + 2 ^ (RI k).getD c 0 <= (JA k).getD d 0
 | c, d + 1, hcd, hd => by
   have e := Yz h d (by omega)
   rcases aiS c d with h' | h'
   .have := Qc h h' (by omega)
    have := aiY ((RI k).getD d 0)
    omega
   .have : c = d := by omega
    subst this; omega
theorem UL.one {k v c d : Nat} (hk : k < 3) (hc : UL k v c) (hd : UL k v d) : c = d := by
 rcases anC c d with h | h | h
 .have := Qc hk h hd.1; have := hc.2.2; have := hd.2.1; omega
 .exact h
 .have := Qc hk h hc.1; have := hd.2.2; have := hc.2.1; omega
theorem UL.lt {k v c : Nat} (hk : k < 3) (hc : UL k v c) : v < 4294967296 := by
 have := ahH hk c hc.1; have := hc.2.2; omega
def Py (B : List Bool) (left : Int) (n : Nat) : Nat := mT (B.take left.toNat) n
theorem adR {T B X u : List Bool} {x n : Nat} (hT : T.take (X ++ u).length = X ++ u) (hu : u = rF x n) (hx : x < 2 ^ n) : Py T ((X ++ u).length : Nat) n = x /\ (((X ++ u).length : Nat) : Int) - n = ((X.length : Nat) : Int) /\ T.take X.length = X := by
 subst hu
 have hl : (X ++ rF x n).length = X.length + n := by rw [aiE, zD]
 refine ⟨?_, by omega, ?_⟩
 .unfold Py
  rw [aiB, hT, WX hx]
 .have := congrArg (List.take X.length) hT
  rw [List.take_take, ajY (by omega), alT (aiM _), akP (aiM _)] at this
  exact this
def iG (C : List (Nat × Nat)) : Nat := C.foldl (fun m e => max m e.1) 0
theorem U3 : ∀ (C : List (Nat × Nat)) (m : Nat), m <= C.foldl (fun m e => max m e.1) m /\ ∀ e ∈ C, e.1 <= C.foldl (fun m e => max m e.1) m
 | [], m => ⟨aiM _, fun e h => by cases h⟩
 | x :: C, m => by
   obtain ⟨h1, h2⟩ := U3 C (max m x.1)
   rw [List.foldl_cons]
   refine ⟨by omega, fun e he => ?_⟩
   rcases ajW.1 he with rfl | he
   .omega
   .exact h2 e he
theorem P7 {C : List (Nat × Nat)} {e : Nat × Nat} (h : e ∈ C) : e.1 <= iG C := (U3 C 0).2 e h
theorem Z6 (C : List (Nat × Nat)) (e : Nat × Nat) : iG (C ++ [e]) = max (iG C) e.1 := by
 unfold iG; rw [List.foldl_append] <;> rfl
theorem Zu {d : Nat} : ∀ {C : List (Nat × Nat)} {m : Nat}, m <= d -> (∀ e ∈ C, e.1 <= d) -> C.foldl (fun m e => max m e.1) m <= d
 | [], m, hm, _ => hm
 | x :: C, m, hm, h => by
   rw [List.foldl_cons]
   exact Zu (by have := h x (alN ..); omega) fun e he => h e (aiT _ he)
def Co (C : List (Nat × Nat)) (m x s : Nat) : Bool := match C[s]? with
 | some e => decide (0 < e.1) && decide (x / 2 ^ (m - e.1) = e.2)
 | none => false
theorem JG {C : List (Nat × Nat)} {m x s : Nat} : Co C m x s = true ↔ ∃ b c, C[s]? = some (b, c) /\ 0 < b /\ x / 2 ^ (m - b) = c := by
 unfold Co
 cases h : C[s]? with
 | none => simp
 | some e =>
   obtain ⟨b, c⟩ := e
   simp only [aiN, decide_eq_true_eq]
   constructor
   .rintro ⟨h1, h2⟩; exact ⟨b, c, rfl, h1, h2⟩
   .rintro ⟨b', c', h1, h2, h3⟩; cases h1; exact ⟨h2, h3⟩
structure Q8 (C : List (Nat × Nat)) (m : Nat) : Prop where
 le : ∀ (s b c : Nat), C[s]? = some (b, c) -> b <= m /\ (0 < b -> c < 2 ^ b)
 ex : ∀ x, x < 2 ^ m -> ∃ s, Co C m x s = true
 un : ∀ x s t, x < 2 ^ m -> Co C m x s = true -> Co C m x t = true -> s = t
 pos : 0 < m
theorem XY {l : List Nat} {w y : Nat} : ∀ i, i <= l.length -> nX l w <= y -> y < B4 l w i -> ∃ s, s < l.length /\ l.getD s 0 = w /\ EW l s <= y /\ y < EW l s + 2 ^ (w - 1)
 | 0, _, h, hy => by unfold B4 at hy; simp at hy; omega
 | i + 1, hi, h, hy => by
   rcases aiS y (B4 l w i) with h1 | h1
   .exact XY i (by omega) h h1
   .rw [TG (by omega)] at hy
    by_cases hw : l.getD i 0 = w
    .rw [if_pos hw] at hy
     rw [XG hw] at hy h1
     exact ⟨i, by omega, hw, h1, hy⟩
    .rw [if_neg hw] at hy; omega
theorem agB {l : List Nat} {y : Nat} : ∀ w, y < nX l (w + 1) -> ∃ s, s < l.length /\ l.getD s 0 ≠ 0 /\ EW l s <= y /\ y < EW l s + 2 ^ (l.getD s 0 - 1)
 | 0, hy => by rw [RM] at hy; omega
 | w + 1, hy => by
   rcases aiS y (nX l (w + 1)) with h1 | h1
   .exact agB w h1
   .have h2 : y < B4 l (w + 1) l.length := by rw [Tj (by omega)]; unfold B4; simpa using hy
    obtain ⟨s, a, b, c, d⟩ := XY l.length (aiM _) h1 h2
    exact ⟨s, a, by omega, c, by rw [b]; exact d⟩
theorem adQ {l : List Nat} {s d y : Nat} (h : s < l.length) (h0 : l.getD s 0 ≠ 0) (hs : bN l = 2 ^ d) (hd : l.getD s 0 <= d) : (EW l s <= y /\ y < EW l s + 2 ^ (l.getD s 0 - 1)) ↔ y / 2 ^ (l.getD s 0 - 1) = EW l s / 2 ^ (l.getD s 0 - 1) := by
 obtain ⟨q, hq⟩ := ZS h h0 hs hd
 have hp := aiY (l.getD s 0 - 1)
 rw [hq, anB _ hp]
 generalize 2 ^ (l.getD s 0 - 1) = p at *
 constructor
 .rintro ⟨h1, h2⟩
  rw [Nat.div_eq_iff hp, ajD]
  omega
 .intro h
  rw [Nat.div_eq_iff hp, ajD q] at h
  omega
theorem Ko {l : List Nat} {d s b c : Nat} (h : (gL l d)[s]? = some (b, c)) : s < l.length /\ A5 l d s = (b, c) := by
 have hs : s < l.length := by
  rcases aiS s l.length with h' | h'
  .exact h'
  .rw [aiO (by rw [qD]; exact h')] at h; cases h
 rw [Nb hs] at h
 exact ⟨hs, ajE h⟩
theorem R1 {l : List Nat} {d : Nat} (hd : dD l = d) (hd0 : d ≠ 0) : Q8 (gL l d) (iG (gL l d)) /\ iG (gL l d) <= d := by
 obtain ⟨hall, hd11, hl2, hl256, hlast, hsum⟩ := pY hd hd0
 have hle : iG (gL l d) <= d := Zu (amE _) fun e he => by
  obtain ⟨s, hs⟩ := List.getElem?_of_mem he
  obtain ⟨hsl, hc⟩ := Ko (b := e.1) (c := e.2) hs
  unfold A5 at hc
  split at hc
  .have := (alR hc).1; omega
  .have := (alR hc).1; omega
 have key : ∀ x s, Co (gL l d) (iG (gL l d)) x s = true ↔ s < l.length /\ l.getD s 0 ≠ 0 /\ (x * 2 ^ (d - iG (gL l d))) / 2 ^ (l.getD s 0 - 1) = EW l s / 2 ^ (l.getD s 0 - 1) := by
  intro x s
  rw [JG]
  have hx : ∀ {b : Nat}, b <= iG (gL l d) -> 0 < b -> b = d + 1 - l.getD s 0 -> l.getD s 0 <= d -> l.getD s 0 ≠ 0 -> (x * 2 ^ (d - iG (gL l d))) / 2 ^ (l.getD s 0 - 1) = x / 2 ^ (iG (gL l d) - b) := by
   intro b h1 h2 h3 h4 h5
   rw [show l.getD s 0 - 1 = (d - iG (gL l d)) + (iG (gL l d) - b) from by omega, akC, <- amN, Nat.mul_div_cancel _ (aiY _)]
  constructor
  .rintro ⟨b, c, h1, h2, h3⟩
   have hm := P7 (akH h1)
   obtain ⟨hs, hc⟩ := Ko h1
   unfold A5 at hc
   by_cases h0 : l.getD s 0 = 0
   .rw [if_pos h0] at hc; cases hc; omega
   .rw [if_neg h0] at hc
    obtain ⟨hb, hcc⟩ := alR hc
    have hws := hall _ (vE hs)
    exact ⟨hs, h0, by rw [hx hm h2 hb.symm hws h0, h3, hcc]⟩
  .rintro ⟨hs, h0, h⟩
   have hws := hall _ (vE hs)
   have hg := Nb (d := d) hs
   have hm := P7 (akH hg)
   have hc : A5 l d s = (d + 1 - l.getD s 0, EW l s / 2 ^ (l.getD s 0 - 1)) := by unfold A5; rw [if_neg h0]
   rw [hc] at hg hm
   exact ⟨_, _, hg, by omega, by rw [<- hx hm (by omega) rfl hws h0, h]⟩
 have hyx : ∀ x, x < 2 ^ iG (gL l d) -> x * 2 ^ (d - iG (gL l d)) < 2 ^ d := fun x hx => by
  have := Nat.mul_lt_mul_of_pos_right hx (aiY (d - iG (gL l d)))
  rwa [<- akC, show iG (gL l d) + (d - iG (gL l d)) = d from by omega] at this
 have ex : ∀ x, x < 2 ^ iG (gL l d) -> ∃ s, Co (gL l d) (iG (gL l d)) x s = true := fun x hx => by
  have h1 := hyx x hx
  rw [<- hsum, <- Ns hall] at h1
  obtain ⟨s, a, b, c, e⟩ := agB d h1
  exact ⟨s, (key x s).2 ⟨a, b, (adQ a b hsum (hall _ (vE a))).1 ⟨c, e⟩⟩⟩
 refine ⟨⟨fun s b c h => ?_, ex, fun x s t hx h1 h2 => ?_, ?_⟩, hle⟩
 .have hm := P7 (akH h)
  refine ⟨hm, fun hb => ?_⟩
  obtain ⟨hs, hc⟩ := Ko h
  unfold A5 at hc
  by_cases h0 : l.getD s 0 = 0
  .rw [if_pos h0] at hc; cases hc; omega
  .rw [if_neg h0] at hc
   obtain ⟨hb', hcc⟩ := alR hc
   rw [<- hb', <- hcc]
   exact Yq hs h0 hsum hall
 .obtain ⟨a1, b1, c1⟩ := (key x s).1 h1
  obtain ⟨a2, b2, c2⟩ := (key x t).1 h2
  have dv : ∀ {y p q : Nat}, p <= q -> y / 2 ^ q = y / 2 ^ p / 2 ^ (q - p) := fun {y p q} h => by
   rw [amN, <- akC, show p + (q - p) = q from by omega]
  refine Decidable.byContradiction fun hne => ?_
  rcases Nat.le_total (l.getD t 0) (l.getD s 0) with hle' | hle'
  .refine TP a1 a2 hne b1 b2 hle' hsum hall ?_
   rw [<- c2, <- c1, dv (y := x * 2 ^ (d - iG (gL l d))) (p := l.getD t 0 - 1) (q := l.getD s 0 - 1) (by omega)]
   congr 2; omega
  .refine TP a2 a1 (fun h => hne h.symm) b2 b1 hle' hsum hall ?_
   rw [<- c2, <- c1, dv (y := x * 2 ^ (d - iG (gL l d))) (p := l.getD s 0 - 1) (q := l.getD t 0 - 1) (by omega)]
   congr 2; omega
 .obtain ⟨s, hs⟩ := ex 0 (aiY _)
  obtain ⟨b, c, h1, h2, _⟩ := JG.1 hs
  have := P7 (akH h1)
  omega
def GQ (C : List (Nat × Nat)) (m x : Nat) : Nat := ((List.range C.length).find? (Co C m x)).getD 0
def bitsOf (C : List (Nat × Nat)) (s : Nat) : Nat := (C.getD s (0, 0)).1
theorem RC {C : List (Nat × Nat)} {m x s : Nat} (h : Co C m x s = true) : s < C.length := by
 obtain ⟨b, c, h1, _⟩ := JG.1 h
 exact (akI.1 h1).1
theorem U7 {C : List (Nat × Nat)} {m x s : Nat} (hF : Q8 C m) (hx : x < 2 ^ m) (h : Co C m x s = true) : GQ C m x = s := by
 unfold GQ
 cases hf : (List.range C.length).find? (Co C m x) with
 | none => exact absurd h (List.find?_eq_none.1 hf s (ajL.2 (RC h)))
 | some t => exact hF.un x t s hx (List.find?_some hf) h
theorem Td {C : List (Nat × Nat)} {m x : Nat} (hF : Q8 C m) (hx : x < 2 ^ m) : Co C m x (GQ C m x) = true := by
 obtain ⟨s, hs⟩ := hF.ex x hx
 rw [U7 hF hx hs]; exact hs
theorem Tx {C : List (Nat × Nat)} {s b c : Nat} (h : C[s]? = some (b, c)) : bitsOf C s = b := by
 unfold bitsOf; rw [aiJ, h] <;> rfl
def AD (C : List (Nat × Nat)) (m : Nat) (B : List Bool) : Nat -> Int -> List Nat × Int
 | 0, left => ([], left)
 | n + 1, left =>
   let s := GQ C m (Py B left m)
   let r := AD C m B n (left - bitsOf C s)
   (s :: r.1, r.2)
theorem KV {C : List (Nat × Nat)} {m : Nat} {B : List Bool} : ∀ {n : Nat} {left : Int}, (AD C m B n left).1.length = n
 | 0, _ => rfl
 | n + 1, left => by rw [AD, aiP, KV]
theorem Nz (B : List Bool) (left : Int) (n : Nat) : Py B left n < 2 ^ n := vD _ _
theorem Xp {B : List Bool} {left : Int} (a b : Nat) (h : left <= B.length) : Py B left (a + b) = Py B left a * 2 ^ b + Py B (left - a) b := by
 unfold Py
 obtain ⟨k, hk⟩ : ∃ k, left.toNat = k := ⟨_, rfl⟩
 have hkB : k <= B.length := by omega
 have e2 : (left - a).toNat = k - a := by omega
 rw [hk, e2]
 have l1 : (B.take k).length = k := by rw [aiR]; omega
 have l2 : (B.take (k - a)).length = k - a := by rw [aiR]; omega
 unfold mT
 rw [l1, l2]
 rcases aiS a k with h1 | h1
 .have hs : B.take k = B.take (k - a) ++ (B.drop (k - a)).take a := by
   rw [<- List.take_add]; congr 1; omega
  have m1 : min a k = a := by omega
  have hT : (B.take k).drop (k - a) = (B.drop (k - a)).take a := by
   rw [List.drop_take, show k - (k - a) = a from by omega]
  rw [m1, alY, Nat.pow_zero, alA, hT]
  obtain ⟨j, hj⟩ : ∃ j, j = min b (k - a) := ⟨_, rfl⟩
  have m2 : min (a + b) k = a + j := by omega
  rw [m2, <- hj]
  have hD : (B.take k).drop (k - (a + j)) = (B.take (k - a)).drop (k - a - j) ++ (B.drop (k - a)).take a := by
   rw [hs, List.drop_append_of_le_length (by rw [l2]; omega), show k - (a + j) = k - a - j from by omega]
  rw [hD, KE, aiV, l2, show k - a - (k - a - j) = j from by omega, show a + b - (a + j) = b - j from by omega, ajR]
  rw [Nat.add_comm]
  congr 1
  rw [anI, ajD (tN _) (2 ^ (b - j)), <- anI, <- akC, ajD, show j + (b - j) = b from by omega]
 .have m1 : min a k = k := by omega
  have m2 : min (a + b) k = k := by omega
  have m3 : min b (k - a) = 0 := by omega
  rw [m1, m2, m3, alY, show k - a = 0 from by omega]
  simp only [aiW, aiU, Nat.sub_zero, List.drop_nil, tN, anP, akN]
  rw [anI, <- akC, show a - k + b = a + b - k from by omega]
theorem XT {B : List Bool} {left : Int} {a m : Nat} (h : left <= B.length) (ha : a <= m) : Py B left m / 2 ^ (m - a) = Py B left a /\ Py B left m % 2 ^ (m - a) = Py B (left - a) (m - a) := by
 obtain ⟨b, rfl⟩ := Nat.exists_eq_add_of_le ha
 rw [Nat.add_sub_cancel_left, Xp a b h]
 have hlt := Nz B (left - a) b
 constructor
 .rw [ajD, Nat.mul_add_div (aiY b), anL hlt, akN]
 .rw [ajD, Nat.mul_add_mod, ajJ hlt]
def G1 (C : List (Nat × Nat)) : List Nat -> List Bool
 | [] => []
 | s :: r => G1 C r ++ rF (C.getD s (0, 0)).2 (C.getD s (0, 0)).1
theorem jO {C : List (Nat × Nat)} {m : Nat} (h : ∀ s, bitsOf C s <= m) : ∀ l : List Nat, (G1 C l).length <= m * l.length
 | [] => by simp [G1]
 | s :: r => by
   rw [G1, aiE, zD, aiP, amV]
   have := h s
   have := jO h r
   unfold bitsOf at *
   omega
theorem XC {C : List (Nat × Nat)} {m : Nat} {T : List Bool} (hF : Q8 C m) : ∀ {l : List Nat}, (∀ s ∈ l, 0 < bitsOf C s) -> T.take (G1 C l).length = G1 C l -> AD C m T l.length ((G1 C l).length : Nat) = (l, 0)
 | [], _, _ => rfl
 | s :: r, hb, hT => by
   have h0 := hb s (alN ..)
   have hg : C[s]? = some ((C.getD s (0, 0)).1, (C.getD s (0, 0)).2) := by
    rw [aiJ]
    cases h : C[s]? with
    | none => unfold bitsOf at h0; rw [aiJ, h] at h0; simp at h0
    | some e => rfl
   obtain ⟨hle, hfit⟩ := hF.le _ _ _ hg
   have hfit := hfit h0
   obtain ⟨r1, r2, r3⟩ := adR (B := []) hT rfl hfit
   have hTl : ((G1 C (s :: r)).length : Int) <= T.length := by
    have := congrArg List.length hT
    rw [aiR] at this
    omega
   have hd := (XT (a := (C.getD s (0, 0)).1) (m := m) hTl hle).1
   rw [aiP, AD]
   have hlen : (G1 C (s :: r)).length = (G1 C r ++ rF (C.getD s (0, 0)).2 (C.getD s (0, 0)).1).length := rfl
   rw [hlen] at hd ⊢
   rw [r1] at hd
   have hs : GQ C m (Py T (((G1 C r ++ rF (C.getD s (0, 0)).2 (C.getD s (0, 0)).1).length : Nat) : Int) m) = s :=
    U7 hF (Nz _ _ _) (JG.2 ⟨_, _, hg, h0, hd⟩)
   simp only [hs, bitsOf, r2]
   rw [XC hF (fun x hx => hb x (aiT _ hx)) r3]
def fc : List (Nat × Nat) -> List anV
 | [] => []
 | e :: r => .int .u8 (e.1 : Nat) :: .int .i64 (e.2 : Nat) :: fc r
theorem P3 : ∀ L : List (Nat × Nat), (fc L).length = 2 * L.length
 | [] => rfl
 | e :: r => by rw [fc, aiP, aiP, P3 r, aiP]; omega
theorem XA : ∀ n : Nat, Ai n [Value.int .u8 0, Value.int .i64 0] = fc (List.replicate n (0, 0))
 | 0 => rfl
 | n + 1 => by
   have := XA n
   unfold Ai at *
   rw [ajQ, amB, this, ajQ, fc] <;> rfl
theorem XF : ∀ {L : List (Nat × Nat)} {i : Nat} {e : Nat × Nat}, L[i]? = some e -> ((fc L).drop (i * 2)).take 2 = [.int .u8 (e.1 : Nat), .int .i64 (e.2 : Nat)]
 | [], i, e, h => by simp at h
 | e' :: r, 0, e, h => by cases h; rfl
 | e' :: r, i + 1, e, h => by
   have := XF (L := r) (i := i) (e := e) (by simpa using h)
   rw [fc, show (i + 1) * 2 = i * 2 + 1 + 1 from by omega, alV, alV]
   exact this
theorem Zv : ∀ {L : List (Nat × Nat)} {i : Nat} (e : Nat × Nat), i < L.length -> ((fc L).set (i * 2) (.int .u8 (e.1 : Nat))).set (i * 2 + 1) (.int .i64 (e.2 : Nat)) = fc (L.set i e)
 | [], i, e, h => by simp at h
 | x :: r, 0, e, h => rfl
 | x :: r, i + 1, e, h => by
   have := Zv (L := r) (i := i) e (by simpa using h)
   rw [fc, show (i + 1) * 2 = i * 2 + 1 + 1 from by omega, aiF, aiF, aiF, aiF, this, aiF, fc]
def VQ (C : List (Nat × Nat)) (m s x : Nat) : Nat × Nat := match (List.range s).find? (Co C m x) with
 | some t => (t, bitsOf C t)
 | none => (0, 0)
def LF (C : List (Nat × Nat)) (m s : Nat) : List (Nat × Nat) := (List.range (2 ^ m)).map (VQ C m s)
def Sp (C : List (Nat × Nat)) (m s low j : Nat) : List (Nat × Nat) := (List.range (2 ^ m)).map fun x => if low <= x /\ x < low + j then (s, bitsOf C s) else VQ C m s x
theorem VI (C : List (Nat × Nat)) (m s : Nat) : (LF C m s).length = 2 ^ m := by simp [LF]
theorem QJ (C : List (Nat × Nat)) (m s low j : Nat) : (Sp C m s low j).length = 2 ^ m := by simp [Sp]
theorem Z1 {C : List (Nat × Nat)} {m s x : Nat} (h : x < 2 ^ m) : (LF C m s)[x]? = some (VQ C m s x) := by
 unfold LF; rw [ajA, akD h] <;> rfl
theorem YF (C : List (Nat × Nat)) (m : Nat) : LF C m 0 = List.replicate (2 ^ m) (0, 0) := by
 unfold LF
 apply akQ
 intro x
 rcases aiS x (2 ^ m) with h | h
 .rw [ajA, akD h, alU, if_pos h] <;> rfl
 .rw [aiO (by simpa using h), aiO (by simpa using h)]
theorem Ty (C : List (Nat × Nat)) (m s x : Nat) : VQ C m (s + 1) x = match (List.range s).find? (Co C m x) with
 | some t => (t, bitsOf C t)
 | none => if Co C m x s = true then (s, bitsOf C s) else (0, 0) := by
 unfold VQ
 rw [amX, List.find?_append]
 cases (List.range s).find? (Co C m x) with
 | some t => rfl
 | none =>
   cases h : Co C m x s with
   | true => simp [List.find?, h]
   | false => simp [List.find?, h]
theorem X2 {C : List (Nat × Nat)} {m s c : Nat} (h : C[s]? = some (0, c)) : LF C m (s + 1) = LF C m s := by
 unfold LF
 apply ajH
 intro x _
 rw [Ty]
 have hh : Co C m x s = false := by
  unfold Co; rw [h] <;> rfl
 unfold VQ
 cases (List.range s).find? (Co C m x) with
 | some t => rfl
 | none => rw [hh] <;> rfl
theorem YH (C : List (Nat × Nat)) (m s low : Nat) : Sp C m s low 0 = LF C m s := by
 unfold Sp LF
 apply ajH
 intro x _
 rw [if_neg (by omega)]
theorem Z9 {C : List (Nat × Nat)} {m s low j : Nat} (h : low + j < 2 ^ m) : (Sp C m s low j).set (low + j) (s, bitsOf C s) = Sp C m s low (j + 1) := by
 apply akQ
 intro x
 rw [List.getElem?_set]
 unfold Sp
 rcases aiS x (2 ^ m) with hx | hx
 .by_cases he : low + j = x
  .rw [if_pos he, if_pos (by simp; omega), ajA, akD hx]
   simp only [ajS]
   rw [if_pos (by omega)]
  .rw [if_neg he, ajA, akD hx, ajA, akD hx]
   simp only [ajS]
   congr 1
   by_cases hc : low <= x /\ x < low + j
   .rw [if_pos hc, if_pos (by omega)]
   .rw [if_neg hc, if_neg (by omega)]
 .rw [if_neg (by omega), aiO (by simpa using hx), aiO (by simpa using hx)]
theorem TO {C : List (Nat × Nat)} {m s b c x : Nat} (h : C[s]? = some (b, c)) (hb : 0 < b) : Co C m x s = true ↔ c * 2 ^ (m - b) <= x /\ x < c * 2 ^ (m - b) + 2 ^ (m - b) := by
 rw [JG]
 have hp := aiY (m - b)
 constructor
 .rintro ⟨b', c', h1, h2, h3⟩
  rw [h] at h1
  cases h1
  rw [Nat.div_eq_iff hp] at h3
  rw [ajD] at h3
  rw [ajD]
  omega
 .rintro ⟨h1, h2⟩
  refine ⟨b, c, h, hb, ?_⟩
  rw [Nat.div_eq_iff hp, ajD]
  rw [ajD] at h1 h2
  omega
theorem adL {C : List (Nat × Nat)} {m s b c : Nat} (hF : Q8 C m) (h : C[s]? = some (b, c)) (hb : 0 < b) : c * 2 ^ (m - b) + 2 ^ (m - b) <= 2 ^ m := by
 obtain ⟨h1, h2⟩ := hF.le s b c h
 have h2 := h2 hb
 have : (c + 1) * 2 ^ (m - b) <= 2 ^ b * 2 ^ (m - b) := ajG _ h2
 rw [<- akC, show b + (m - b) = m from by omega, Nat.succ_mul] at this
 exact this
theorem aaD {C : List (Nat × Nat)} {m s b c : Nat} (hF : Q8 C m) (h : C[s]? = some (b, c)) (hb : 0 < b) : Sp C m s (c * 2 ^ (m - b)) (2 ^ (m - b)) = LF C m (s + 1) := by
 unfold Sp LF
 apply ajH
 intro x hx
 have hx := ajL.1 hx
 rw [Ty]
 by_cases hc : c * 2 ^ (m - b) <= x /\ x < c * 2 ^ (m - b) + 2 ^ (m - b)
 .rw [if_pos hc]
  have hh := (TO h hb).2 hc
  cases hf : (List.range s).find? (Co C m x) with
  | none => simp only [hh, if_true]
  | some t =>
    have h1 := List.find?_some hf
    have h2 := ajL.1 (List.mem_of_find?_eq_some hf)
    have := hF.un x t s hx h1 hh
    omega
 .rw [if_neg hc]
  have hh : Co C m x s = false := by
   cases hq : Co C m x s with
   | false => rfl
   | true => exact absurd ((TO h hb).1 hq) hc
  unfold VQ
  cases (List.range s).find? (Co C m x) with
  | some t => rfl
  | none => rw [hh] <;> rfl
theorem Z3 {C : List (Nat × Nat)} {m x : Nat} (hF : Q8 C m) (hx : x < 2 ^ m) : (LF C m C.length)[x]? = some (GQ C m x, bitsOf C (GQ C m x)) := by
 rw [Z1 hx]
 unfold VQ GQ
 cases hf : (List.range C.length).find? (Co C m x) with
 | some t => rfl
 | none =>
   obtain ⟨s, hs⟩ := hF.ex x hx
   exact absurd hs (List.find?_eq_none.1 hf s (ajL.2 (RC hs)))
theorem ZM {C : List (Nat × Nat)} {i : Nat} {e : Nat × Nat} (h : C[i]? = some e) : iG (C.take (i + 1)) = max (iG (C.take i)) e.1 := by
 rw [alD, h]
 exact Z6 _ _
end Go.Pu
namespace Go.Proofs.Ytgpimhlgaokobaa
open Go Go.En Go.Pu
set_option maxRecDepth 4000
theorem NY {a n : Nat} (hn : n <= 62) (h : a * 2 ^ n < 2 ^ 62) : IntKind.i64.wrap ((a : Int) * 2 ^ (min n IntKind.i64.bits)) = ((a * 2 ^ n : Nat) : Int) := by
 have e : IntKind.i64.bits = 64 := rfl
 rw [e, ajY (by omega)]
 have : (a : Int) * 2 ^ n = ((a * 2 ^ n : Nat) : Int) := by push_cast; rfl
 rw [this]
 exact aT (by omega) (by omega)
theorem RY {C : List (Nat × Nat)} {i : Nat} {e : Nat × Nat} (h : C[i]? = some e) : ((cc C).drop (i * 2)).take 2 = [.int .i64 (e.1 : Nat), .int .i64 (e.2 : Nat)] := by
 obtain ⟨hi, rfl⟩ := akI.1 h
 exact XB hi
def HtV (w : anU) (base : Nat) (C : List (Nat × Nat)) (v : anV) : Prop := ∃ b, v = .agg #[.int .i64 (iG C : Nat), .slice (some ⟨b, 0, none⟩) (2 ^ iG C) (2 ^ iG C)] /\ base <= b /\ cL w b (fc (LF C (iG C) C.length))
theorem Vx {v : anV} {l : List UInt8} {d : Nat} {w : anU} (h : Bs w v l) (hd : dD (aU l) = d) (hd0 : d ≠ 0) :
 aP pg qF #[v] w (fun r w' => ∃ t, r = .tuple #[t, .int .i64 0] /\ HtV w' w.heap.size (gL (aU l) d) t /\ aR w w' dH) := by
 refine G8 ?_
 obtain ⟨RR, hRR⟩ : ∃ RR : anV -> anU -> Prop, RR = fun r w' => ∃ t, r = .tuple #[t, .int .i64 0] /\ HtV w' w.heap.size (gL (aU l) d) t /\ aR w w' dH := ⟨_, rfl⟩
 rw [<- hRR]
 obtain ⟨hF, hmd⟩ := R1 hd hd0
 have hok := pY hd hd0
 have hd11 := hok.2.1
 have hl256 := hok.2.2.2.1
 rw [cT] at hl256
 unfold Kj vM vR
 refine mR fun w1 o1 x1 s1 => ?_
 refine (Uw (h.ext x1 (aW _)) hd hd0).mono ?_
 rintro r w2 ⟨b, rfl, hb, ob, x2⟩
 have n0 : ((0 : Int) != 0) = false := rfl
 simp (disch := omega) only [aD, oH, oF, KR, aA, cO, n0, aE]
 refine mR fun w3 o3 x3 s3 => ?_
 refine kY o3 rfl (by simp [one]) (by simp) fun w4 o4 x4 s4 => ?_
 simp only [cG, aiG, aiF] at o4
 generalize hC : gL (aU l) d = C at *
 have hCl : C.length = l.length := by rw [<- hC, qD, cT]
 obtain ⟨p6, hp6⟩ : ∃ p, p = w2.heap.size := ⟨_, rfl⟩
 obtain ⟨p2, hp2⟩ : ∃ p, p = w.heap.size := ⟨_, rfl⟩
 rw [<- hp6] at o4 ⊢
 rw [<- hp2] at o1 ⊢
 have x24 : aR w2 w4 dH := x3.new x4 (aiM _)
 have x04 := (x1.seq x2).seq x24
 have z1 := x1.size
 have z2 := x2.size
 have z24 := x24.size
 have lb := ob.lt
 have ob4 := ob.ext x24 (fun h => h)
 have o14 := o1.ext (x2.seq x24) (fun h => h)
 have l1 := o1.lt
 unfold Cu CK CI
 simp (disch := omega) only [aD, kS, aA]
 unfold Cz CS
 have hcl : ∀ {w' : anU} {i : Nat} {e : Nat × Nat}, aR w4 w' (fun y => y = p6) -> C[i]? = some e -> (aL 123 (.pointer (some ⟨b, i * 2, none⟩))).run pg w' = .ok (.value (.agg #[.int .i64 (e.1 : Nat), .int .i64 (e.2 : Nat)])) w' := fun {w' i e} x hi => by
  have hlt := (akI.1 hi).1
  have := HC (off := i * 2) (ob4.ext x (by omega)) (by rw [Ls]; omega)
  rw [RY hi] at this
  exact this
 refine cK.rule (fun m (t : anV) w' => ∃ i : Nat, m = l.length - i /\ t = .int .i64 i /\ i <= l.length /\ cL w' p6 [.int .i64 (iG (C.take i) : Nat), .slice none 0 0] /\ aR w4 w' (fun y => y = p6)) l.length
  ⟨0, rfl, rfl, by omega, o4, aR.refl _ _⟩ ?_
 rintro m t w5 ⟨i, rfl, rfl, hi, o5, x5⟩
 have z5 := x5.size
 unfold vG
 by_cases hlt : i < l.length
 .have d1 : decide ((i : Int) < (l.length : Int)) = true := by simp; omega
  obtain ⟨e, he⟩ : ∃ e, C[i]? = some e := ⟨_, aiH (by omega)⟩
  have q1 := hcl x5 he
  simp (disch := omega) only [aD, aY, d1, jD, aiB, aiC, mN, bQ, aT, aA, bH, q1, aF]
  refine Ix fun w6 o6 x6 s6 => ?_
  refine BD o6 rfl (by simp [one]) (by simp) fun w7 o7 x7 s7 => ?_
  simp only [cG, aiG, aiF] at o7
  have x57 : aR w5 w7 dH := x6.new x7 (aiM _)
  have o57 := o5.ext x57 (fun h => h)
  have k0 := o57.cell (off := 0)
  have k1 := o7.cell (off := 0)
  simp only [ahZ, aiA] at k0 k1
  have hmx : (if ((e.1 : Nat) : Int) > ((iG (C.take i) : Nat) : Int) then ((e.1 : Nat) : Int) else ((iG (C.take i) : Nat) : Int)) = ((iG (C.take (i + 1)) : Nat) : Int) := by rw [ZM he]; split <;> omega
  have e1 : (i : Int) + 1 = ((i + 1 : Nat) : Int) := by omega
  simp (disch := omega) only [k0, aH, fW, e1, aA, bH, k1, Pl, hmx]
  refine jS o57 rfl (by simp) fun w8 o8 x8 s8 => ?_
  simp only [aiG, aiF] at o8
  try simp (disch := omega) only [true_and]
  exact ⟨l.length - (i + 1), by omega, i + 1, rfl, rfl, by omega, o8, (x5.more x57).seq x8⟩
 .have d1 : decide ((i : Int) < (l.length : Int)) = false := by simp; omega
  obtain rfl : i = l.length := by omega
  rw [<- hCl, amG] at o5
  unfold CJ CE
  have k0 := o5.cell (off := 0)
  simp only [ahZ, aiA] at k0
  have hm11 : iG C <= 11 := by omega
  have hp11 : 2 ^ iG C <= 2 ^ 11 := aiK (by omega) hm11
  have hsh := NY (a := 1) (n := iG C) (by omega) (by omega)
  rw [amU] at hsh
  have one1 : ((1 : Nat) : Int) = 1 := rfl
  rw [one1] at hsh
  simp (disch := omega) only [aD, aY, d1, mN, bQ, aT, aA, bH, lB, aiC, k0, aH, kM, aiB, hsh, aE]
  have hN : (16 : Int) * ((2 ^ iG C : Nat) : Int) <= 2 ^ 48 := by generalize 2 ^ iG C = N at *; omega
  refine OG (Int.natCast_nonneg _) hN fun w6 o6 x6 s6 => ?_
  rw [aiB] at o6 ⊢
  rw [XA, <- YF C] at o6
  have z6 := x6.size
  obtain ⟨pt, hpt⟩ : ∃ p, p = w5.heap.size := ⟨_, rfl⟩
  rw [<- hpt] at o6 ⊢
  refine PT (o5.ext x6 (fun h => h)) rfl (by simp) fun w7 o7 x7 s7 => ?_
  simp only [aiG, aiF] at o7
  have l6 := o6.lt
  have l5 := o5.lt
  have o67 := o6.ext x7 (by omega)
  have x47 : aR w4 w7 (fun y => y = p6) := (x5.more x6).seq x7
  unfold CO CW CP
  simp (disch := omega) only [aD, kS, aA]
  unfold Cr CV
  refine cK.rule (fun m (t : anV) w' => ∃ i : Nat, m = l.length - i /\ t = .int .i64 i /\ i <= l.length /\ cL w' pt (fc (LF C (iG C) i)) /\ aR w7 w' (fun y => y = pt)) l.length
   ⟨0, rfl, rfl, by omega, o67, aR.refl _ _⟩ ?_
  rintro m t w8 ⟨i, rfl, rfl, hi8, o8, x8⟩
  have z8 := x8.size
  unfold vS CU
  by_cases hlt : i < l.length
  .have d2 : decide ((i : Int) < (l.length : Int)) = true := by simp; omega
   obtain ⟨e, he⟩ : ∃ e, C[i]? = some e := ⟨_, aiH (by omega)⟩
   have q1 : (aL 123 (.pointer (some ⟨b, i * 2, none⟩))).run pg w8 = .ok (.value (.agg #[.int .i64 (e.1 : Nat), .int .i64 (e.2 : Nat)])) w8 := by
    have := HC (off := i * 2) ((ob4.ext x47 (by omega)).ext x8 (by omega)) (by rw [Ls]; omega)
    rw [RY he] at this
    exact this
   simp (disch := omega) only [aD, aY, d2, aA, aF]
   unfold DW EH KK EF
   simp (disch := omega) only [aD, jD, aiB, aiC, mN, aA, bH, q1]
   refine Ix fun w9 o9 x9 s9 => ?_
   refine BD o9 rfl (by simp [one]) (by simp) fun wa oa xa sa => ?_
   simp only [cG, aiG, aiF] at oa
   have x8a : aR w8 wa dH := x9.new xa (aiM _)
   have z8a := x8a.size
   have k1 := oa.cell (off := 0)
   have k2 := oa.cell (off := 1)
   have k3 := ((o7.ext x8 (by omega)).ext x8a (fun h => h)).cell (off := 0)
   simp only [ahZ, aiA] at k1 k2 k3
   have e1 : (i : Int) + 1 = ((i + 1 : Nat) : Int) := by omega
   have o8a := o8.ext x8a (fun h => h)
   obtain ⟨eb, ec⟩ := e
   simp only at k1 k2
   by_cases hb0 : eb = 0
   .have n1 : ((eb : Int) == 0) = true := by simp; omega
    simp (disch := omega) only [fW, sJ, aiC, aA, bH, k1, aH, dV, n1, k2, k3, fJ, aT, kM, aF]
    unfold sY
    simp (disch := omega) only [aD, bQ, e1, aT, aA]
    subst hb0
    exact ⟨l.length - (i + 1), by omega, i + 1, rfl, rfl, by omega, by rw [X2 he]; exact o8a, x8.more x8a⟩
   .have n1 : ((eb : Int) == 0) = false := by simp; omega
    obtain ⟨hle, hfit⟩ := hF.le _ _ _ he
    have hlow := adL hF he (by omega)
    have hp := aiY (iG C - eb)
    have e2 : ((iG C : Nat) : Int) - (eb : Int) = ((iG C - eb : Nat) : Int) := by omega
    have e3 := NY (a := ec) (n := iG C - eb) (by omega) (by omega)
    have e4 := NY (a := 1) (n := iG C - eb) (by omega) (by omega)
    rw [amU, one1] at e4
    simp (disch := omega) only [fW, sJ, aiC, aA, bH, k1, aH, dV, n1, k2, k3, fJ, e2, aT, kM, aiB, e3, e4, aE]
    unfold Eu D2
    refine cK.rule (fun m (t : anV) w' => ∃ j : Nat, m = 2 ^ (iG C - eb) - j /\ t = .int .i64 j /\ j <= 2 ^ (iG C - eb) /\ cL w' pt (fc (Sp C (iG C) i (ec * 2 ^ (iG C - eb)) j)) /\ aR wa w' (fun y => y = pt)) (2 ^ (iG C - eb))
     ⟨0, rfl, rfl, by omega, by rw [YH]; exact o8a, aR.refl _ _⟩ ?_
    rintro m t wb ⟨j, rfl, rfl, hj, ob', xb⟩
    unfold yG
    by_cases hjt : j < 2 ^ (iG C - eb)
    .have d3 : decide ((j : Int) < ((2 ^ (iG C - eb) : Nat) : Int)) = true := decide_eq_true (Int.ofNat_lt.2 hjt)
     have f1 := (((o7.ext x8 (by omega)).ext x8a (fun h => h)).ext xb (by omega)).cell (off := 1)
     have f2 := (oa.ext xb (by omega)).cell (off := 0)
     simp only [ahZ, aiA] at f1 f2
     have e5 : ((ec * 2 ^ (iG C - eb) : Nat) : Int) + (j : Int) = ((ec * 2 ^ (iG C - eb) + j : Nat) : Int) := by omega
     have e6 : IntKind.u8.wrap (i : Int) = (i : Int) := LN (by omega) (by omega)
     have e7 : (j : Int) + 1 = ((j + 1 : Nat) : Int) := by omega
     simp (disch := omega) only [aD, aY, d3, lB, aiC, bQ, e5, aT, jK, e6, fW, e7, aA, bH, tH, f1, aH, f2, GF, aiB, O5, aF]
     have hx : ec * 2 ^ (iG C - eb) + j < 2 ^ iG C := by omega
     refine KB (off := (ec * 2 ^ (iG C - eb) + j) * 2) ob' rfl (by simp [one]) (by rw [P3, QJ]; omega) fun wc oc xc sc => ?_
     simp only [cG] at oc
     have hs := Zv (L := Sp C (iG C) i (ec * 2 ^ (iG C - eb)) j) (i := ec * 2 ^ (iG C - eb) + j) (i, eb) (by rw [QJ]; exact hx)
     simp only at hs
     have hbo := Tx he
     have hj2 := Z9 (C := C) (s := i) hx
     rw [hbo] at hj2
     rw [hs, hj2] at oc
     try simp (disch := omega) only [true_and]
     exact ⟨2 ^ (iG C - eb) - (j + 1), by omega, j + 1, rfl, rfl, by omega, oc, xb.seq xc⟩
    .have d3 : decide ((j : Int) < ((2 ^ (iG C - eb) : Nat) : Int)) = false := decide_eq_false fun h => hjt (Int.ofNat_lt.1 h)
     have hje : j = 2 ^ (iG C - eb) := by omega
     subst hje
     unfold sY
     simp (disch := omega) only [aD, aY, d3, lB, aiC, bQ, aT, jK, LN, fW, aA, bH, tH, e1, aE]
     exact ⟨l.length - (i + 1), by omega, i + 1, rfl, rfl, by omega, by rw [<- aaD hF he (by omega)]; exact ob', (x8.more x8a).seq xb⟩
  .have d2 : decide ((i : Int) < (l.length : Int)) = false := by simp; omega
   have hie : i = l.length := by omega
   subst hie
   unfold Af
   have o78 := o7.ext x8 (by omega)
   have q1 := Ds (off := 0) o78 (by simp)
   simp only [aiU, aiQ, aiW] at q1
   simp (disch := omega) only [aD, aY, d2, aA, q1, aE]
   refine kY ((o14.ext x47 (by omega)).ext x8 (by omega)) rfl (by simp [one]) (by simp) fun w9 o9 x9 s9 => ?_
   refine Kh o9 (by simp [cG]) ?_
   simp only [cG, aiG, aiF, aiU, aiQ, aiW]
   rw [hRR]
   refine ⟨_, rfl, ⟨pt, rfl, by omega, ?_⟩, ?_⟩
   .rw [hCl]; exact o8.ext x9 (by omega)
   .exact ((x04.trans x47 fun y hy h => by omega).trans x8 fun y hy h => by omega).new x9 (by omega)
theorem Xo {w : anU} {b i : Nat} {C : List (Nat × Nat)} {e : Nat × Nat} (o : cL w b (cc C)) (h : C[i]? = some e) :
 w.cell? ⟨b, i * 2, none⟩ = some (.int .i64 (e.1 : Nat)) /\ w.cell? ⟨b, i * 2 + 1, none⟩ = some (.int .i64 (e.2 : Nat)) := by
 have ht := RY h
 obtain ⟨hi, rfl⟩ := akI.1 h
 have h0 := congrArg (fun l => l[0]?) ht
 have h1 := congrArg (fun l => l[1]?) ht
 simp only [List.getElem?_take, alP, akN, ahZ, aiA] at h0 h1
 rw [o.cell, o.cell]
 exact ⟨by simpa using h0, by simpa using h1⟩
def WrC (C : List (Nat × Nat)) : Prop := C.length <= 256 /\ ∀ (s : Nat) (e : Nat × Nat), C[s]? = some e -> e.1 <= 11 /\ (0 < e.1 -> e.2 < 2 ^ 11)
def afH (w : anU) (base : Nat) (C : List (Nat × Nat)) (l : List UInt8) (r : anV) : Prop :=
 ((∃ s ∈ aU l, bitsOf C s = 0) /\ r = .tuple #[.slice none 0 0, .int .i64 1]) ∨
 ((∀ s ∈ aU l, 0 < bitsOf C s) /\ ∃ v bytes, r = .tuple #[v, .int .i64 0] /\ Bs w v bytes /\ Ra (G1 C (aU l) ++ [true]) bytes /\ UH v base w.heap.size)
theorem adB : Y4 bD = #[12, 13] := by kernel_rfl
theorem afN : PR pg eT = 42 := by kernel_rfl
theorem YP {C : List (Nat × Nat)} {l : List Nat} {i s : Nat} (h : l[i]? = some s) : G1 C (l.drop i) = G1 C (l.drop (i + 1)) ++ rF (C.getD s (0, 0)).2 (C.getD s (0, 0)).1 := by
 obtain ⟨hi, rfl⟩ := akI.1 h
 rw [ajK hi, G1]
theorem VC {C : List (Nat × Nat)} {l : List UInt8} {b : Nat} {v : anV} {w : anU} (ho : cL w b (cc C)) (hb : Bs w v l) (hC : WrC C) (hl : l.length <= 200000) :
 aP pg eT #[.slice (some ⟨b, 0, none⟩) C.length C.length, v] w (fun r w' => afH w' w.heap.size C l r /\ aR w w' dH) := by
 refine PX ?_
 obtain ⟨RR, hRR⟩ : ∃ RR : anV -> anU -> Prop, RR = fun r w' => afH w' w.heap.size C l r /\ aR w w' dH := ⟨_, rfl⟩
 rw [<- hRR]
 unfold QZ DU DL
 refine mX fun w1 o1 x1 s1 => ?_
 simp only [Value.cells] at o1
 refine Vo fun w2 o2 x2 s2 => ?_
 refine T5 fun w3 o3 x3 s3 => ?_
 refine (UB w3).mono ?_
 rintro r w4 ⟨rfl, s4, hW4, x4⟩
 refine P1 fun w5 o5 x5 s5 => ?_
 refine P4 o5 rfl (by simp) fun w6 o6 x6 s6 => ?_
 simp only [aiG] at o6
 unfold DQ DV EO
 refine ET ?_
 unfold B3 oD
 obtain ⟨va, vn, vc, hv, -⟩ := id hb
 subst hv
 refine mX fun w7 o7 x7 s7 => ?_
 simp only [Value.cells] at o7
 have q1 := fun w => adY (P := pg) (f := gJ) [] [.pointer (some ⟨w6.heap.size, 0, none⟩)] w
 simp (disch := omega) only [aD, q1, aA]
 unfold DJ EN
 intro g g2 g4 g5 g6 g11 gm
 generalize hn0 : w.heap.size = n0 at *
 have e1 : w1.heap.size = n0 + 1 := by omega
 have e2 : w2.heap.size = n0 + 2 := by omega
 have e3 : w3.heap.size = n0 + 3 := by omega
 have e4 : w4.heap.size = n0 + 4 := by omega
 have e6 : w6.heap.size = n0 + 5 := by omega
 have e7 : w7.heap.size = n0 + 6 := by omega
 rw [e1] at o2 g4
 rw [e2] at o3 g5
 rw [e3] at hW4 o6
 rw [e4] at o6 g6
 rw [e6] at o7 g11
 have x06 : aR w w6 dH := ((((x1.seq x2).seq x3).seq x4).seq x5).trans x6 fun y hy h => by omega
 have x07 : aR w w7 dH := x06.seq x7
 have hv7 : Bs w7 (.slice va vn vc) l := hb.ext x07 (aW _)
 have lb := ho.lt
 have b1 : cL w7 n0 [.slice (some ⟨b, 0, none⟩) C.length C.length] := ((((((o1.ext x2 (fun h => h)).ext x3 (fun h => h)).ext x4 (fun h => h)).ext x5 (fun h => h)).ext x6 (by omega))).ext x7 (fun h => h)
 have b2 : cL w7 (n0 + 1) [.slice none 0 0] := (((((o2.ext x3 (fun h => h)).ext x4 (fun h => h)).ext x5 (fun h => h)).ext x6 (by omega))).ext x7 (fun h => h)
 have b3 : cL w7 (n0 + 2) [.int .i64 0] := ((((o3.ext x4 (fun h => h)).ext x5 (fun h => h)).ext x6 (by omega))).ext x7 (fun h => h)
 have b6 : cL w7 (n0 + 4) [.pointer (some ⟨n0 + 3, 0, none⟩)] := o6.ext x7 (fun h => h)
 have bC : cL w7 b (cc C) := ho.ext x07 (fun h => h)
 have hW7 : Ws w7 (fun y => n0 + 7 < y) (n0 + 3) [] :=
  ((hW4.ext x5 (fun h => h) (fun _ h => h.elim)).ext x6 (by omega) (fun _ h => h.elim)).ext x7 (fun h => h) (fun _ h => h.elim) |>.turn (by omega) (fun _ h => h.elim)
 refine Zm (fi := gJ) (cap := #[.pointer (some ⟨n0 + 5, 0, none⟩)]) (by show noMark (g 1000003) = true; rw [gm] <;> rfl) g11 Try.func70 (by kernel_rfl) (by kernel_rfl) ?_
 obtain ⟨x8, s8, d8, l8⟩ := Yv eT (PR pg eT) (Y4 bD) (X1 bD) (Xe bD) g w7
 rw [e7] at s8 d8 l8 ⊢
 generalize YU eT (PR pg eT) (Y4 bD) (X1 bD) (Xe bD) g w7 = w8 at *
 obtain ⟨r0, hr0⟩ : ∃ r0 : Loop, r0 = { state := .ready, pending := none, fn := eT, tmps := tmpsOf (PR pg eT) g, params := Y4 bD, assign := X1 bD, body := Xe bD, defers := n0 + 6 } := ⟨_, rfl⟩
 rw [<- hr0] at l8
 let I : Nat -> anU -> Prop := fun i W => W.heap[n0 + 7]? = some (.loop r0) /\ aR w8 W (fun y => y = n0 + 7 ∨ y = n0 + 3 ∨ n0 + 7 < y) /\ Ws W (fun y => n0 + 7 < y) (n0 + 3) (G1 C ((aU l).drop i)) /\ ∀ s ∈ (aU l).drop i, 0 < bitsOf C s
 let S : anU -> Prop := fun W => (∃ s ∈ aU l, bitsOf C s = 0) /\ W.heap[n0 + 7]? = some (.loop { r0 with state := .done, pending := some .ret }) /\ cL W (n0 + 1) [.slice none 0 0] /\ cL W (n0 + 2) [.int .i64 1] /\ aR w W dH /\ W.heap[n0 + 6]? = some (.deferred (some []))
 have hbits : ∀ s, bitsOf C s <= 11 := fun s => by
  unfold bitsOf
  rw [aiJ]
  cases h : C[s]? with
  | none => simp
  | some e => exact (hC.2 s e h).1
 have x08 : aR w w8 dH := x07.seq x8
 have hmain := Wc (l := l) (v := .slice va vn vc) (box := n0 + 5) (lp := n0 + 7) (r0 := r0) (w := w8) I S ?hI ?hp (by omega) ?h0 ?hs
 case hI =>
  rintro i W ⟨hlp, hx, _⟩
  exact ⟨(o7.ext x8 (fun h => h)).ext hx (by omega), hb.ext (x08.trans hx fun y hy h => by omega) (aW _), hlp⟩
 case hp => rw [hr0, adB] <;> rfl
 case h0 =>
  refine ⟨l8, aR.refl _ _, ?_, ?_⟩
  .rw [anG (by rw [cT]; omega)]; exact hW7.ext x8 (fun h => h) (fun _ _ h => h)
  .rw [anG (by rw [cT]; omega)]; intro s hs; cases hs
 case hs =>
  rintro i W hi ⟨hlp, hx, hW, hall⟩
  have zW := hx.size
  have y08 : aR w W dH := x08.trans hx fun y hy h => by omega
  have hT : SO r0 [.int .i64 i, .int .u8 ((l[i]'hi).toNat : Nat)] = ((tmpsOf 42 g).setIfInBounds 12 (.int .i64 i)).setIfInBounds 13 (.int .u8 ((l[i]'hi).toNat : Nat)) := by
   exact aaT (by rw [hr0]; exact adB) (by rw [hr0]; simp only; rw [afN]) _ _
  have hE : ∀ {x : Nat} {u v z : anV}, x < 12 -> g x = u -> I1 (((tmpsOf 42 g).setIfInBounds 12 v).setIfInBounds 13 z) x = u := fun {x u v z} h1 h2 => by
   rw [Sw (by simp [tmpsOf]), if_neg (by omega), Sw (by simp [tmpsOf]), if_neg (by omega), Yx (by omega), h2]
  have hE13 : ∀ {v z : anV}, I1 (((tmpsOf 42 g).setIfInBounds 12 v).setIfInBounds 13 z) 13 = z := fun {v z} => by
   rw [Sw (by simp [tmpsOf]), if_pos rfl]
  rw [hT]
  have a0 := (b1.ext x8 (fun h => h)).ext hx (by omega)
  have a1 := (b2.ext x8 (fun h => h)).ext hx (by omega)
  have a2 := (b3.ext x8 (fun h => h)).ext hx (by omega)
  have a6 := (b6.ext x8 (fun h => h)).ext hx (by omega)
  have aC := (bC.ext x8 (fun h => h)).ext hx (by omega)
  have ad := BF d8 hx (by omega)
  have hlt : n0 + 7 < W.heap.size := by omega
  subst hr0
  refine NR (by simp [tmpsOf]) ?_
  rw [hE (by omega) g2, hE (by omega) g4, hE (by omega) g5, hE (by omega) g6, hE13]
  unfold Iw Au
  refine Yj hlp rfl fun W1 l1 y1 z1 => ?_
  have a0 := a0.ext y1 (by omega)
  have a1 := a1.ext y1 (by omega)
  have a2 := a2.ext y1 (by omega)
  have a6 := a6.ext y1 (by omega)
  have aC := aC.ext y1 (by omega)
  have ad := BF ad y1 (by omega)
  have hW := hW.ext y1 (by omega) (fun _ h => by omega)
  have y01 : aR w W1 dH := y08.trans y1 fun y hy h => by omega
  have hs256 : (l[i]'hi).toNat < 256 := ajV _
  have hget : (aU l)[i]? = some (l[i]'hi).toNat := by unfold aU; rw [ajA, aiH hi] <;> rfl
  have hmem : (l[i]'hi).toNat ∈ aU l := akH hget
  have hdr := YP (C := C) hget
  have hcons : (aU l).drop i = (l[i]'hi).toNat :: (aU l).drop (i + 1) := by
   obtain ⟨hj, e⟩ := akI.1 hget
   rw [ajK hj, e]
  generalize (l[i]'hi).toNat = s at *
  have c0 := a0.cell (off := 0)
  simp only [ahZ] at c0
  have hbad : bitsOf C s = 0 -> ∀ W2, aR W1 W2 (fun y => y = n0 + 1 ∨ y = n0 + 2) -> cL W2 (n0 + 1) [.slice none 0 0] -> cL W2 (n0 + 2) [.int .i64 1] -> U5 (n0 + 7) (some .ret) (fun b W' => (b = .bool true /\ I i W') ∨ (b = .bool false /\ S W')) W2 := by
   intro h0 W2 y2 k1 k2
   refine RV (BF l1 y2 (by omega)) fun W3 l3 y3 z3 => .inr ⟨rfl, ⟨s, hmem, h0⟩, l3, k1.ext y3 (by omega), k2.ext y3 (by omega), ?_, ?_⟩
   .exact (y01.trans y2 fun y hy h => by omega).trans y3 fun y hy h => by omega
   .exact BF (BF ad y2 (by omega)) y3 (by omega)
  unfold rD
  by_cases hge : C.length <= s
  .have d1 : decide ((C.length : Int) <= (s : Int)) = true := by simp; omega
   simp (disch := omega) only [aD, gH, aT, vW, tM, true_and, aA, c0, aH, kS, lK, d1, jV, bO, if_true, aF, eF]
   refine oJ a1 rfl (by simp) fun W2 k1 y2 z2 => ?_
   refine De (a2.ext y2 (by omega)) rfl (by simp) fun W3 k2 y3 z3 => ?_
   simp only [aiG] at k1 k2
   refine hbad ?_ W3 ((y2.mono fun _ _ h => .inl h).seq (y3.mono fun _ _ h => .inr h)) (k1.ext y3 (by omega)) k2
   unfold bitsOf; rw [aiJ, aiO hge] <;> rfl
  .have d1 : decide ((C.length : Int) <= (s : Int)) = false := by simp; omega
   obtain ⟨e, he⟩ : ∃ e, C[s]? = some e := ⟨_, aiH (by omega)⟩
   obtain ⟨p0, p1⟩ := Xo aC he
   obtain ⟨hc1, hc2⟩ := hC.2 s e he
   have hbo := Tx (b := e.1) (c := e.2) he
   by_cases h0 : e.1 = 0
   .have n1 : (((e.1 : Nat) : Int) == 0) = true := by simp; omega
    simp (disch := omega) only [aD, gH, aT, vW, tM, true_and, aA, c0, aH, kS, lK, d1, dS, bO, aiD, if_false, bW, jD, aiB, aiC, fW, bH, p0, dV, n1, aF]
    refine oJ a1 rfl (by simp) fun W2 k1 y2 z2 => ?_
    refine De (a2.ext y2 (by omega)) rfl (by simp) fun W3 k2 y3 z3 => ?_
    simp only [aiG] at k1 k2
    exact hbad (by rw [hbo]; exact h0) W3 ((y2.mono fun _ _ h => .inl h).seq (y3.mono fun _ _ h => .inr h)) (k1.ext y3 (by omega)) k2
   .have n1 : (((e.1 : Nat) : Int) == 0) = false := by simp; omega
    have hc2 := hc2 (by omega)
    have c0d := (fT a0).cell (off := 0)
    have c6d := (fT a6).cell (off := 0)
    simp only [ahZ] at c0d c6d
    obtain ⟨p0d, p1d⟩ := Xo (fT aC) he
    simp (disch := omega) only [aD, gH, aT, vW, tM, true_and, aA, c0, aH, kS, lK, d1, dS, bO, aiD, if_false, bW, jD, aiB, aiC, fW, bH, p0, dV, n1, c6d, c0d, p0d, sJ, p1d, qA, iZ, aE]
    have hlen := jO hbits ((aU l).drop (i + 1))
    rw [aiV, cT] at hlen
    refine (Z0 (x := e.2) (n := e.1) (hW.ext (aR.dr W1 dH) (fun h => h) (fun _ _ h => h)) (fun y hy => by have : (dr W1).heap.size = W1.heap.size := rfl; omega) (by omega) (by omega) (by omega)).mono ?_
    rintro r W2 ⟨rfl, hW2, y2⟩
    have y12 : aR W1 W2 (fun y => y = n0 + 3 ∨ n0 + 7 < y) := (aR.dr W1 _).seq y2
    refine RV (BF l1 y12 (by omega)) fun W3 l3 y3 z3 => .inl ⟨rfl, l3, ?_, ?_, ?_⟩
    .refine ((hx.trans y1 fun y _ h => by omega).trans y12 fun y _ h => by omega).trans y3 fun y _ h => by omega
    .rw [hdr]
     have hg : C.getD s (0, 0) = e := by rw [aiJ, he] <;> rfl
     rw [hg]
     exact hW2.ext y3 (by omega) (fun _ h => by omega)
    .rw [hcons]
     intro t ht
     rcases ajW.1 ht with rfl | ht
     .rw [hbo]; omega
     .exact hall t ht
 refine hmain.mono ?_
 rintro r w9 ⟨rfl, h⟩
 rcases h with ⟨hlp, hx, hW, hall⟩ | ⟨hbad, hlp, k1, k2, hx, hd⟩
 .have a1 := (b2.ext x8 (fun h => h)).ext hx (by omega)
  have a2 := (b3.ext x8 (fun h => h)).ext hx (by omega)
  have a6 := (b6.ext x8 (fun h => h)).ext hx (by omega)
  have ad := BF d8 hx (by omega)
  have y09 : aR w w9 dH := x08.trans hx fun y hy h => by omega
  refine QK hlp (by rw [hr0]; simp) fun wa ya za => ?_
  rw [hr0]
  have hz : put g (some DS) (.pointer (some ⟨n0 + 6, 0, none⟩)) 4 = g 4 := rfl
  have hz5 : put g (some DS) (.pointer (some ⟨n0 + 6, 0, none⟩)) 5 = g 5 := rfl
  have hz6 : put g (some DS) (.pointer (some ⟨n0 + 6, 0, none⟩)) 6 = g 6 := rfl
  have hzm : put g (some DS) (.pointer (some ⟨n0 + 6, 0, none⟩)) 1000003 = .pointer (some ⟨n0 + 6, 0, none⟩) := rfl
  show tA RR (put g (some DS) (.pointer (some ⟨n0 + 6, 0, none⟩)) 4) (put g (some DS) (.pointer (some ⟨n0 + 6, 0, none⟩)) 5) (put g (some DS) (.pointer (some ⟨n0 + 6, 0, none⟩)) 6) (put g (some DS) (.pointer (some ⟨n0 + 6, 0, none⟩)) 1000003) wa
  rw [hz, hz5, hz6, hzm, g4, g5, g6]
  unfold tA
  have a1 := a1.ext ya (by omega)
  have a2 := a2.ext ya (by omega)
  have a6 := a6.ext ya (by omega)
  have ad := BF ad ya (by omega)
  have hW := hW.ext ya (by omega) (fun _ h => by omega)
  have y0a : aR w wa dH := y09.trans ya fun y hy h => by omega
  have c6 := a6.cell (off := 0)
  simp only [ahZ] at c6
  simp (disch := omega) only [aD, tM, c6, aH, aA]
  have hlen := jO hbits (aU l)
  rw [cT] at hlen
  rw [aiU] at hW hall
  refine (aaC hW.wr (by omega)).mono ?_
  rintro r wb ⟨bytes, hbs, hheld, hat, yb⟩
  refine oJ (a1.ext yb (fun h => h)) ?_ (by simp) fun wc kc yc zc => ?_
  .obtain ⟨a, n, c, rfl, _⟩ := hbs; rfl
  refine De ((a2.ext yb (fun h => h)).ext yc (by omega)) rfl (by simp) fun wd kd yd zd => ?_
  simp only [aiG] at kc kd
  refine Si (BF (BF (BF ad yb (fun h => h)) yc (by omega)) yd (by omega)) fun we ye ze => ?_
  refine OV ((kc.ext yd (by omega)).ext ye (by omega)) rfl ?_
  refine MF (kd.ext ye (by omega)) rfl ?_
  have y0b : aR w wb dH := y0a.seq yb
  have zb := yb.size
  have z0a := y0a.size
  have z89 := hx.size
  have zcd := yc.size
  have zdd := yd.size
  have zee := ye.size
  rw [hRR]
  refine ⟨.inr ⟨hall, _, bytes, rfl, ?_, hheld, ?_⟩, ((y0b.trans yc fun y hy h => by omega).trans yd fun y hy h => by omega).trans ye fun y hy h => by omega⟩
  .refine ((hbs.ext yc ?_).ext yd ?_).ext ye ?_ <;> exact hat _ fun y h1 h2 => by omega
  .exact fun M hM => hat M fun y h1 h2 => hM y (by omega) (by omega)
 .refine QK hlp (by simp) fun wa ya za => ?_
  show AE (put g (some DS) (.pointer (some ⟨n0 + 6, 0, none⟩)) 1000003) wa fun w => Mz pg 22 (put g (some DS) (.pointer (some ⟨n0 + 6, 0, none⟩)) 4) w fun r0 => Mz pg 25 (put g (some DS) (.pointer (some ⟨n0 + 6, 0, none⟩)) 5) w fun r1 => RR (.tuple #[r0, r1]) w
  have hz : put g (some DS) (.pointer (some ⟨n0 + 6, 0, none⟩)) 4 = g 4 := rfl
  have hz5 : put g (some DS) (.pointer (some ⟨n0 + 6, 0, none⟩)) 5 = g 5 := rfl
  have hzm : put g (some DS) (.pointer (some ⟨n0 + 6, 0, none⟩)) 1000003 = .pointer (some ⟨n0 + 6, 0, none⟩) := rfl
  rw [hz, hz5, hzm, g4, g5]
  refine Si (BF hd ya (by omega)) fun we ye ze => ?_
  refine OV ((k1.ext ya (by omega)).ext ye (by omega)) rfl ?_
  refine MF ((k2.ext ya (by omega)).ext ye (by omega)) rfl ?_
  rw [hRR]
  exact ⟨.inl ⟨hbad, rfl⟩, (hx.trans ya fun y hy h => by omega).trans ye fun y hy h => by omega⟩
theorem Uc (p : Int) (w : anU) : aP pg oC #[.int .i64 p] w (fun r w' => r = .int .i64 (dR p) /\ w' = w) := by
 refine On ?_
 unfold dR
 by_cases h : p < 0
 .have d : decide (p < 0) = true := by simpa using h
  simp (disch := omega) only [Ie, vT, aD, aY, d, aA, and_true, aF]
  rw [if_pos h]
 .have d : decide (p < 0) = false := by simpa using h
  simp (disch := omega) only [Ie, vT, aD, aY, d, aA, and_true, aE]
  rw [if_neg h]
theorem So {ps : List Int} (h : 0 < ps.length) : (ps.getLast? = some 0) ↔ ps[ps.length - 1]'(by omega) = 0 := by
 rw [amY, aiH (by omega)]
 simp
theorem afK {log : Int} {sv : anV} {ps : List Int} {w : anU} (hs : Sl w sv (ps.map (Value.int .i64))) (hl : ps.length <= 9223372036854775807) :
 aP pg Di #[.agg #[.int .i64 log, sv]] w (fun r w' => r = .bool (TX log ps) /\ aR w w' dH) := by
 refine Rh ?_
 unfold R6 Gf Gn
 obtain ⟨a, c, rfl, hc⟩ := hs.lenI
 refine mX fun w1 o1 x1 s1 => ?_
 have hs0 := hs
 have hs := hs.ext x1 (aW _)
 have c0 := o1.cell (off := 0)
 have c1 := o1.cell (off := 1)
 simp only [Value.cells, ahZ, aiA] at c0 c1
 have no : ¬ (5 <= log /\ log <= 15 /\ 1 <= ps.length /\ ps.length <= 256 /\ ps.getLast? ≠ some 0) -> TX log ps = false := fun h => by
  unfold TX XM; rw [decide_eq_false h] <;> rfl
 by_cases h1 : log < 5
 .have d1 : decide (log < 5) = true := by simpa using h1
  simp (disch := omega) only [aD, cB, aA, bM, aiC, bH, c0, aH, aY, d1, jV, bO, if_true, aF, eF]
  exact ⟨by rw [no (by omega)], x1⟩
 have d1 : decide (log < 5) = false := by simpa using h1
 by_cases h2 : 15 < log
 .have d2 : decide (15 < log) = true := by simpa using h2
  simp (disch := omega) only [aD, cB, aA, bM, aiC, bH, c0, aH, aY, d1, dS, bO, aiD, if_false, bW, dU, d2, jV, if_true, aF, eF]
  exact ⟨by rw [no (by omega)], x1⟩
 have d2 : decide (15 < log) = false := by simpa using h2
 by_cases h3 : ps.length < 1
 .have d3 : decide ((ps.length : Int) < 1) = true := by simp; omega
  simp (disch := omega) only [aD, cB, aA, bM, aiC, bH, c0, aH, aY, d1, dS, bO, aiD, if_false, bW, dU, d2, kO, c1, nR, d3, jV, if_true, aF, eF]
  exact ⟨by rw [no (by omega)], x1⟩
 have d3 : decide ((ps.length : Int) < 1) = false := by simp; omega
 by_cases h4 : 256 < ps.length
 .have d4 : decide ((256 : Int) < (ps.length : Int)) = true := by simp; omega
  simp (disch := omega) only [aD, cB, aA, bM, aiC, bH, c0, aH, aY, d1, dS, bO, aiD, if_false, bW, dU, d2, kO, c1, nR, d3, d4, jV, if_true, aF, eF]
  exact ⟨by rw [no (by omega)], x1⟩
 have d4 : decide ((256 : Int) < (ps.length : Int)) = false := by simp; omega
 obtain ⟨b, off, c', e, hc', hcell⟩ := hs.openI (by omega)
 cases e
 have e1 : ((ps.length : Int) - 1) = ((ps.length - 1 : Nat) : Int) := by omega
 have g1 := hcell (ps.length - 1) (by omega)
 by_cases h5 : ps[ps.length - 1]'(by omega) = 0
 .have d5 : (ps[ps.length - 1]'(by omega) == 0) = true := by simpa using h5
  simp (disch := omega) only [aD, cB, aA, bM, aiC, bH, c0, aH, aY, d1, dS, bO, aiD, if_false, bW, dU, d2, kO, c1, nR, d3, d4, fJ, e1, aT, tI, aiB, g1, dV, d5, kM, aF]
  exact ⟨by rw [no (fun h => h.2.2.2.2 ((So (by omega)).2 h5))], x1⟩
 have d5 : (ps[ps.length - 1]'(by omega) == 0) = false := by simpa using h5
 obtain ⟨l, rfl⟩ : ∃ l : Nat, log = l := ⟨log.toNat, by omega⟩
 have hsh : IntKind.i64.wrap (1 * 2 ^ (min l IntKind.i64.bits)) = (2 : Int) ^ l := by
  have : ∀ k : Fin 16, IntKind.i64.wrap (1 * 2 ^ (min k.val IntKind.i64.bits)) = (2 : Int) ^ k.val := by decide
  exact this ⟨l, by omega⟩
 have hyes : TX (l : Int) ps = fits (2 ^ l) ps := by
  unfold TX XM
  rw [decide_eq_true ⟨by omega, by omega, by omega, by omega, fun h => h5 ((So (by omega)).1 h)⟩, aiB] <;> rfl
 simp (disch := omega) only [aD, cB, aA, bM, aiC, bH, c0, aH, aY, d1, dS, bO, aiD, if_false, bW, dU, d2, kO, c1, nR, d3, d4, fJ, e1, aT, tI, aiB, g1, dV, d5, kM, hsh, aE]
 unfold F8 Gk Ge FU Gz
 simp (disch := omega) only [aD, bM, aiC, aA, kO, c1, aH, nR]
 have hp15 := Y9 (log := l) (by omega)
 have hp1 := YZ l
 refine cK.rule (fun m t w' => ∃ (i : Nat) (left : Int), m = ps.length - i /\ t = (.int .i64 left, .int .i64 i) /\ i <= ps.length /\ 0 <= left /\ left <= 32768 /\ fits (2 ^ l) ps = fits left (ps.drop i) /\ aR w w' dH) ps.length
  ⟨0, 2 ^ l, rfl, rfl, by omega, by omega, hp15, rfl, x1⟩ ?_
 rintro m t w2 ⟨i, left, rfl, rfl, hi, hl0, hl1, hf, x2⟩
 by_cases hlt : i < ps.length
 .have d6 : decide ((i : Int) < (ps.length : Int)) = true := by simp; omega
  have hsw := hs0.ext x2 (aW _)
  obtain ⟨b', off', c', e, _, hcell2⟩ := hsw.openI (by omega)
  cases e
  have g2 := hcell2 i hlt
  have hd : ps.drop i = ps[i] :: ps.drop (i + 1) := ajK hlt
  rw [hd, fits] at hf
  by_cases h6 : ps[i] < -1
  .have d7 : decide (ps[i] < -1) = true := by simpa using h6
   simp (disch := omega) only [qB, aD, aY, d6, tI, aiB, bQ, aT, aA, bH, g2, aH, d7, jV, bO, if_true, aF, eF]
   rw [if_pos (.inl h6)] at hf
   exact ⟨by rw [hyes, hf], x2⟩
  have d7 : decide (ps[i] < -1) = false := by simpa using h6
  simp (disch := omega) only [qB, aD, aY, d6, tI, aiB, bQ, aT, aA, bH, g2, aH, d7, dS, bO, aiD, if_false, bW, aF]
  refine (Uc _ _).mono ?_
  rintro r w3 ⟨rfl, rfl⟩
  by_cases h7 : left < dR ps[i]
  .have d8 : decide (left < dR ps[i]) = true := by simpa using h7
   simp (disch := omega) only [dU, d8, aA, aF]
   rw [if_pos (.inr h7)] at hf
   exact ⟨by rw [hyes, hf], x2⟩
  have d8 : decide (left < dR ps[i]) = false := by simpa using h7
  simp (disch := omega) only [dU, d8, aA, aE]
  refine (Uc _ _).mono ?_
  rintro r w3 ⟨rfl, rfl⟩
  rw [if_neg (by omega)] at hf
  have hpn := mP (p := ps[i]) (by omega)
  simp (disch := omega) only [fJ, aT, aA]
  exact ⟨ps.length - (i + 1), by omega, i + 1, left - dR ps[i], rfl, rfl, by omega, by omega, by omega, hf, x2⟩
 .have d6 : decide ((i : Int) < (ps.length : Int)) = false := by simp; omega
  rw [anH (by omega), fits] at hf
  unfold qB BQ
  simp (disch := omega) only [aD, aY, d6, bQ, aT, aA, dV, aE]
  exact ⟨by rw [hyes, hf], x2⟩
def acI (log : Int) (ps : List Int) (most : Int) : Int := if TX log ps = false then 1 else if most < log then 12 else 0
theorem aaZ {log most : Int} {sv : anV} {ps : List Int} {w : anU} (hs : Sl w sv (ps.map (Value.int .i64))) (hl : ps.length <= 9223372036854775807) :
 aP pg Am #[.agg #[.int .i64 log, sv], .int .i64 most] w (fun r w' => r = .int .i64 (acI log ps most) /\ aR w w' dH) := by
 refine Ow ?_
 unfold Oh CT
 refine mX fun w1 o1 x1 s1 => ?_
 have hs := hs.ext x1 (aW _)
 rw [show aL 73 = aL 73 from rfl]
 have l1 := iL o1 (off := 0) (by simp [Value.cells])
 simp only [Value.cells, aiU, aiQ, aiW] at l1
 simp (disch := omega) only [aD, l1, cB, aA, bH]
 refine (afK hs hl).mono ?_
 rintro r w2 ⟨rfl, x2⟩
 have o2 := o1.ext x2 (fun h => h)
 have c0 := o2.cell (off := 0)
 simp only [Value.cells, ahZ] at c0
 unfold acI
 cases hm : TX log ps with
 | false =>
   simp (disch := omega) only [rS, akU, if_true, true_and, aA, aF]
   exact x1.seq x2
 | true =>
   by_cases h : most < log
   .have d : decide (most < log) = true := by simpa using h
    simp (disch := omega) only [rS, ajB, aA, c0, aH, dU, d, aF, aE]
    exact ⟨by simp [h], x1.seq x2⟩
   .have d : decide (most < log) = false := by simpa using h
    simp (disch := omega) only [rS, ajB, aA, c0, aH, dU, d, aE]
    exact ⟨by simp [h], x1.seq x2⟩
theorem aeS {x : Nat} (hx : x < 256) (w : anU) : aP pg tW #[.int .u8 x] w (fun r w' => r = .int .i64 (bl x : Nat) /\ w' = w) := by
 refine Lw ?_
 have hg := UN x hx
 have hs := Lp
 have hb : bl x <= 8 := uU (n := 8) (by omega)
 unfold Ks zE
 change aD pg (L1 9 (.string Vu) _) w _
 simp (disch := omega) only [aD, Tz, aiB, hg, aA, gH, aT, and_true]
def SS (w : anU) (lo hi : Nat) (l : List UInt8) (left : Int) : Prop := ∃ v, cL w hi [v, .int .i64 left] /\ Bs w v l /\ UH v lo hi
theorem SS.ext {w w' : anU} {lo hi : Nat} {left : Int} {l : List UInt8} {M : Nat -> Prop} (h : SS w lo hi l left) (hx : aR w w' M) (hM : ∀ b, lo <= b -> b <= hi -> ¬ M b) (hlh : lo <= hi) : SS w' lo hi l left := by
 obtain ⟨v, h1, h2, h3⟩ := h
 exact ⟨v, h1.ext hx (hM _ hlh (aiM _)), h2.ext hx (h3 M fun b hb hh => hM b hb (by omega)), h3⟩
theorem IM {v : anV} {l : List UInt8} {w : anU} (h : Bs w v l) (he : Q7 l = none) (hl : l.length <= 1000000) :
 aP pg jH #[v] w (fun r w' => r = .tuple #[.pointer none, .int .i64 11] /\ w' = w) := by
 refine AO ?_
 unfold Bg nD
 rcases alX l.length with h0 | h0
 .obtain ⟨a, n, c, rfl, hn, hc, hh⟩ := h
  rw [aiI, h0] at hn
  subst hn
  have d1 : (((0 : Nat) : Int) == 0) = true := rfl
  simp (disch := omega) only [aD, aN, true_and, eL, Result.ok.injEq, Next.value.injEq, and_true, aA, fJ, aT, Ku, dV, d1, jV, bO, if_true, aF, eF]
 .obtain ⟨b, off, c, rfl, hc, hcell⟩ := El h h0
  rw [Li h0] at he
  have g := hcell (l.length - 1) (by omega)
  generalize (l[l.length - 1]'(by omega)) = x at *
  have hx0 : x.toNat = 0 := by
   rcases alX x.toNat with h | h
   .exact h
   .rw [if_neg (by omega)] at he; cases he
  rw [hx0] at g
  have d1 : ((l.length : Int) == 0) = false := by simp; intro h; subst h; simp at h0
  have e1 : (l.length : Int) - 1 = ((l.length - 1 : Nat) : Int) := by omega
  have d2 : (((0 : Nat) : Int) == 0) = true := rfl
  simp (disch := omega) only [aD, aN, true_and, eL, Result.ok.injEq, Next.value.injEq, and_true, aA, fJ, e1, aT, cJ, aiB, dY, Ku, dV, d1, dS, bO, aiD, if_false, bW, g, aH, d2, aF]
theorem JN {v : anV} {l : List UInt8} {k : Nat} {w : anU} (h : Bs w v l) (he : Q7 l = some k) (hl : l.length <= 1000000) :
 aP pg jH #[v] w (fun r w' => ∃ hi, r = .tuple #[.pointer (some ⟨hi, 0, none⟩), .int .i64 0] /\ w.heap.size <= hi /\ hi < w'.heap.size /\ SS w' w.heap.size hi l k /\ aR w w' dH) := by
 refine AO ?_
 unfold Bg nD
 have h0 := (Lu he).1
 obtain ⟨b, off, c, rfl, hc, hcell⟩ := El h h0
 rw [Li h0] at he
 have g := hcell (l.length - 1) (by omega)
 generalize (l[l.length - 1]'(by omega)) = x at *
 have hx : x.toNat < 256 := ajV x
 have hx0 : x.toNat ≠ 0 := by
  intro h; rw [if_pos h] at he; cases he
 rw [if_neg hx0] at he
 have he := ajE he
 have hb1 := KM hx0
 have hb2 : bl x.toNat <= 8 := uU (n := 8) (by omega)
 have d1 : ((l.length : Int) == 0) = false := by simp; intro h; subst h; simp at h0
 have e1 : (l.length : Int) - 1 = ((l.length - 1 : Nat) : Int) := by omega
 have d2 : ((x.toNat : Int) == 0) = false := by simpa using hx0
 simp (disch := omega) only [aD, aN, eL, Result.ok.injEq, Next.value.injEq, and_true, true_and, aA, fJ, e1, aT, cJ, aiB, dY, Ku, dV, d1, dS, bO, aiD, if_false, bW, g, aH, d2, aE]
 refine (BP (h.ext (aR.dr _ dH) (aW _)) (by omega)).mono ?_
 rintro r w1 ⟨o1, x1⟩
 have x01 : aR w w1 dH := (aR.dr w dH).seq x1
 have g1 := OZ g x01 (fun h => h)
 have hat := oI.atI o1
 have hs := o1.sl
 obtain ⟨a, c', rfl⟩ := o1.len
 have gd : (dr w).cell? ⟨b, off + (l.length - 1), none⟩ = some (.int .u8 (x.toNat : Nat)) := g
 simp (disch := omega) only [g1, aH, gd, Result.ok.injEq, Next.value.injEq, and_true, aA, true_and]
 refine (aeS hx _).mono ?_
 rintro r w2 ⟨rfl, rfl⟩
 have e2 : 8 * ((l.length - 1 : Nat) : Int) + (bl x.toNat : Nat) - 1 = (k : Int) := by omega
 simp (disch := omega) only [bQ, aT, aA, fJ, e2, Kb, true_and]
 refine mX fun w3 o3 x3 s3 => ?_
 simp only [Value.cells] at o3
 exact ⟨_, rfl, x01.size, by omega, ⟨_, o3, hs.ext x3 (aW _), hat⟩, x01.seq x3⟩
theorem P9 {l : List UInt8} {lo hi : Nat} {left : Int} {w : anU} (h : SS w lo hi l left) :
 aP pg iB #[.pointer (some ⟨hi, 0, none⟩)] w (fun r w' => r = .int .i64 left /\ w' = w) := by
 refine G4 ?_
 obtain ⟨v, o, hs, hat⟩ := h
 have c1 := o.cell (off := 1)
 simp only [ahZ, aiA] at c1
 unfold Ec qH
 simp (disch := omega) only [aD, sH, ajF, oL, aA, qK, aiC, bH, and_true, c1, aH, aE]
theorem Qm {l : List UInt8} {lo hi n : Nat} {left : Int} {w : anU} (h : SS w lo hi l left) (hlh : lo <= hi) (hn : n <= 56) (h1 : left <= 8 * l.length) (h2 : -1000000000 <= left) (hl : l.length <= 1000000) :
 aP pg hZ #[.pointer (some ⟨hi, 0, none⟩), .int .i64 n] w (fun r w' =>
  r = .int .u64 (mT ((aQ l).take left.toNat) n) /\ SS w' lo hi l (left - n) /\ aR w w' (fun y => y = hi)) := by
 refine Hg ?_
 unfold DT qP
 by_cases hn0 : n = 0
 .subst hn0
  have d1 : decide (((0 : Nat) : Int) < 1) = true := rfl
  simp (disch := omega) only [aD, sH, ajF, oL, eL, and_true, aA, qK, aiC, bH, true_and, DH, cU, dS, bO, aiD, if_false, bW, aY, d1, jV, if_true, aF, eF]
  have h0 : mT ((aQ l).take left.toNat) 0 = 0 := by
   have := vD ((aQ l).take left.toNat) 0
   rw [Nat.pow_zero] at this; omega
  exact ⟨by rw [h0] <;> rfl, by simpa using h, aR.refl _ _⟩
 obtain ⟨v, o, hs, hat⟩ := h
 have c0 := o.cell (off := 0)
 have c1 := o.cell (off := 1)
 have od := fT o
 have c0d := od.cell (off := 0)
 have c1d := od.cell (off := 1)
 simp only [ahZ, aiA] at c0 c1 c0d c1d
 have d1 : decide ((n : Int) < 1) = false := by simp; omega
 have d2 : decide ((56 : Int) < (n : Int)) = false := by simp; omega
 obtain ⟨k0, hk0⟩ : ∃ k0, k0 = left.toNat := ⟨_, rfl⟩
 obtain ⟨th, hth⟩ : ∃ th, th = min n k0 := ⟨_, rfl⟩
 have e1 : (if (0 : Int) > left then 0 else left) = (k0 : Int) := by split <;> omega
 have e2 : (if (n : Int) < (k0 : Int) then (n : Int) else (k0 : Int)) = (th : Int) := by split <;> omega
 have e3 : (k0 : Int) - (th : Int) = ((k0 - th : Nat) : Int) := by omega
 have e4 : (n : Int) - (th : Int) = ((n - th : Nat) : Int) := by omega
 rw [<- hk0]
 have hlen : ((aQ l).take k0).length = k0 := by rw [aiR, kI]; omega
 have hlast : mT ((aQ l).take k0) n = tN (((aQ l).drop (k0 - th)).take th) * 2 ^ (n - th) := by
  unfold mT
  rw [hlen, <- hth, List.drop_take, show k0 - (k0 - th) = th from by omega]
 have hlt := vD ((aQ l).take k0) n
 have hp : 2 ^ n <= 2 ^ 56 := aiK (by omega) hn
 have e5 : IntKind.u64.wrap (((tN (((aQ l).drop (k0 - th)).take th) : Nat) : Int) * 2 ^ (min (n - th) IntKind.u64.bits)) = ((mT ((aQ l).take k0) n : Nat) : Int) := by
  rw [show min (n - th) IntKind.u64.bits = n - th from ajY (by have h64 : IntKind.u64.bits = 64 := rfl; omega), hlast]
  have e : ((tN (((aQ l).drop (k0 - th)).take th) : Nat) : Int) * 2 ^ (n - th) = ((tN (((aQ l).drop (k0 - th)).take th) * 2 ^ (n - th) : Nat) : Int) := by simp
  rw [e]
  rw [hlast] at hlt
  exact iZ (by omega) (by omega)
 simp (disch := omega) only [aD, sH, ajF, oL, eL, and_true, aA, qK, aiC, bH, true_and, DH, cU, dS, bO, aiD, if_false, bW, aY, d1, dU, d2, c1, aH, Pl, e1, afD, e2, c0d, c1d, fJ, e4, aT, Result.ok.injEq, Next.value.injEq, dZ, iZ, e3, aE]
 refine (ZV (l := l) (st := k0 - th) (n := th) (hs.ext (aR.dr _ dH) (aW _)) (by omega) (by omega) (by omega)).mono ?_
 rintro r w1 ⟨rfl, rfl⟩
 simp (disch := omega) only [kM, aiB, e5, c1d, aH, aA, fJ, aT, true_and]
 refine jS od rfl (by simp) fun w2 o2 x2 s2 => ?_
 simp only [aiG, aiF] at o2
 have x02 : aR w w2 (fun y => y = hi) := (aR.dr _ _).seq x2
 exact ⟨⟨_, o2, hs.ext x02 (hat _ fun b hb hh => by omega), hat⟩, x02⟩
end Go.Proofs.Ytgpimhlgaokobaa
namespace Go.En
open Go Go.RowKit
section
variable {P : Program} {w : anU} {t e : TypeId} {k : IntKind}
theorem YI {i : TypeInfo} {z : anV} (hu : P.underlying t = some (.slice e)) (hi : P.info? e = some i) (h1 : i.size = 1) (hz : i.zero = some z) (hz1 : one z = true) {m n : Int} (h0 : 0 <= m) (hmn : m <= n) (hn : i.bytes * n <= 2 ^ 48) (hn2 : n <= 9223372036854775807)
 {K : anV -> anU -> Prop}
 (hk : ∀ w', cL w' w.heap.size (List.replicate n.toNat z) -> aR w w' dH -> w'.heap.size = w.heap.size + 1 -> K (.slice (some ⟨w.heap.size, 0, none⟩) m.toNat n.toNat) w') :
 aD P (iA t (.int k m) (.int k n)) w K := by
 have hw : IntKind.i64.wrap n = n := aT (by omega) hn2
 have hwm : IntKind.i64.wrap m = m := aT (by omega) (by omega)
 have hcells : z.cells = #[z] := PQ hz1
 have harr : (Array.range n.toNat).map (fun j => (#[z] : Array anV)[j % (#[z] : Array anV).size]!) = (List.replicate n.toNat z).toArray := by
  apply Array.ext
  .simp
  .intro j h1 h2; simp [Nat.mod_one]
 have hz' : (zeroValue e).run P w = .ok z w := by simp [zeroValue, typeInfo, hi, hz]
 have : (iA t (.int k m) (.int k n)).run P w = .ok (.value (.slice (some ⟨w.heap.size, 0, none⟩) m.toNat n.toNat)) (w.alloc (.cells (List.replicate n.toNat z).toArray e)) := by
  unfold iA
  rw [oY]
  have t1 : (decide (n < 0) || decide ((i.bytes : Int) * n > 2 ^ 48) || decide (m < 0) || decide (m > n)) = false := by
   simp only [amC, decide_eq_false_iff_not]; omega
  by_cases hn0 : n.toNat = 0
  .simp only [Instr.makeSlice, underlying, typeInfo, asInt, asIntOf, pure_bind, Sem.run_bind, run_program, Result.andThen_ok, hu, hi, Sem.run_pure, hw, hwm, t1, aiD, if_false, run_askRoom, dK hi, h1, alA, hn0, if_true, newRow, run_newObj]
   have : (Array.range 0).map (fun x => (#[] : Array anV)[x % (#[] : Array anV).size]!) = (List.replicate 0 z).toArray := by simp
   rw [this]
   rfl
  .simp only [Instr.makeSlice, underlying, typeInfo, asInt, asIntOf, pure_bind, Sem.run_bind, run_program, Result.andThen_ok, hu, hi, Sem.run_pure, hw, hwm, t1, aiD, if_false, run_askRoom, dK hi, h1, alA, hn0, hz', hcells, newRow, run_newObj, harr]
   rfl
 unfold aD
 rw [this]
 exact hk _ (cL.alloc _ _ _) (aR.alloc _ _ _) (by simp)
end
end Go.En
namespace Go.En
open Go
theorem OL.ext {w w' : anU} {S M : Nat -> Prop} {sz n : Nat} {v : anV} {l : List anV} (h : OL w S sz v n l) (hx : aR w w' M) (hM : ∀ b, S b -> ¬ M b) : OL w' S sz v n l := by
 refine ⟨h.1, ?_⟩
 rcases h.2 with h2 | ⟨b, c, rest, h1, h2, h3, h4, h5⟩
 .exact .inl h2
 .exact .inr ⟨b, c, rest, h1, h2, h3.ext hx (hM b h2), h4, h5⟩
theorem oI.ne {w : anU} {base p sz n : Nat} {v : anV} {l : List anV} (h : oI w base sz v n l) (hp : w.heap.size <= p) : OL w (fun b => base <= b /\ b ≠ p) sz v n l := by
 refine ⟨h.1, ?_⟩
 rcases h.2 with h2 | ⟨b, c, rest, h1, h2, h3, h4, h5⟩
 .exact .inl h2
 .have := h3.lt
  exact .inr ⟨b, c, rest, h1, ⟨h2, by omega⟩, h3, h4, h5⟩
theorem OL.osl {w : anU} {base p sz n : Nat} {v : anV} {l : List anV} (h : OL w (fun b => base <= b /\ b ≠ p) sz v n l) : oI w base sz v n l := by
 refine ⟨h.1, ?_⟩
 rcases h.2 with h2 | ⟨b, c, rest, h1, h2, h3, h4, h5⟩
 .exact .inl h2
 .exact .inr ⟨b, c, rest, h1, h2.1, h3, h4, h5⟩
theorem OL.len {w : anU} {S : Nat -> Prop} {sz n : Nat} {v : anV} {l : List anV} (h : OL w S sz v n l) : ∃ a c, v = .slice a n c := by
 rcases h.2 with ⟨h1, rfl⟩ | ⟨b, c, rest, h1, _⟩
 .exact ⟨_, _, h1⟩
 .exact ⟨_, _, h1⟩
end Go.En
namespace Go.Proofs.Ytgpimhlgaokobaa
open Go Go.En Go.Pu
set_option maxRecDepth 4000
theorem HtV.ext {w w' : anU} {base : Nat} {C : List (Nat × Nat)} {v : anV} {M : Nat -> Prop} (h : HtV w base C v) (x : aR w w' M) (hM : ∀ b, base <= b -> ¬ M b) : HtV w' base C v := by
 obtain ⟨b, h1, h2, h3⟩ := h
 exact ⟨b, h1, h2, h3.ext x (hM b h2)⟩
def nQ (C : List (Nat × Nat)) (l : List UInt8) (n : Nat) : Except Int (List Nat) := match Q7 l with
 | none => .error 11
 | some k =>
   if (AD C (iG C) (aQ l) n (k : Int)).2 < 0 then .error 11
   else if 0 < (AD C (iG C) (aQ l) n (k : Int)).2 then .error 15
   else .ok (AD C (iG C) (aQ l) n (k : Int)).1
theorem Vq {C : List (Nat × Nat)} {m : Nat} {B : List Bool} (hF : Q8 C m) : ∀ {n : Nat} {left : Int}, ∀ s ∈ (AD C m B n left).1, s < C.length
 | 0, _, s, hs => by cases hs
 | n + 1, left, s, hs => by
   rw [AD] at hs
   rcases ajW.1 hs with rfl | hs
   .exact RC (Td hF (Nz _ _ _))
   .exact Vq hF s hs
theorem TJ {C : List (Nat × Nat)} {m : Nat} {B : List Bool} : ∀ (n : Nat) (left : Int), AD C m B (n + 1) left =
 ((AD C m B n left).1 ++ [GQ C m (Py B (AD C m B n left).2 m)], (AD C m B n left).2 - bitsOf C (GQ C m (Py B (AD C m B n left).2 m)))
 | 0, left => rfl
 | n + 1, left => by
   rw [AD, TJ n]
   rw [AD]
   simp
theorem XN {C : List (Nat × Nat)} {m : Nat} {B : List Bool} (h : ∀ s, bitsOf C s <= 11) : ∀ (n : Nat) (left : Int), (AD C m B n left).2 <= left /\ left - 11 * n <= (AD C m B n left).2
 | 0, left => ⟨Int.le_refl _, by simp [AD]⟩
 | n + 1, left => by
   have := XN (m := m) (B := B) h n (left - bitsOf C (GQ C m (Py B left m)))
   have := h (GQ C m (Py B left m))
   rw [AD]
   simp only
   omega
theorem QO {a b : Nat} (ha : a < 2 ^ 62) (hb : b < 2 ^ 62) : UG .i64 (a : Int) (b : Int) = ((a ||| b : Nat) : Int) := by
 have h := Nat.or_lt_two_pow ha hb
 unfold UG
 have e : IntKind.i64.bits = 64 := rfl
 rw [e, BitVec.ofInt_natCast, BitVec.ofInt_natCast, BitVec.toNat_or, BitVec.toNat_ofNat, BitVec.toNat_ofNat, ajJ (by omega), ajJ (by omega)]
 exact aT (by omega) (by omega)
abbrev ZX (m : List Nat) : List anV := m.map fun (x : Nat) => Value.int .u8 x
def HS (w : anU) (base : Nat) (o : Except Int (List Nat)) (r : anV) : Prop := match o with
 | .error e => r = .tuple #[.slice none 0 0, .int .i64 e]
 | .ok m => ∃ v, r = .tuple #[v, .int .i64 0] /\ oI w base 1 v m.length (ZX m)
theorem Vt {t v : anV} {C : List (Nat × Nat)} {l : List UInt8} {n base : Nat} {w : anU} (hF : Q8 C (iG C)) (hm : iG C <= 11) (hCl : C.length <= 256) (ht : HtV w base C t) (h : Bs w v l) (hl : l.length <= 1000000) (hn : n <= 131072) :
 aP pg kG #[t, v, .int .i64 n] w (fun r w' => HS w' w.heap.size (nQ C l n) r /\ aR w w' dH) := by
 refine HY ?_
 obtain ⟨RR, hRR⟩ : ∃ RR : anV -> anU -> Prop, RR = fun r w' => HS w' w.heap.size (nQ C l n) r /\ aR w w' dH := ⟨_, rfl⟩
 rw [<- hRR]
 obtain ⟨pt, rfl, hpt, oT⟩ := ht
 unfold Fu sS sC
 refine mX fun w1 o1 x1 s1 => ?_
 simp only [Value.cells] at o1
 have z1 := x1.size
 have lt1 := oT.lt
 cases he : Q7 l with
 | none =>
   have hR : nQ C l n = .error 11 := by unfold nQ; rw [he]
   refine (IM (h.ext x1 (aW _)) he hl).mono ?_
   rintro r w2 ⟨rfl, rfl⟩
   have n1 : ((11 : Int) != 0) = true := rfl
   simp (disch := omega) only [aD, oH, oF, aA, cO, n1, aF]
   rw [hRR, hR]
   exact ⟨rfl, x1⟩
 | some k =>
   have hk := Lu he
   refine (JN (h.ext x1 (aW _)) he hl).mono ?_
   rintro r w2 ⟨hi, rfl, hhi, hhi2, hB, x2⟩
   have n1 : ((0 : Int) != 0) = false := rfl
   simp (disch := omega) only [aD, oH, oF, aA, cO, n1, aE]
   refine YI Try.underlying22 FR rfl rfl rfl (m := 0) (n := (n : Int)) (by omega) (by omega) (by rw [show Try.t5.bytes = 1 from rfl]; omega) (by omega) fun w3 o3 x3 s3 => ?_
   rw [aiB] at o3 ⊢
   have t0 : (0 : Int).toNat = 0 := rfl
   rw [t0]
   have z2 := x2.size
   have z3 := x3.size
   have x03 := (x1.seq x2).seq x3
   have hbit : ∀ s, bitsOf C s <= 11 := fun s => by
    unfold bitsOf
    rw [aiJ]
    cases hq : C[s]? with
    | none => simp
    | some e => have := P7 (akH hq); simp; omega
   unfold sR sV sW sL sO
   have hBl : ((aQ l).length : Int) = 8 * l.length := by rw [kI]; omega
   refine cK.rule (fun q (t : anV × anV × anV × anV) w' => ∃ (i th : Nat) (ov : anV), q = n - i /\ t = (ov, .int .i64 (Py (aQ l) (AD C (iG C) (aQ l) i (k : Int)).2 th : Nat), .int .i64 th, .int .i64 i) /\ i <= n /\ th <= iG C /\ oI w' (hi + 1) 1 ov i (ZX (AD C (iG C) (aQ l) i (k : Int)).1) /\
    SS w' w1.heap.size hi l ((AD C (iG C) (aQ l) i (k : Int)).2 - th) /\ aR w3 w' (fun y => hi <= y)) n
    ⟨0, 0, _, rfl, ?_, by omega, by omega, ⟨rfl, .inr ⟨_, n, _, rfl, by omega, o3, by simp [AD], by omega⟩⟩, ?_, aR.refl _ _⟩ ?_
   .have : Py (aQ l) (AD C (iG C) (aQ l) 0 (k : Int)).2 0 = 0 := by have := Nz (aQ l) (AD C (iG C) (aQ l) 0 (k : Int)).2 0; omega
    rw [this] <;> rfl
   .show SS w3 w1.heap.size hi l ((k : Int) - (0 : Nat))
    rw [Int.natCast_zero, Int.sub_zero]
    exact hB.ext x3 (fun _ _ _ h => h) (by omega)
   rintro q t w4 ⟨i, th, ov, rfl, rfl, hi', hth, os, hB4, x4⟩
   have z4 := x4.size
   have bd := XN (C := C) (m := iG C) (B := aQ l) hbit i (k : Int)
   have hBs := TJ (C := C) (m := iG C) (B := aQ l) i (k : Int)
   generalize hg : AD C (iG C) (aQ l) i (k : Int) = g at *
   obtain ⟨gs, gl⟩ := g
   simp only at *
   unfold mM
   by_cases hlt : i < n
   .have d1 : decide ((i : Int) < (n : Int)) = true := by simp; omega
    have o14 := (o1.ext (x2.seq x3) (fun h => h)).ext x4 (by omega)
    have k0 := o14.cell (off := 0)
    simp only [ahZ, aiA] at k0
    have e1 : ((iG C : Nat) : Int) - (th : Int) = ((iG C - th : Nat) : Int) := by omega
    have r1 := Nz (aQ l) gl th
    have hp1 : 2 ^ th <= 2 ^ 11 := aiK (by omega) (by omega)
    have hp2 : 2 ^ (iG C - th) <= 2 ^ 11 := aiK (by omega) (by omega)
    have hmul : Py (aQ l) gl th * 2 ^ (iG C - th) <= 2 ^ 11 * 2 ^ 11 := Nat.mul_le_mul (by omega) hp2
    have e2 := NY (a := Py (aQ l) gl th) (n := iG C - th) (by omega) (by omega)
    simp (disch := omega) only [aD, aY, d1, mN, eL, and_true, lB, aiC, bQ, aT, aA, bH, tH, true_and, k0, aH, fJ, e1, kM, aiB, e2, Result.ok.injEq, Next.value.injEq, aF]
    have zd : (dr w4).heap.size = w4.heap.size := rfl
    refine (Qm (hB4.ext (aR.dr w4 dH) (fun _ _ _ h => h) (by omega)) (by omega) (by omega) (by omega) (by omega) hl).mono ?_
    rintro r w5 ⟨rfl, hB5, x5⟩
    have q1 : mT ((aQ l).take (gl - (th : Int)).toNat) (iG C - th) = Py (aQ l) (gl - th) (iG C - th) := rfl
    rw [q1]
    have r2 := Nz (aQ l) (gl - th) (iG C - th)
    have z5 := x5.size
    have x45 : aR w4 w5 (fun y => hi <= y) := (aR.dr w4 _).seq (x5.mono fun y _ hy => by omega)
    have hadd := Xp (B := aQ l) (left := gl) th (iG C - th) (by omega)
    rw [show th + (iG C - th) = iG C from by omega] at hadd
    have e3 : IntKind.i64.wrap ((Py (aQ l) (gl - th) (iG C - th) : Nat) : Int) = ((Py (aQ l) (gl - th) (iG C - th) : Nat) : Int) := aT (by omega) (by omega)
    have e4 : UG .i64 ((Py (aQ l) gl th * 2 ^ (iG C - th) : Nat) : Int) ((Py (aQ l) (gl - th) (iG C - th) : Nat) : Int) = ((Py (aQ l) gl (iG C) : Nat) : Int) := by
     rw [QO (by omega) (by omega), Nat.or_comm, Sg r2, hadd, ajD (2 ^ (iG C - th)), Nat.add_comm]
    have hX := Nz (aQ l) gl (iG C)
    have o15 := o14.ext x45 (by omega)
    have k1 := o15.cell (off := 1)
    simp only [ahZ, aiA] at k1
    have hent := Z3 hF hX
    obtain ⟨X, hXe⟩ : ∃ X, X = Py (aQ l) gl (iG C) := ⟨_, rfl⟩
    rw [<- hXe] at e4 hX hent hBs
    obtain ⟨sy, hsy⟩ : ∃ sy, sy = GQ C (iG C) X := ⟨_, rfl⟩
    rw [<- hsy] at hent hBs
    have hsyl : sy < C.length := by rw [hsy]; exact RC (Td hF hX)
    have hbs := hbit sy
    obtain ⟨bs, hbse⟩ : ∃ bs, bs = bitsOf C sy := ⟨_, rfl⟩
    rw [<- hbse] at hent hBs hbs
    have hbm : bs <= iG C := by
     rw [hbse]
     unfold bitsOf
     rw [aiJ, aiH hsyl]
     exact P7 (akK hsyl)
    have xT : aR w w5 (fun y => hi <= y) := ((x03.mono fun _ _ h => h.elim).seq x4).seq x45
    have q2 : (aL 125 (.pointer (some ⟨pt, X * 2, none⟩))).run pg w5 = .ok (.value (.agg #[.int .u8 (sy : Nat), .int .i64 (bs : Nat)])) w5 := by
     have := RP (off := X * 2) (oT.ext xT (by omega)) (by rw [P3, VI]; omega)
     rw [XF hent] at this
     exact this
    have hX2 : (X : Int) < ((2 ^ iG C : Nat) : Int) := Int.ofNat_lt.2 hX
    have c5 : w5.cell? ⟨w.heap.size, 1, none⟩ = some (.slice (some ⟨pt, 0, none⟩) (2 ^ iG C) (2 ^ iG C)) := k1
    simp (disch := omega) only [gT, e3, k1, aH, aA, SR, e4, GF, aiB, aiC, q2, true_and]
    refine S8 fun w6 o6 x6 s6 => ?_
    refine KB o6 rfl (by simp [one]) (by simp) fun w7 o7 x7 s7 => ?_
    simp only [cG, aiG, aiF] at o7
    have x57 : aR w5 w7 dH := x6.new x7 (aiM _)
    have z57 := x57.size
    have f0 := o7.cell (off := 0)
    simp only [ahZ, aiA] at f0
    simp (disch := omega) only [JJ, Nm, aiC, aA, bH, dY, f0, aH]
    refine iC (cells := #[.int .u8 (sy : Nat)]) (by decide) (by decide) (by kernel_rfl) fun w8 o8 x8 s8 => ?_
    have z8 := x8.size
    have x45h : aR w4 w5 (fun y => y = hi) := (aR.dr w4 _).seq x5
    have os5 := os.ext x45h (fun b hb hh => by omega)
    have os7 := ((os5.ne (aiM _)).ext x6 (fun b _ h => h)).ext x7 (fun b h1 h2 => h1.2 h2)
    refine oK (m := 1) (news := [.int .u8 (sy : Nat)]) (i := Try.t5) Try.underlying22 Try.underlying22 FR rfl rfl rfl (os7.ext x8 (fun b _ h => h)) (o8.cl (off := 0) (l := [.int .u8 (sy : Nat)]) (n := 1) rfl (fun i hi => by rw [aiC])) (by simp [one]) (fun b hb => ⟨by omega, by omega⟩) (by omega) (by rw [show Try.t5.bytes = 1 from rfl]; omega) (by decide) fun v9 w9 o9 x9 => ?_
    have z9 := x9.size
    have x59 : aR w5 w9 (fun y => hi + 1 <= y) := ((x57.seq x8).mono fun _ _ h => h.elim).seq (x9.mono fun y _ h => h.1)
    have k3 := (o15.ext x59 (by omega)).cell (off := 0)
    have f1 := ((o7.ext x8 (fun h => h)).ext x9 (fun h => h.2 rfl)).cell (off := 1)
    simp only [ahZ, aiA] at k3 f1
    have e5 : ((iG C : Nat) : Int) - (bs : Int) = ((iG C - bs : Nat) : Int) := by omega
    have hp3 : 2 ^ (iG C - bs) <= 2 ^ 11 := aiK (by omega) (by omega)
    have e6 := NY (a := 1) (n := iG C - bs) (by omega) (by omega)
    rw [amU] at e6
    have one1 : ((1 : Nat) : Int) = 1 := rfl
    rw [one1] at e6
    have hp0 := aiY (iG C - bs)
    have e7 : ((2 ^ (iG C - bs) : Nat) : Int) - 1 = ((2 ^ (iG C - bs) - 1 : Nat) : Int) := by omega
    have hp4 : 2 ^ iG C <= 2 ^ 11 := aiK (by omega) (by omega)
    have e8 : Jn .i64 (X : Int) ((2 ^ (iG C - bs) - 1 : Nat) : Int) = ((X % 2 ^ (iG C - bs) : Nat) : Int) := by
     rw [Wn (by omega) (by omega), Nat.and_two_pow_sub_one_eq_mod]
    have hmod := (XT (B := aQ l) (left := gl) (a := bs) (m := iG C) (by omega) hbm).2
    rw [<- hXe] at hmod
    have e9 : (i : Int) + 1 = ((i + 1 : Nat) : Int) := by omega
    simp (disch := omega) only [k3, aH, e9, aA, f1, fJ, e5, aT, kM, aiB, e6, e7, He, e8]
    refine ⟨n - (i + 1), by omega, i + 1, iG C - bs, v9, rfl, ?_, by omega, by omega, ?_, ?_, ?_⟩
    .rw [hBs, hmod]
    .rw [hBs]
     show oI w9 (hi + 1) 1 v9 (i + 1) (ZX (gs ++ [sy]))
     unfold ZX
     rw [aiZ]
     exact ⟨o9.1, o9.2.imp id fun ⟨b, c, rest, q1, q2, q3⟩ => ⟨b, c, rest, q1, q2.1, q3⟩⟩
    .rw [hBs]
     have : gl - (bs : Int) - ((iG C - bs : Nat) : Int) = gl - (th : Int) - ((iG C - th : Nat) : Int) := by omega
     show SS w9 w1.heap.size hi l (gl - (bs : Int) - ((iG C - bs : Nat) : Int))
     rw [this]
     exact hB5.ext x59 (fun b _ hb h => by omega) (by omega)
    .exact (x4.seq x45).trans x59 fun y _ h => by omega
   .have d1 : decide ((i : Int) < (n : Int)) = false := by simp; omega
    have hin : i = n := by omega
    subst hin
    unfold lT
    simp (disch := omega) only [aD, aY, d1, mN, eL, and_true, lB, aiC, bQ, aT, aA, bH, tH, true_and, aE]
    refine (P9 hB4).mono ?_
    rintro r w5 ⟨rfl, rfl⟩
    have e1 : gl - (th : Int) + (th : Int) = gl := by omega
    have xall : aR w w5 dH := x03.trans x4 fun y hy h => by omega
    have hR : nQ C l i = if gl < 0 then .error 11 else if 0 < gl then .error 15 else .ok gs := by unfold nQ; rw [he]; simp only [hg]
    rw [hRR, hR]
    by_cases g1 : gl < 0
    .have d2 : decide (gl < 0) = true := decide_eq_true g1
     rw [if_pos g1]
     simp (disch := omega) only [bQ, e1, aT, aA, aY, d2, dU, aF]
     exact ⟨rfl, xall⟩
    .have d2 : decide (gl < 0) = false := decide_eq_false g1
     rw [if_neg g1]
     by_cases g2 : 0 < gl
     .have d3 : decide (0 < gl) = true := decide_eq_true g2
      rw [if_pos g2]
      simp (disch := omega) only [bQ, e1, aT, aA, aY, d2, dU, d3, aF, aE]
      exact ⟨rfl, xall⟩
     .have d3 : decide (0 < gl) = false := decide_eq_false g2
      rw [if_neg g2]
      simp (disch := omega) only [bQ, e1, aT, aA, aY, d2, dU, d3, aE]
      have hgl : gs.length = i := by have := KV (C := C) (m := iG C) (B := aQ l) (n := i) (left := (k : Int)); rw [hg] at this; exact this
      refine ⟨⟨ov, rfl, ?_⟩, xall⟩
      rw [hgl]
      rcases os.2 with h0 | ⟨b, c, rest, h1, h2, h3⟩
      .exact ⟨os.1, .inl h0⟩
      .exact ⟨os.1, .inr ⟨b, c, rest, h1, by omega, h3⟩⟩
theorem UH.sub {a : Option Addr} {n c m c' k sz lo hi : Nat} (h : UH (.slice a n c) lo hi) (hm : m <= n) : UH (.slice (fY a c k sz) m c') lo hi := by
 intro M hM hin
 cases m with
 | zero => unfold TF at hin; split at hin <;> simp_all
 | succ m =>
   obtain ⟨n', rfl⟩ : ∃ n', n = n' + 1 := ⟨n - 1, by omega⟩
   have h1 := h M hM
   cases a with
   | none => unfold fY at hin; split at hin <;> exact hin
   | some x =>
     unfold fY at hin
     have h2 : M x.block := by
      split at hin
      .exact hin
      .rw [ajS] at hin
       have e : (x.add (k * sz)).block = x.block := by unfold Addr.add; split <;> rfl
       have h3 : M (x.add (k * sz)).block := hin
       rwa [e] at h3
     exact h1 h2
abbrev Bl (w : anU) (v : anV) (L : List Bool) : Prop := Sl w v (L.map Value.bool)
end Go.Proofs.Ytgpimhlgaokobaa
namespace Go.Pu
def mS : List UInt8 -> Nat
 | [] => 0
 | c :: l => c.toNat + 256 * mS l
theorem O9 : ∀ l : List UInt8, mS l < 256 ^ l.length
 | [] => by simp [mS]
 | c :: l => by
   have := O9 l
   have hc := c.toNat_lt
   rw [mS, aiP, ajU]; omega
theorem Tv (c : UInt8) : ∀ l : List UInt8, mS (l ++ [c]) = mS l + 256 ^ l.length * c.toNat
 | [] => by simp [mS]
 | d :: l => by
   rw [akJ, mS, Tv c l, mS, aiP, ajU, amV, alJ, ajD (256 ^ l.length) 256, anI]
theorem Xd (i : Nat) : 256 ^ i = 2 ^ (8 * i) := by rw [Nat.pow_mul]
theorem aaV (l : List UInt8) (c : UInt8) : mS l ||| (c.toNat * 2 ^ (8 * l.length)) = mS (l ++ [c]) := by
 have := O9 l
 rw [Xd] at this
 rw [Sg this, Tv, Xd]
def fS (x : Nat) : Nat -> List UInt8
 | 0 => []
 | n + 1 => UInt8.ofNat (x % 256) :: fS (x / 256) n
theorem dM : ∀ (n x : Nat), (fS x n).length = n
 | 0, _ => rfl
 | n + 1, x => by rw [fS, aiP, dM n]
theorem Ll : ∀ (n x : Nat), mS (fS x n) = x % 256 ^ n
 | 0, x => by simp [fS, mS, Nat.mod_one]
 | n + 1, x => by
   rw [fS, mS, Ll n, ajU, ajD (256 ^ n) 256, Nat.mod_mul]
   have : (UInt8.ofNat (x % 256)).toNat = x % 256 := by
    rw [UInt8.toNat_ofNat']; omega
   rw [this]
theorem TR : ∀ (n x : Nat), fS x (n + 1) = fS x n ++ [UInt8.ofNat (x / 256 ^ n % 256)]
 | 0, x => by simp [fS]
 | n + 1, x => by
   rw [fS, TR n (x / 256), fS, akJ, amN, ajU, ajD (256 ^ n) 256]
end Go.Pu
namespace Go.Proofs.Ytgpimhlgaokobaa
open Go Go.En Go.Pu
set_option maxRecDepth 4000
def Vc (v : anV) (S : Nat -> Prop) : Prop := ∀ M : Nat -> Prop, (∀ b, S b -> ¬ M b) -> ¬ TF v M
theorem UH.toS {v : anV} {lo hi : Nat} {S : Nat -> Prop} (h : UH v lo hi) (hS : ∀ b, lo <= b -> b < hi -> S b) : Vc v S := fun M hM => h M fun b h1 h2 => hM b (hS b h1 h2)
theorem Vc.mono {v : anV} {S T : Nat -> Prop} (h : Vc v S) (hT : ∀ b, S b -> T b) : Vc v T := fun M hM => h M fun b hb => hM b (hT b hb)
theorem Vc.toI {v : anV} {S : Nat -> Prop} {lo hi : Nat} (h : Vc v S) (hS : ∀ b, S b -> lo <= b /\ b < hi) : UH v lo hi := fun M hM => h M fun b hb => hM b (hS b hb).1 (hS b hb).2
theorem Vc.nil (S : Nat -> Prop) : Vc (.slice none 0 0) S := fun M _ h => h
theorem Vc.sub {a : Option Addr} {n c m c' k mx sz : Nat} {S : Nat -> Prop} (h : Vc (.slice a n c) S) (hm : m <= n) : Vc (.slice (fY a mx k sz) m c') S := by
 intro M hM hin
 cases m with
 | zero => unfold TF at hin; split at hin <;> simp_all
 | succ m =>
   obtain ⟨n', rfl⟩ : ∃ n', n = n' + 1 := ⟨n - 1, by omega⟩
   have h1 := h M hM
   cases a with
   | none => unfold fY at hin; split at hin <;> exact hin
   | some x =>
     unfold fY at hin
     have h2 : M x.block := by
      split at hin
      .exact hin
      .rw [ajS] at hin
       have e : (x.add (k * sz)).block = x.block := by unfold Addr.add; split <;> rfl
       have h3 : M (x.add (k * sz)).block := hin
       rwa [e] at h3
     exact h1 h2
theorem afT {w : anU} {a : Option Addr} {n c : Nat} {l : List anV} (h : Sl w (.slice a n c) l) {k : Nat} (hk : k <= n) : Sl w (.slice (fY a k 0 1) (k - 0) (k - 0)) (l.take k) := by
 obtain ⟨a', n', c', e, hn, hc, h⟩ := h
 cases e
 refine ⟨_, _, _, rfl, by rw [aiR]; omega, aiM _, fun h0 => ?_⟩
 obtain ⟨b, off, rfl, h2⟩ := h (by omega)
 have hs : fY (some ⟨b, off, none⟩) k 0 1 = some ⟨b, off + 0 * 1, none⟩ := by unfold fY; rw [if_neg (by omega)] <;> rfl
 refine ⟨b, off, by rw [hs]; simp, fun i hi => ?_⟩
 rw [akA (by omega)]
 exact h2 i (by omega)
def V9 (w : anU) (lo hi p : Nat) (l : List UInt8) (e : Int) : Prop := lo <= p /\ p < hi /\ ∃ v, cL w p [v, .int .i64 e] /\ Bs w v l /\ Vc v (fun b => lo <= b /\ b < hi /\ b ≠ p)
theorem V9.ext {w w' : anU} {lo hi p : Nat} {l : List UInt8} {e : Int} {M : Nat -> Prop} (h : V9 w lo hi p l e) (x : aR w w' M) (hM : ∀ b, lo <= b -> b < hi -> ¬ M b) : V9 w' lo hi p l e := by
 obtain ⟨h0, h0', v, h1, h2, h3⟩ := h
 exact ⟨h0, h0', v, h1.ext x (hM _ h0 h0'), h2.ext x (h3 M fun b hb => hM b hb.1 hb.2.1), h3⟩
theorem V9.lt {w : anU} {lo hi p : Nat} {l : List UInt8} {e : Int} (h : V9 w lo hi p l e) : p < w.heap.size := by
 obtain ⟨_, _, v, h1, _⟩ := h; exact h1.lt
theorem Q1 {v : anV} {l : List UInt8} {w : anU} (h : Bs w v l) (hl : l.length <= 1000000000) :
 aP pg kV #[v] w (fun r w' => ∃ p, r = .pointer (some ⟨p, 0, none⟩) /\ V9 w' w.heap.size w'.heap.size p l 0 /\ aR w w' dH) := by
 refine Jc ?_
 unfold GZ uR
 refine (BP h hl).mono ?_
 rintro r w1 ⟨ho, x1⟩
 have hat := oI.atI ho
 have hs := ho.sl
 obtain ⟨va, vc, rfl⟩ := ho.len
 simp (disch := omega) only [aD, Nc, aA]
 refine mX fun w2 o2 x2 s2 => ?_
 have o2 : cL w2 w1.heap.size [.slice va l.length vc, .int .i64 0] := o2
 have hz := o2.lt
 exact ⟨w1.heap.size, rfl, ⟨x1.size, hz, _, o2, hs.ext x2 (aW _), hat.toS fun b h1 h2 => ⟨h1, by omega, by omega⟩⟩, x1.seq x2⟩
def Jm (l : List UInt8) (e : Int) (n : Nat) : List UInt8 × List UInt8 × Int := if e ≠ 0 then ([], l, e) else if l.length < n then ([], l, 10) else (l.take n, l.drop n, 0)
theorem Vg {lo hi p n : Nat} {l : List UInt8} {e : Int} {w : anU} (h : V9 w lo hi p l e) (hl : l.length <= 1000000000) (hn : n <= 1000000000) :
 aP pg jU #[.pointer (some ⟨p, 0, none⟩), .int .i64 n, .bool true] w (fun r w' => Bs w' r (Jm l e n).1 /\ Vc r (fun b => lo <= b /\ b < hi /\ b ≠ p) /\ V9 w' lo hi p (Jm l e n).2.1 (Jm l e n).2.2 /\ aR w w' (fun y => y = p)) := by
 refine GC ?_
 unfold Et qN
 have h' := h
 obtain ⟨h0, h0', v, o, hb, hat⟩ := h'
 obtain ⟨va, vc, rfl, hvc⟩ := hb.len
 rw [aiI] at hb hat o hvc
 have c0 := o.cell (off := 0)
 have c1 := o.cell (off := 1)
 simp only [ahZ, aiA] at c0 c1
 by_cases he : e = 0
 rotate_left
 .have n1 : (e != 0) = true := by simpa using he
  have ht : Jm l e n = ([], l, e) := by unfold Jm; rw [if_pos he]
  rw [ht]
  simp (disch := omega) only [aD, oL, rS, ajB, aA, pJ, aiC, pC, cU, aE, Dl, c1, aH, cO, n1, aF]
  exact ⟨Sl.nil _, Vc.nil _, h, aR.refl _ _⟩
 subst he
 have n1 : ((0 : Int) != 0) = false := rfl
 by_cases hsh : l.length < n
 .have d1 : decide ((l.length : Int) < (n : Int)) = true := by simp; omega
  have ht : Jm l 0 n = ([], l, 10) := by unfold Jm; rw [if_neg (by decide), if_pos hsh]
  rw [ht]
  simp (disch := omega) only [aD, oL, rS, ajB, aA, pJ, aiC, pC, cU, aE, Dl, c1, aH, cO, n1, c0, aN, dU, d1, aF]
  refine De o rfl (by simp) fun w1 o1 x1 s1 => ?_
  simp only [aiG, aiF] at o1
  exact ⟨Sl.nil _, Vc.nil _, ⟨h0, h0', _, o1, hb.ext x1 (hat _ fun b hb => hb.2.2), hat⟩, x1⟩
 .have d1 : decide ((l.length : Int) < (n : Int)) = false := by simp; omega
  have ht : Jm l 0 n = (l.take n, l.drop n, 0) := by unfold Jm; rw [if_neg (by decide), if_neg hsh]
  rw [ht]
  simp (disch := omega) only [aD, oL, rS, ajB, aA, pJ, aiC, pC, cU, aE, Dl, c1, aH, cO, n1, c0, aN, dU, d1, SL, aiB, eD]
  refine oJ o rfl (by simp [one]) fun w1 o1 x1 s1 => ?_
  simp only [aiG, aiF] at o1
  have hbn : Bs w (.slice (fY va n 0 1) (n - 0) (n - 0)) (l.take n) := by
   have := afT hb (k := n) (by omega)
   rwa [<- amT] at this
  have hbd : Bs w (.slice (fY va vc n 1) (l.length - n) (vc - n)) (l.drop n) := by
   have := hb.drop' (k := n) (by omega)
   rwa [<- amJ] at this
  have hn1 := hat.sub (mx := n) (k := 0) (sz := 1) (m := n - 0) (c' := n - 0) (by omega)
  have hn2 := hat.sub (mx := vc) (k := n) (sz := 1) (m := l.length - n) (c' := vc - n) (by omega)
  exact ⟨hbn.ext x1 (hn1 _ fun b hb => hb.2.2), hn1, ⟨h0, h0', _, o1, hbd.ext x1 (hn2 _ fun b hb => hb.2.2), hn2⟩, x1⟩
theorem Zh {lo hi p : Nat} {l : List UInt8} {e : Int} {w : anU} (h : V9 w lo hi p l e) :
 aP pg mG #[.pointer (some ⟨p, 0, none⟩)] w (fun r w' => r = .int .i64 l.length /\ w' = w) := by
 refine G2 ?_
 unfold EJ qG
 obtain ⟨h0, h0', v, o, hb, hat⟩ := h
 obtain ⟨va, vc, rfl, hvc⟩ := hb.len
 rw [aiI] at hb hat o hvc
 have c0 := o.cell (off := 0)
 simp only [ahZ, aiA] at c0
 simp (disch := omega) only [aD, mH, ajF, oL, aA, pC, cU, and_true, c0, aH, aN, aE]
theorem Rw {lo hi p : Nat} {l : List UInt8} {e : Int} {w : anU} (h : V9 w lo hi p l e) :
 aP pg iO #[.pointer (some ⟨p, 0, none⟩)] w (fun r w' => r = .int .i64 e /\ w' = w) := by
 refine Ia ?_
 unfold Fp sB
 obtain ⟨h0, h0', v, o, hb, hat⟩ := h
 have c1 := o.cell (off := 1)
 simp only [ahZ, aiA] at c1
 simp (disch := omega) only [aD, mH, ajF, oL, aA, pJ, aiC, Dl, and_true, c1, aH, aE]
theorem X9 {lo hi p n : Nat} {l : List UInt8} {e : Int} {w : anU} (h : V9 w lo hi p l e) (hl : l.length <= 1000000000) (hn : n <= 1000000000) :
 aP pg lD #[.pointer (some ⟨p, 0, none⟩), .int .i64 n] w (fun r w' => Bs w' r (Jm l e n).1 /\ Vc r (fun b => lo <= b /\ b < hi /\ b ≠ p) /\ V9 w' lo hi p (Jm l e n).2.1 (Jm l e n).2.2 /\ aR w w' (fun y => y = p)) := by
 refine Gx ?_
 unfold C3 oN
 have d1 : decide ((0 : Int) <= (n : Int)) = true := by simp
 simp (disch := omega) only [aD, mH, ajF, lK, d1, aA, aE]
 refine (Vg h hl hn).mono ?_
 rintro r w1 hr
 exact hr
theorem Sd {lo hi p n : Nat} {l : List UInt8} {e : Int} {w : anU} (h : V9 w lo hi p l e) (hl : l.length <= 1000000000) (hn : 1 <= n /\ n <= 8) :
 aP pg iH #[.pointer (some ⟨p, 0, none⟩), .int .i64 n] w (fun r w' => r = .int .u64 (mS (Jm l e n).1 : Nat) /\ V9 w' lo hi p (Jm l e n).2.1 (Jm l e n).2.2 /\ aR w w' (fun y => y = p)) := by
 refine EZ ?_
 unfold B2 nW oA oE nJ nH
 have d1 : decide ((1 : Int) <= (n : Int)) = true := by simp; omega
 have d2 : decide ((n : Int) <= 8) = true := by simp; omega
 simp (disch := omega) only [aD, mH, ajF, lK, d1, aA, Uz, bO, if_true, bW, Y0, d2, aE]
 refine (Vg h hl (by omega)).mono ?_
 rintro r w1 ⟨hb, hat, hr, x1⟩
 obtain ⟨t, ht⟩ : ∃ t, t = (Jm l e n).1 := ⟨_, rfl⟩
 have htl : t.length <= 8 := by
  rw [ht]; unfold Jm
  split
  .simp
  .split
   .simp
   .simp; omega
 rw [<- ht] at hb ⊢
 obtain ⟨va, vc, rfl, hvc⟩ := hb.len
 rw [aiI] at hb hvc hat
 simp (disch := omega) only [aiI, aN, aA]
 unfold nZ nM
 refine cK.rule (fun m s w' => ∃ i : Nat, m = t.length - i /\ i <= t.length /\ s = (.int .u64 (mS (t.take i) : Nat), .int .i64 i) /\ w' = w1) t.length ⟨0, rfl, by omega, rfl, rfl⟩ ?_
 rintro m s w2 ⟨i, rfl, hi, rfl, hw⟩
 rw [hw]; clear hw w2
 unfold jY
 by_cases hlt : i < t.length
 .have d3 : decide ((i : Int) < (t.length : Int)) = true := by simp; omega
  obtain ⟨c, hc⟩ : ∃ c, c = t[i]'hlt := ⟨_, rfl⟩
  have htk : t.take (i + 1) = t.take i ++ [c] := by rw [alD, aiH hlt, <- hc] <;> rfl
  have hor := aaV (t.take i) c
  rw [<- htk, aiR, ajY (by omega)] at hor
  have hcl : c.toNat < 256 := ajV c
  obtain ⟨b, off, c', hv, hcc, hcell⟩ := hb.openV (by rw [aiI]; omega)
  have g1 := hcell i (by rw [aiI]; exact hlt)
  rw [aiI] at hv
  cases hv
  rw [akX, <- hc] at g1
  simp only [lL] at g1
  generalize c.toNat = cx at *
  have hp : 2 ^ (8 * i) <= 2 ^ 56 := aiK (by omega) (by omega)
  have hm : cx * 2 ^ (8 * i) <= 255 * 2 ^ 56 := Nat.mul_le_mul (by omega) hp
  have hb0 := O9 (t.take i)
  have hb1 := O9 (t.take (i + 1))
  rw [aiR, ajY (by omega)] at hb0 hb1
  have hq : 256 ^ i <= 256 ^ 7 := aiK (by omega) (by omega)
  have e0 : ((8 : Int) * (i : Int)) = ((8 * i : Nat) : Int) := by omega
  have e5 : IntKind.u64.wrap ((cx : Int) * 2 ^ (min (8 * i) IntKind.u64.bits)) = ((cx * 2 ^ (8 * i) : Nat) : Int) := by
   rw [show min (8 * i) IntKind.u64.bits = 8 * i from ajY (by have : IntKind.u64.bits = 64 := rfl
                                                              omega)]
   have e : (cx : Int) * 2 ^ (8 * i) = ((cx * 2 ^ (8 * i) : Nat) : Int) := by simp
   rw [e]
   exact iZ (by omega) (by omega)
  have e6 := Ud (a := mS (t.take i)) (b := cx * 2 ^ (8 * i)) (by omega) (by omega)
  rw [hor] at e6
  have e7 : IntKind.u64.wrap (cx : Int) = (cx : Int) := iZ (by omega) (by omega)
  simp (disch := omega) only [aD, aY, d3, cJ, aiB, Ku, e0, aT, bQ, aA, dZ, iZ, dY, g1, aH, IE, e7, kM, e5, SR, e6, and_true, aF]
  exact ⟨t.length - (i + 1), by omega, i + 1, rfl, by omega, rfl⟩
 .have d3 : decide ((i : Int) < (t.length : Int)) = false := by simp; omega
  obtain rfl : i = t.length := by omega
  simp (disch := omega) only [aD, aY, d3, Ku, aT, bQ, aA, dZ, iZ, aE]
  unfold kB
  rw [amG]
  exact ⟨rfl, hr, x1⟩
theorem Sm {v : anV} {l : List UInt8} {w : anU} (h : Bs w v l) (hl : l.length <= 100000) (hd : dD (aU l) = 0) :
 aP pg qF #[v] w (fun r w' => r = .tuple #[.agg #[.int .i64 0, .slice none 0 0], .int .i64 1] /\ aR w w' dH) := by
 refine G8 ?_
 unfold Kj vM vR
 refine mR fun w1 o1 x1 s1 => ?_
 refine (P5 (h.ext x1 (aW _)) hl hd).mono ?_
 rintro r w2 ⟨rfl, rfl⟩
 have n0 : ((1 : Int) != 0) = true := rfl
 simp (disch := omega) only [aD, oH, oF, KR, aA, cO, n0, aF]
 refine kY o1 rfl (by simp [one]) (by simp) fun w3 o3 x3 s3 => ?_
 refine Kh o3 (by simp [cG]) ?_
 simp only [cG, aiG, aiF, aiU, aiQ, aiW]
 exact ⟨trivial, x1.new x3 (aiM _)⟩
abbrev wC (wl : List UInt8) : List (Nat × Nat) := gL (aU wl) (dD (aU wl))
structure WOk (wl : List UInt8) : Prop where
 d0 : dD (aU wl) ≠ 0
theorem WOk.full {wl : List UInt8} (h : dD (aU wl) ≠ 0) : Q8 (wC wl) (iG (wC wl)) /\ iG (wC wl) <= 11 /\ (wC wl).length <= 256 := by
 obtain ⟨h1, h2⟩ := R1 rfl h
 have h3 := pY rfl h
 exact ⟨h1, akT h2 h3.2.1, by rw [qD]; exact h3.2.2.2.1⟩
def Ss (wl s : List UInt8) (n : Nat) : Except Int (List Nat) := if dD (aU wl) = 0 then .error 1 else nQ (wC wl) s n
theorem UQ {lv v : anV} {wl l : List UInt8} {n : Nat} {w : anU} (hw : Bs w lv wl) (hwl : wl.length <= 100000) (h : Bs w v l) (hl : l.length <= 1000000) (hn : n <= 131072) :
 aP pg BX #[lv, v, .int .i64 n] w (fun r w' => HS w' w.heap.size (Ss wl l n) r /\ aR w w' dH) := by
 refine Qt ?_
 unfold QV Ek
 by_cases hd : dD (aU wl) = 0
 .refine (Sm hw hwl hd).mono ?_
  rintro r w1 ⟨rfl, x1⟩
  have n0 : ((1 : Int) != 0) = true := rfl
  simp (disch := omega) only [aD, oH, oF, aY, aA, bO, cO]
  refine mR fun w2 o2 x2 s2 => ?_
  refine kY o2 rfl (by simp [one]) (by simp) fun w3 o3 x3 s3 => ?_
  simp (disch := omega) only [n0, aF]
  unfold Ss
  rw [if_pos hd]
  exact ⟨rfl, x1.seq (x2.new x3 (aiM _))⟩
 .obtain ⟨hF, hm, hC⟩ := WOk.full hd
  refine (Vx hw rfl hd).mono ?_
  rintro r w1 ⟨t, rfl, ht, x1⟩
  have n0 : ((0 : Int) != 0) = false := rfl
  obtain ⟨b, rfl, hb, ob⟩ := ht
  simp (disch := omega) only [aD, oH, oF, aY, aA, bO, cO]
  refine mR fun w2 o2 x2 s2 => ?_
  refine kY o2 rfl (by simp [one]) (by simp) fun w3 o3 x3 s3 => ?_
  simp only [cG, aiG, aiF] at o3
  have x13 : aR w1 w3 dH := x2.new x3 (aiM _)
  have x03 := x1.seq x13
  have d1 : decide ((n : Int) < 0) = false := decide_eq_false (by omega)
  have d2 : decide (131072 < (n : Int)) = false := decide_eq_false (by omega)
  have q1 := Ds (off := 0) o3 (by simp)
  simp only [aiU, aiQ, aiW] at q1
  simp (disch := omega) only [n0, d1, dS, aiD, if_false, bW, dU, d2, aA, q1, aE]
  refine (Vt (base := 0) hF hm hC ⟨b, rfl, amE _, ob.ext x13 (fun h => h)⟩ (h.ext x03 (aW _)) hl hn).mono ?_
  rintro r w4 ⟨hr, x4⟩
  unfold Ss
  rw [if_neg hd]
  have z03 := x03.size
  cases hs : nQ (wC wl) l n with
  | error e =>
    rw [hs] at hr
    obtain rfl : r = .tuple #[.slice none 0 0, .int .i64 e] := hr
    simp (disch := omega) only [oH, oF, aA]
    exact ⟨rfl, x03.seq x4⟩
  | ok m =>
    rw [hs] at hr
    obtain ⟨ov, rfl, os⟩ := hr
    simp (disch := omega) only [oH, oF, aA]
    refine ⟨⟨ov, rfl, ?_⟩, x03.seq x4⟩
    rcases os.2 with h0 | ⟨b, c, rest, h1, h2, h3⟩
    .exact ⟨os.1, .inl h0⟩
    .exact ⟨os.1, .inr ⟨b, c, rest, h1, by omega, h3⟩⟩
theorem V2 {n q : Nat} (hn : n <= 131072) (hq : q = (n + 3) / 4) (w : anU) :
 aP pg yO #[.int .i64 n] w (fun r w' => r = .tuple #[.agg #[.int .i64 (q : Nat), .int .i64 (q : Nat), .int .i64 (q : Nat), .int .i64 ((n : Int) - 3 * (q : Int))], .bool (decide (3 * (q : Int) <= (n : Int)))] /\ aR w w' dH) := by
 refine Ri ?_
 unfold RL FN
 have e1 : (n : Int) + 4 - 1 = ((n + 3 : Nat) : Int) := by omega
 have e2 : ((n + 3 : Nat) : Int).tdiv 4 = (q : Int) := by rw [akG (by omega)]; omega
 have e3 : IntKind.i64.wrap (q : Int) = (q : Int) := aT (by omega) (by omega)
 generalize hK : (fun (t2 : anV) (w : anU) => _) = K
 refine HH fun w1 o1 x1 s1 => ?_
 simp (disch := omega) only [hK.symm, aD, bQ, aT, aA, fJ, e1, Hx, e2, e3, Ku, lK, fG]
 refine J6 o1 rfl (by simp [one]) (by simp) fun w2 o2 x2 s2 => ?_
 refine VN o2 (by simp [cG]) ?_
 simp only [cG, aiG, aiF, aiU, aiQ, aiW]
 exact ⟨trivial, x1.new x2 (aiM _)⟩
def EV (C : List (Nat × Nat)) : List UInt8 -> List (Nat × Nat) -> Except Int (List Nat)
 | _, [] => .ok []
 | l, (k, n) :: r => match nQ C (l.take k) n with
   | .error e => .error e
   | .ok m => (match EV C (l.drop k) r with
     | .error e => .error e
     | .ok m' => .ok (m ++ m'))
def TB (acc : List Nat) (x : Except Int (List Nat)) : Except Int (List Nat) := match x with
 | .error e => .error e
 | .ok m => .ok (acc ++ m)
theorem Tm {C : List (Nat × Nat)} {l : List UInt8} {k n : Nat} {r : List (Nat × Nat)} (acc : List Nat) : TB acc (EV C l ((k, n) :: r)) = match nQ C (l.take k) n with
 | .error e => .error e
 | .ok m => TB (acc ++ m) (EV C (l.drop k) r) := by
 rw [EV]
 cases nQ C (l.take k) n with
 | error e => rfl
 | ok m =>
   simp only
   cases EV C (l.drop k) r with
   | error e => rfl
   | ok m' => simp [TB]
def nA (l : List UInt8) : Nat := mS (l.take 2)
def nB (l : List UInt8) : Nat := mS ((l.drop 2).take 2)
def nC (l : List UInt8) : Nat := mS ((l.drop 4).take 2)
def HO (wl l : List UInt8) (n : Nat) : Except Int (List Nat) :=
 if dD (aU wl) = 0 then .error 1
 else if n < 3 * ((n + 3) / 4) then .error 11
 else if l.length < 6 then .error 10
 else if (l.drop 6).length < nA l + nB l + nC l then .error 10
 else EV (wC wl) (l.drop 6) [(nA l, (n + 3) / 4), (nB l, (n + 3) / 4), (nC l, (n + 3) / 4), ((l.drop 6).length - (nA l + nB l + nC l), n - 3 * ((n + 3) / 4))]
def nx (l : List UInt8) : Nat -> List UInt8 × Int
 | 0 => (l, 0)
 | i + 1 => ((Jm (nx l i).1 (nx l i).2 2).2.1, (Jm (nx l i).1 (nx l i).2 2).2.2)
def nv (l : List UInt8) (i : Nat) : Nat := mS (Jm (nx l i).1 (nx l i).2 2).1
theorem Xg (l : List UInt8) : ∀ i, (nx l i).1.length <= l.length
 | 0 => aiM _
 | i + 1 => by
   have := Xg l i
   rw [nx]
   unfold Jm
   split
   .exact this
   .split
    .exact this
    .simp only [aiV]; omega
theorem afL {l : List UInt8} (h : 6 <= l.length) : nx l 1 = (l.drop 2, 0) /\ nx l 2 = (l.drop 4, 0) /\ nx l 3 = (l.drop 6, 0) /\ nv l 0 = nA l /\ nv l 1 = nB l /\ nv l 2 = nC l := by
 have t : ∀ m : List UInt8, 2 <= m.length -> Jm m 0 2 = (m.take 2, m.drop 2, 0) := fun m hm => by
  unfold Jm; rw [if_neg (by simp), if_neg (by omega)]
 have h1 : nx l 1 = (l.drop 2, 0) := by rw [nx, nx, t l (by omega)]
 have h2 : nx l 2 = (l.drop 4, 0) := by rw [nx, h1, t _ (by rw [aiV]; omega), amF]
 have h3 : nx l 3 = (l.drop 6, 0) := by rw [nx, h2, t _ (by rw [aiV]; omega), amF]
 refine ⟨h1, h2, h3, ?_, ?_, ?_⟩
 .unfold nv nA; rw [nx, t l (by omega)]
 .unfold nv nB; rw [h1, t _ (by rw [aiV]; omega)]
 .unfold nv nC; rw [h2, t _ (by rw [aiV]; omega)]
theorem aeK {l : List UInt8} (h : l.length < 6) : (nx l 3).2 = 10 := by
 have e : ∀ (m : List UInt8), Jm m 10 2 = ([], m, 10) := fun m => rfl
 have t : ∀ m : List UInt8, 2 <= m.length -> Jm m 0 2 = (m.take 2, m.drop 2, 0) := fun m hm => by
  unfold Jm; rw [if_neg (by simp), if_neg (by omega)]
 have b : ∀ m : List UInt8, m.length < 2 -> Jm m 0 2 = ([], m, 10) := fun m hm => by
  unfold Jm; rw [if_neg (by simp), if_pos hm]
 rcases aiS l.length 2 with h1 | h1
 .rw [nx, nx, nx, nx, b l h1] <;> rfl
 .rcases aiS l.length 4 with h2 | h2
  .rw [nx, nx, nx, nx, t l h1]; simp only; rw [b _ (by rw [aiV]; omega)] <;> rfl
  .rw [nx, nx, nx, nx, t l h1]; simp only; rw [t _ (by rw [aiV]; omega)]; simp only; rw [b _ (by rw [aiV, aiV]; omega)]
theorem XQ {l : List UInt8} {e : Int} : mS (Jm l e 2).1 < 65536 := by
 have h : ∀ m : List UInt8, m.length <= 2 -> mS m < 65536 := fun m hm => by
  match m, hm with
  | [], _ => decide
  | [a], _ => have := ajV a; simp [mS]; omega
  | [a, b], _ => have := ajV a; have := ajV b; simp [mS]; omega
 apply h
 unfold Jm
 split
 .simp
 .split
  .simp
  .simp only [aiR]; omega
def l4 (l : List UInt8) (i : Nat) (d : Int) : List anV := [.int .i64 (if 0 < i then nv l 0 else 0 : Nat), .int .i64 (if 1 < i then nv l 1 else 0 : Nat), .int .i64 (if 2 < i then nv l 2 else 0 : Nat), .int .i64 d]
theorem adV (l : List UInt8) {i : Nat} (h : i < 3) : (l4 l i 0).set i (.int .i64 (nv l i : Nat)) = l4 l (i + 1) 0 := by
 rcases (show i = 0 ∨ i = 1 ∨ i = 2 by omega) with rfl | rfl | rfl <;> rfl
theorem pZ {w : anU} {base base' sz n : Nat} {v : anV} {l : List anV} (h : oI w base sz v n l) (hb : base' <= base) : oI w base' sz v n l := by
 rcases h.2 with h0 | ⟨b, c, rest, h1, h2, h3⟩
 .exact ⟨h.1, .inl h0⟩
 .exact ⟨h.1, .inr ⟨b, c, rest, h1, by omega, h3⟩⟩
theorem Pz {C : List (Nat × Nat)} {l : List UInt8} {n : Nat} {e : Int} (h : nQ C l n = .error e) : e = 11 ∨ e = 15 := by
 unfold nQ at h
 split at h
 .cases h; exact .inl rfl
 .split at h
  .cases h; exact .inl rfl
  .split at h
   .cases h; exact .inr rfl
   .cases h
theorem YS {C : List (Nat × Nat)} {l : List UInt8} {n : Nat} {m : List Nat} (h : nQ C l n = .ok m) : m.length = n := by
 unfold nQ at h
 split at h
 .cases h
 .split at h
  .cases h
  .split at h
   .cases h
   .cases h; exact KV
theorem T2 {lv v : anV} {wl l : List UInt8} {n : Nat} {w : anU} (hw : Bs w lv wl) (hwl : wl.length <= 100000) (h : Bs w v l) (hl : l.length <= 1000000) (hn : n <= 131072) :
 aP pg zK #[lv, v, .int .i64 n] w (fun r w' => HS w' w.heap.size (HO wl l n) r /\ aR w w' dH) := by
 refine Ob ?_
 obtain ⟨RR, hRR⟩ : ∃ RR : anV -> anU -> Prop, RR = fun r w' => HS w' w.heap.size (HO wl l n) r /\ aR w w' dH := ⟨_, rfl⟩
 rw [<- hRR]
 have err : ∀ {e : Int} {w' : anU}, HO wl l n = .error e -> aR w w' dH -> RR (.tuple #[.slice none 0 0, .int .i64 e]) w' := fun h x => by
  rw [hRR, h]; exact ⟨rfl, x⟩
 unfold Pa Bf Bv
 by_cases hd : dD (aU wl) = 0
 .refine (Sm hw hwl hd).mono ?_
  rintro r w1 ⟨rfl, x1⟩
  have n0 : ((1 : Int) != 0) = true := rfl
  simp (disch := omega) only [aD, oH, oF, aY, aA, bO, cO]
  refine mR fun w2 o2 x2 s2 => ?_
  refine kY o2 rfl (by simp [one]) (by simp) fun w3 o3 x3 s3 => ?_
  simp (disch := omega) only [n0, aF]
  exact err (by unfold HO; rw [if_pos hd]) (x1.seq (x2.new x3 (aiM _)))
 .obtain ⟨hF, hm, hC⟩ := WOk.full hd
  refine (Vx hw rfl hd).mono ?_
  rintro r w1 ⟨t, rfl, ht, x1⟩
  have n0 : ((0 : Int) != 0) = false := rfl
  obtain ⟨b, rfl, hb, ob⟩ := ht
  simp (disch := omega) only [aD, oH, oF, aY, aA, bO, cO]
  refine mR fun w2 o2 x2 s2 => ?_
  refine kY o2 rfl (by simp [one]) (by simp) fun w3 o3 x3 s3 => ?_
  simp only [cG, aiG, aiF] at o3
  have x13 : aR w1 w3 dH := x2.new x3 (aiM _)
  have x03 := x1.seq x13
  have z1 := x1.size
  have z13 := x13.size
  have lb := ob.lt
  have ob3 := ob.ext x13 (fun h => h)
  obtain ⟨p8, hp8⟩ : ∃ p, p = w1.heap.size := ⟨_, rfl⟩
  rw [<- hp8] at o3 ⊢
  have l3 := o3.lt
  have d1 : decide ((n : Int) < 0) = false := decide_eq_false (by omega)
  have d2 : decide (131072 < (n : Int)) = false := decide_eq_false (by omega)
  obtain ⟨q, hq⟩ : ∃ q, q = (n + 3) / 4 := ⟨_, rfl⟩
  simp (disch := omega) only [n0, d1, dS, aiD, if_false, bW, dU, d2, aA, aE]
  refine (V2 hn hq w3).mono ?_
  rintro r w4 ⟨rfl, x4⟩
  simp (disch := omega) only [oH, oF, aA, rS]
  refine HH fun w5 o5 x5 s5 => ?_
  refine J6 o5 rfl (by simp [one]) (by simp) fun w6 o6 x6 s6 => ?_
  simp only [cG, aiG, aiF] at o6
  have x46 : aR w4 w6 dH := x5.new x6 (aiM _)
  have x36 := x4.seq x46
  have x06 := x03.seq x36
  obtain ⟨p10, hp10⟩ : ∃ p, p = w4.heap.size := ⟨_, rfl⟩
  rw [<- hp10] at o6 ⊢
  have l6 := o6.lt
  by_cases h3 : n < 3 * q
  .have d3 : decide (3 * (q : Int) <= (n : Int)) = false := decide_eq_false (by omega)
   simp (disch := omega) only [d3, akU, aF]
   exact err (by unfold HO; rw [if_neg hd, <- hq, if_pos h3]) x06
  have d3 : decide (3 * (q : Int) <= (n : Int)) = true := decide_eq_true (by omega)
  simp (disch := omega) only [d3, ajB, aE]
  refine (Q1 (h.ext x06 (aW _)) (by omega)).mono ?_
  rintro r w7 ⟨p, rfl, hr7, x7⟩
  refine HH fun w8 o8 x8 s8 => ?_
  have z7 := x7.size
  have z36 := x36.size
  have hp := hr7.1
  have hp2 := hr7.2.1
  have hr8 := hr7.ext x8 (fun _ _ _ h => h)
  obtain ⟨p13, hp13⟩ : ∃ p, p = w7.heap.size := ⟨_, rfl⟩
  rw [<- hp13] at o8 ⊢
  have z8 := x8.size
  have x08 := (x06.seq x7).seq x8
  have o38 := ((o3.ext x36 (fun h => h)).ext x7 (fun h => h)).ext x8 (fun h => h)
  have o68 := (o6.ext x7 (fun h => h)).ext x8 (fun h => h)
  have ob8 := ((ob3.ext x36 (fun h => h)).ext x7 (fun h => h)).ext x8 (fun h => h)
  unfold A8 Bb Bu
  simp (disch := omega) only [true_and]
  unfold Ba A3
  refine cK.rule (fun m (t : anV) w' => ∃ i : Nat, m = 3 - i /\ t = .int .i64 i /\ i <= 3 /\ cL w' p13 (l4 l i 0) /\ V9 w' w6.heap.size w7.heap.size p (nx l i).1 (nx l i).2 /\ aR w8 w' (fun y => y = p ∨ y = p13)) 3
   ⟨0, rfl, rfl, by omega, o8, hr8, aR.refl _ _⟩ ?_
  rintro m t w9 ⟨i, rfl, rfl, hi, o9, hr9, x9⟩
  have z9 := x9.size
  unfold tG
  by_cases hlt : i < 3
  .have d4 : decide ((i : Int) < 3) = true := by simp; omega
   have hnl := Xg l i
   simp (disch := omega) only [aD, aY, d4, HK, aiB, aiC, bQ, aT, aA, aF]
   refine (Sd (n := 2) hr9 (by omega) ⟨by omega, by omega⟩).mono ?_
   rintro r wa ⟨rfl, hra, xa⟩
   have hnv : mS (Jm (nx l i).1 (nx l i).2 2).1 = nv l i := rfl
   rw [hnv]
   have hn2 := XQ (l := (nx l i).1) (e := (nx l i).2)
   rw [hnv] at hn2
   have e1 : IntKind.i64.wrap ((nv l i : Nat) : Int) = ((nv l i : Nat) : Int) := aT (by omega) (by omega)
   have e2 : (i : Int) + 1 = ((i + 1 : Nat) : Int) := by omega
   simp (disch := omega) only [gT, e1, e2, aA]
   refine jS (o9.ext xa (by omega)) rfl (by simp [l4]; omega) fun wb o_b xb sb => ?_
   rw [adV l hlt] at o_b
   try simp (disch := omega) only [true_and]
   exact ⟨3 - (i + 1), by omega, i + 1, rfl, rfl, by omega, o_b, hra.ext xb (fun y _ hy => by omega), (x9.seq (xa.mono fun _ _ h => .inl h)).seq (xb.mono fun _ _ h => .inr h)⟩
  .have d4 : decide ((i : Int) < 3) = false := by simp; omega
   obtain rfl : i = 3 := by omega
   simp (disch := omega) only [aD, aY, d4, HK, aiB, aiC, bQ, aT, aA, aE]
   unfold CM CQ
   have b0 : nv l 0 < 65536 := XQ
   have b1 : nv l 1 < 65536 := XQ
   have b2 : nv l 2 < 65536 := XQ
   have hnl := Xg l 3
   have od := fT o9
   have k0 := od.cell (off := 0)
   have k1 := od.cell (off := 1)
   have k2 := od.cell (off := 2)
   simp only [l4, ahZ, aiA] at k0 k1 k2
   have i0 : (if 0 < 3 then nv l 0 else 0) = nv l 0 := rfl
   have i1 : (if 1 < 3 then nv l 1 else 0) = nv l 1 := rfl
   have i2 : (if 2 < 3 then nv l 2 else 0) = nv l 2 := rfl
   rw [i0] at k0
   rw [i1] at k1
   rw [i2] at k2
   have t0 : (0 : Int).toNat = 0 := rfl
   have t1 : (1 : Int).toNat = 1 := rfl
   have t2 : (2 : Int).toNat = 2 := rfl
   have t3 : (3 : Int).toNat = 3 := rfl
   obtain ⟨N3, hN3⟩ : ∃ N, N = (nx l 3).1.length := ⟨_, rfl⟩
   obtain ⟨D, hD⟩ : ∃ D : Int, D = (N3 : Int) - nv l 0 - nv l 1 - nv l 2 := ⟨_, rfl⟩
   have hrd := hr9.ext (aR.dr w9 dH) (fun _ _ _ h => h)
   simp (disch := omega) only [aD, HK, aiC, eL, Result.ok.injEq, Next.value.injEq, and_true, aA, true_and, bH]
   refine (Zh hrd).mono ?_
   rintro r wa ⟨rfl, rfl⟩
   rw [<- hN3]
   simp (disch := omega) only [t0, k0, aH, Result.ok.injEq, Next.value.injEq, and_true, t1, k1, t2, k2, t3, aA, true_and, fJ, aT]
   rw [<- hD]
   refine jS od rfl (by simp [l4]) fun wb o_b xb sb => ?_
   have o_b : cL wb p13 (l4 l 3 D) := o_b
   have zd : (dr w9).heap.size = w9.heap.size := rfl
   have hrb := hrd.ext xb (fun y _ hy => by omega)
   have x9b : aR w8 wb (fun y => y = p ∨ y = p13) := (x9.seq (aR.dr _ _)).seq (xb.mono fun _ _ h => .inr h)
   have x0b : aR w wb dH := x08.trans x9b fun y hy h => by omega
   refine (Rw hrb).mono ?_
   rintro r wc ⟨rfl, rfl⟩
   rcases aiS l.length 6 with h6 | h6
   .have he := aeK h6
    rw [he]
    have n1 : ((10 : Int) != 0) = true := rfl
    simp (disch := omega) only [cO, n1, aA, jV, bO, if_true, aF, eF]
    exact err (by unfold HO; rw [if_neg hd, <- hq, if_neg h3, if_pos h6]) x0b
   .obtain ⟨_, _, e3, g0, g1, g2⟩ := afL h6
    rw [e3] at hrb hN3 ⊢
    simp only at hrb hN3
    have n1 : ((0 : Int) != 0) = false := rfl
    have k3 := o_b.cell (off := 3)
    simp only [l4, ahZ, aiA] at k3
    by_cases hneg : N3 < nA l + nB l + nC l
    .have d5 : decide (D < 0) = true := decide_eq_true (by omega)
     simp (disch := omega) only [cO, n1, aA, dS, bO, aiD, if_false, bW, bH, k3, aH, aY, d5, aF]
     exact err (by unfold HO; rw [if_neg hd, <- hq, if_neg h3, if_neg (by omega), <- hN3, if_pos hneg]) x0b
    .have d5 : decide (D < 0) = false := decide_eq_false (by omega)
     simp (disch := omega) only [cO, n1, aA, dS, bO, aiD, if_false, bW, bH, k3, aH, aY, d5, aE]
     obtain ⟨L4, hL4⟩ : ∃ L, L = [(nA l, q), (nB l, q), (nC l, q), (N3 - (nA l + nB l + nC l), n - 3 * q)] := ⟨_, rfl⟩
     have hH : HO wl l n = EV (wC wl) (l.drop 6) L4 := by
      unfold HO
      rw [if_neg hd, <- hq, if_neg h3, if_neg (by omega), <- hN3, if_neg hneg, hL4]
     have cells : ∀ i, i < 4 -> ∃ (k m : Nat), L4[i]? = some (k, m) /\ (l4 l 3 D)[i]? = some (.int .i64 (k : Nat)) /\ [Value.int .i64 (q : Nat), .int .i64 (q : Nat), .int .i64 (q : Nat), .int .i64 ((n : Int) - 3 * (q : Int))][i]? = some (.int .i64 (m : Nat)) /\ m <= n := fun i hi => by
      rcases (show i = 0 ∨ i = 1 ∨ i = 2 ∨ i = 3 by omega) with rfl | rfl | rfl | rfl
      .exact ⟨nA l, q, by rw [hL4] <;> rfl, by rw [<- g0] <;> rfl, rfl, by omega⟩
      .exact ⟨nB l, q, by rw [hL4] <;> rfl, by rw [<- g1] <;> rfl, rfl, by omega⟩
      .exact ⟨nC l, q, by rw [hL4] <;> rfl, by rw [<- g2] <;> rfl, rfl, by omega⟩
      .refine ⟨N3 - (nA l + nB l + nC l), n - 3 * q, by rw [hL4] <;> rfl, ?_, ?_, by omega⟩
       .show some (Value.int .i64 D) = _
        rw [show D = ((N3 - (nA l + nB l + nC l) : Nat) : Int) from by omega]
       .show some (Value.int .i64 ((n : Int) - 3 * (q : Int))) = _
        rw [show (n : Int) - 3 * (q : Int) = ((n - 3 * q : Nat) : Int) from by omega]
     have hsum : (L4.map (·.1)).sum = (l.drop 6).length := by rw [hL4, <- hN3]; simp; omega
     have z0b := x0b.size
     have z9b := x9b.size
     have o8b := o38.ext x9b (by omega)
     have o10b := o68.ext x9b (by omega)
     have obb := ob8.ext x9b (by omega)
     unfold CA CN CY
     try simp (disch := omega) only [true_and]
     unfold Cx CL
     refine cK.rule (fun z (t : anV × anV) w' => ∃ (i : Nat) (acc : List Nat) (li : List UInt8) (ov : anV), z = 4 - i /\ t = (ov, .int .i64 i) /\ i <= 4 /\ oI w' wc.heap.size 1 ov acc.length (ZX acc) /\ V9 w' w6.heap.size w7.heap.size p li 0 /\
      EV (wC wl) (l.drop 6) L4 = TB acc (EV (wC wl) li (L4.drop i)) /\ li.length = ((L4.drop i).map (·.1)).sum /\ li.length <= l.length /\ acc.length <= i * 131072 /\ aR wc w' (fun y => y = p)) 4
      ⟨0, [], l.drop 6, _, rfl, rfl, by omega, oI.nil _ _ _, hrb, ?_, by rw [aiU, hsum], by rw [aiV]; omega, by simp, aR.refl _ _⟩ ?_
     .rw [aiU]
      cases EV (wC wl) (l.drop 6) L4 with
      | error e => rfl
      | ok m => simp [TB]
     rintro z t wd ⟨i, acc, li, ov, rfl, rfl, hi4, os, hrd4, hres, hls, hll, hal, xd⟩
     have zd4 := xd.size
     unfold vQ
     by_cases hlt4 : i < 4
     .have d6 : decide ((i : Int) < 4) = true := by simp; omega
      obtain ⟨k, m, hLi, hc1, hc2, hmn⟩ := cells i hlt4
      have hdrop : L4.drop i = (k, m) :: L4.drop (i + 1) := by
       rw [ajK (akI.1 hLi).1, (akI.1 hLi).2]
      rw [hdrop] at hres hls
      rw [akZ, List.sum_cons] at hls
      simp only at hls
      have od13 := fT (o_b.ext xd (by omega))
      have m1 := od13.cell (off := i)
      rw [hc1] at m1
      have t8' : ∀ {w' : anU}, aR wd w' (fun y => y = p) -> (aL 95 (.pointer (some ⟨p8, 0, none⟩))).run pg w' = .ok (.value (.agg #[.int .i64 (iG (wC wl) : Nat), .slice (some ⟨b, 0, none⟩) (2 ^ iG (wC wl)) (2 ^ iG (wC wl))])) w' := fun x => by
       have := Ds (off := 0) ((o8b.ext xd (by omega)).ext x (by omega)) (by simp)
       simp only [aiU, aiQ, aiW] at this
       exact this
      have q1 := t8' (aR.dr wd _)
      have m2d := (fT (o10b.ext xd (by omega))).cell (off := i)
      rw [hc2] at m2d
      simp (disch := omega) only [aD, aY, d6, HK, aiB, aiC, eL, and_true, Result.ok.injEq, Next.value.injEq, bQ, aT, aA, true_and, bH, q1, m1, aH, aF]
      refine (X9 (n := k) (hrd4.ext (aR.dr wd dH) (fun _ _ _ h => h)) (by omega) (by omega)).mono ?_
      rintro r we ⟨hbs, _, hre, xe⟩
      have htk : Jm li 0 k = (li.take k, li.drop k, 0) := by unfold Jm; rw [if_neg (by simp), if_neg (by omega)]
      rw [htk] at hbs hre
      simp only at hbs hre
      have xde : aR wd we (fun y => y = p) := (aR.dr wd _).seq xe
      have zde := xde.size
      have q2 := t8' xde
      have m2 := ((o10b.ext xd (by omega)).ext xde (by omega)).cell (off := i)
      rw [hc2] at m2
      simp (disch := omega) only [q2, m2, aH, m2d, Result.ok.injEq, Next.value.injEq, and_true, aA, true_and]
      have hbs2 := hbs
      obtain ⟨sa, sn, sc, rfl, _, _⟩ := hbs2
      refine (Vt (base := 0) hF hm hC ⟨b, rfl, amE _, (obb.ext xd (by omega)).ext xde (by omega)⟩ hbs (by rw [aiR]; omega) (by omega)).mono ?_
      rintro r wf ⟨hr, xf⟩
      have zf := xf.size
      have x0f : aR w wf dH := ((x0b.trans xd fun y hy h => by omega).trans xde fun y hy h => by omega).seq xf
      cases hs : nQ (wC wl) (li.take k) m with
      | error e =>
        rw [hs] at hr
        obtain rfl : r = .tuple #[.slice none 0 0, .int .i64 e] := hr
        have n2 : (e != 0) = true := by have := Pz hs; simp; omega
        simp (disch := omega) only [oH, oF, aA, cO, n2, aF, true_and]
        exact err (by rw [hH, hres, Tm, hs]) x0f
      | ok mm =>
        rw [hs] at hr
        obtain ⟨sv, rfl, osv⟩ := hr
        have hml := YS hs
        have e2 : (i : Int) + 1 = ((i + 1 : Nat) : Int) := by omega
        simp (disch := omega) only [oH, oF, aA, cO, n1, aE, true_and]
        have osf := (os.ext xde (fun y hy h => by omega)).ext xf (fun _ _ h => h)
        refine fA (m := mm.length) (news := ZX mm) osf osv.cl (fun y hy => by obtain ⟨z, _, rfl⟩ := akM.1 hy; rfl) (by omega) (by omega) fun vg wg og xg => ?_
        have e3 : ZX acc ++ ZX mm = ZX (acc ++ mm) := by unfold ZX; rw [aiZ]
        rw [e3, <- aiE] at og
        try simp (disch := omega) only [e2]
        refine ⟨4 - (i + 1), by omega, i + 1, acc ++ mm, li.drop k, vg, rfl, rfl, by omega, og, ?_, ?_, ?_, ?_, ?_, ?_⟩
        .exact (hre.ext xf (fun _ _ _ h => h)).ext xg (fun y _ hy h => by omega)
        .rw [hres, Tm, hs]
        .rw [aiV]; omega
        .rw [aiV]; omega
        .rw [aiE]; omega
        .exact ((xd.seq xde).more xf).trans xg fun y hy h => by omega
     .have d6 : decide ((i : Int) < 4) = false := by simp; omega
      obtain rfl : i = 4 := by omega
      unfold vO
      simp (disch := omega) only [aD, aY, d6, eL, and_true, bQ, aT, aA, true_and, aE]
      have hnil : L4.drop 4 = [] := by rw [hL4] <;> rfl
      rw [hnil] at hres
      have hfin : HO wl l n = .ok acc := by rw [hH, hres]; simp [EV, TB]
      rw [hRR, hfin]
      exact ⟨⟨ov, rfl, pZ os (by omega)⟩, x0b.trans xd fun y hy h => by omega⟩
def Cw (w : anU) (p : Nat) (S : Nat -> Prop) (l : List UInt8) : Prop := ¬ S p /\ ∃ v, cL w p [v] /\ OL w S 1 v l.length (l.map lL)
theorem Cw.ext {w w' : anU} {p : Nat} {S M : Nat -> Prop} {l : List UInt8} (h : Cw w p S l) (x : aR w w' M) (hp : ¬ M p) (hM : ∀ b, S b -> ¬ M b) : Cw w' p S l := by
 obtain ⟨h0, v, h1, h2⟩ := h
 exact ⟨h0, v, h1.ext x hp, Cy h2 x hM⟩
theorem Cw.lt {w : anU} {p : Nat} {S : Nat -> Prop} {l : List UInt8} (h : Cw w p S l) : p < w.heap.size := by
 obtain ⟨_, v, h1, _⟩ := h; exact h1.lt
theorem Cw.turn {w : anU} {p : Nat} {S T : Nat -> Prop} {l : List UInt8} (h : Cw w p S l) (hT : ∀ b, S b -> b < w.heap.size -> T b) (hp : ¬ T p) : Cw w p T l := by
 obtain ⟨h0, v, h1, h2, h3⟩ := h
 refine ⟨hp, v, h1, h2, ?_⟩
 rcases h3 with h3 | ⟨b, c, rest, g1, g2, g3, g4, g5⟩
 .exact .inl h3
 .exact .inr ⟨b, c, rest, g1, hT b g2 g3.lt, g3, g4, g5⟩
theorem Hr {w : anU} {S : Nat -> Prop} {sz n : Nat} {v : anV} {l : List anV} (o3 : OL w S sz v n l) : ∃ a c, v = .slice a n c := by
 rcases o3.2 with ⟨rfl, rfl⟩ | ⟨b, c, rest, rfl, _⟩
 .exact ⟨_, _, rfl⟩
 .exact ⟨_, _, rfl⟩
theorem Wo {w : anU} {S : Nat -> Prop} {n : Nat} {v : anV} {l : List anV} (o3 : OL w S 1 v n l) : Sl w v l := by
 have : oI w 0 1 v n l := ⟨o3.1, by
  rcases o3.2 with h | ⟨b, c, rest, g1, g2, g3⟩
  .exact .inl h
  .exact .inr ⟨b, c, rest, g1, by omega, g3⟩⟩
 exact this.sl
theorem No (w : anU) : aP pg jE #[] w (fun r w' => r = .pointer (some ⟨w.heap.size, 0, none⟩) /\ w.heap.size < w'.heap.size /\ Cw w' w.heap.size (fun b => w.heap.size < b) [] /\ aR w w' dH) := by
 refine IS ?_
 unfold G9 uO
 simp (disch := omega) only [aD, OS, aA]
 refine mX fun w1 o1 x1 s1 => ?_
 simp only [Value.cells] at o1
 exact ⟨rfl, by omega, ⟨by omega, _, o1, ⟨rfl, .inl ⟨rfl, rfl⟩⟩⟩, x1⟩
theorem Su {p : Nat} {S : Nat -> Prop} {l m : List UInt8} {v : anV} {w : anU} (h : Cw w p S l) (hS : ∀ b, w.heap.size <= b -> S b) (hv : Bs w v m) (hl : l.length + m.length <= 1000000000) :
 aP pg jA #[.pointer (some ⟨p, 0, none⟩), v] w (fun r w' => r = .tuple #[] /\ Cw w' p S (l ++ m) /\ aR w w' (fun y => y = p ∨ S y)) := by
 refine Gy ?_
 unfold C4 pA
 obtain ⟨h0, v0, o, os⟩ := h
 obtain ⟨va, vc, rfl⟩ := Hr os
 have c0 := o.cell (off := 0)
 simp only [ahZ, aiA] at c0
 have lp := o.lt
 simp (disch := omega) only [aD, JS, ajF, akU, oL, true_and, aA, oS, cU, c0, aH, aF]
 have hcl := hv.cl
 rw [aiI] at hcl
 refine oK (m := m.length) (news := m.map lL) (i := Try.t5) Try.underlying22 Try.underlying22 FR rfl rfl rfl os hcl (P6 _) (fun b hb => hS b hb) (by omega) (by rw [show Try.t5.bytes = 1 from rfl]; omega) (by decide) fun v3 w3 o3 x3 => ?_
 have op3 := o.ext x3 h0
 obtain ⟨a3, c3, rfl⟩ := Hr o3
 refine oJ op3 rfl (by simp) fun w4 o4 x4 s4 => ?_
 simp only [aiG, aiF] at o4
 refine ⟨⟨h0, _, o4, ?_⟩, (x3.mono fun y _ h => .inr h).seq (x4.mono fun y _ h => .inl h)⟩
 have := Cy o3 x4 (fun b hb h => h0 (h ▸ hb))
 rw [aiE, aiZ]
 exact this
theorem KJ {p x n : Nat} {S : Nat -> Prop} {l : List UInt8} {w : anU} (h : Cw w p S l) (hS : ∀ b, w.heap.size <= b -> S b) (hx : x < 2 ^ 64) (hn : 1 <= n /\ n <= 8) (hl : l.length <= 100000000) :
 aP pg dJ #[.pointer (some ⟨p, 0, none⟩), .int .u64 x, .int .i64 n] w (fun r w' => r = .tuple #[] /\ Cw w' p S (l ++ fS x n) /\ aR w w' (fun y => y = p ∨ S y)) := by
 refine Fb ?_
 unfold B5 nE nG
 have d1 : decide ((n : Int) < 1) = false := by simp; omega
 have d2 : decide ((8 : Int) < (n : Int)) = false := by simp; omega
 simp (disch := omega) only [aD, Ce, ajF, true_and, aA, dS, bO, aiD, if_false, bW, aY, d1, dU, d2, aE]
 unfold nF nK
 refine cK.rule (fun m (t : anV) w' => ∃ i : Nat, m = n - i /\ t = .int .i64 i /\ i <= n /\ Cw w' p S (l ++ fS x i) /\ aR w w' (fun y => y = p ∨ S y)) n
  ⟨0, rfl, rfl, by omega, by rw [fS, akB]; exact h, aR.refl _ _⟩ ?_
 rintro m t w1 ⟨i, rfl, rfl, hi, hw, x1⟩
 unfold kA
 by_cases hlt : i < n
 .have d3 : decide ((i : Int) < (n : Int)) = true := by simp; omega
  have e0 : ((8 : Int) * (i : Int)) = ((8 * i : Nat) : Int) := by omega
  have e1 : (x : Int).fdiv (2 ^ (min (8 * i) IntKind.u64.bits)) = ((x / 256 ^ i : Nat) : Int) := by
   rw [Xd]; exact Lm x (8 * i) (by omega)
  have e2 : IntKind.u8.wrap ((x / 256 ^ i : Nat) : Int) = (((UInt8.ofNat (x / 256 ^ i % 256)).toNat : Nat) : Int) := by
   rw [UInt8.toNat_ofNat']
   generalize x / 256 ^ i = y
   rw [show IntKind.u8.wrap (y : Int) = (y : Int) % 256 from rfl]
   omega
  obtain ⟨c, hc⟩ : ∃ c, c = UInt8.ofNat (x / 256 ^ i % 256) := ⟨_, rfl⟩
  rw [<- hc] at e2
  obtain ⟨h0, v0, o, os⟩ := hw
  obtain ⟨va, vc, rfl⟩ := Hr os
  have c0 := o.cell (off := 0)
  simp only [ahZ, aiA] at c0
  have lp := o.lt
  have hsz := x1.size
  have hpl := dM i x
  rw [aiE, hpl] at os
  rw [aiE, hpl] at c0
  simp (disch := omega) only [aD, aY, d3, oL, Ku, e0, aT, bQ, aA, oS, dZ, iZ, uT, aiB, e1, pP, e2, cU, c0, aH, aF]
  refine iC (cells := #[.int .u8 c.toNat]) (by decide) (by decide) (by kernel_rfl) fun w2 o2 x2 s2 => ?_
  refine oK (m := 1) (news := [lL c]) (i := Try.t5) Try.underlying22 Try.underlying22 FR rfl rfl rfl (Cy os x2 (fun _ _ h => h)) (o2.cl (off := 0) (l := [lL c]) (n := 1) rfl (fun i hi => by rw [aiC] <;> rfl)) (by simp [one, lL]) (fun b hb => hS b (by omega)) (by omega) (by rw [show Try.t5.bytes = 1 from rfl]; omega) (by decide) fun v3 w3 o3 x3 => ?_
  have x13 : aR w1 w3 S := (x2.mono fun _ _ h => h.elim).seq x3
  have op3 := o.ext x13 h0
  obtain ⟨a3, c3, rfl⟩ := Hr o3
  refine oJ op3 rfl (by simp) fun w4 o4 x4 s4 => ?_
  simp only [aiG, aiF] at o4
  have x14 : aR w1 w4 (fun y => y = p ∨ S y) := (x13.mono fun y _ h => .inr h).seq (x4.mono fun y _ h => .inl h)
  refine ⟨n - (i + 1), by omega, i + 1, rfl, rfl, by omega, ⟨h0, _, o4, ?_⟩, x1.seq x14⟩
  have := Cy o3 x4 (fun b hb h => h0 (h ▸ hb))
  rw [TR, <- hc, <- ajI, aiZ, aiE, aiE, dM]
  exact this
 .have d3 : decide ((i : Int) < (n : Int)) = false := by simp; omega
  obtain rfl : i = n := by omega
  simp (disch := omega) only [aD, aY, d3, oL, Ku, aT, bQ, aA, oS, dZ, iZ, uT, pP, cU, aE]
  exact ⟨hw, x1⟩
theorem Sf {p : Nat} {S : Nat -> Prop} {l : List UInt8} {w : anU} (h : Cw w p S l) (hl : l.length <= 1000000000) :
 aP pg iP #[.pointer (some ⟨p, 0, none⟩)] w (fun r w' => oI w' w.heap.size 1 r l.length (l.map lL) /\ aR w w' dH) := by
 refine HU ?_
 unfold Ft sE
 obtain ⟨h0, v0, o, os⟩ := h
 obtain ⟨va, vc, rfl⟩ := Hr os
 have c0 := o.cell (off := 0)
 simp only [ahZ, aiA] at c0
 simp (disch := omega) only [aD, Ce, ajF, oL, aA, oS, cU, c0, aH, aE]
 exact BP (Wo os) hl
theorem aaF {wl : List UInt8} (h : dD (aU wl) ≠ 0) : WrC (wC wl) := by
 obtain ⟨hF, hm, hC⟩ := WOk.full h
 refine ⟨hC, fun s e he => ?_⟩
 obtain ⟨h1, h2⟩ := hF.le s e.1 e.2 he
 exact ⟨by omega, fun h0 => alM (h2 h0) (aiK (by omega) (by omega))⟩
theorem Uj {wl : List UInt8} (h : dD (aU wl) ≠ 0) (s : Nat) : bitsOf (wC wl) s <= 11 := by
 unfold bitsOf
 rw [aiJ]
 cases he : (wC wl)[s]? with
 | none => simp
 | some e => exact ((aaF h).2 s e he).1
theorem Tg {wl l bytes : List UInt8} (h : dD (aU wl) ≠ 0) (hall : ∀ s ∈ aU l, 0 < bitsOf (wC wl) s) (hb : Ra (G1 (wC wl) (aU l) ++ [true]) bytes) : nQ (wC wl) bytes l.length = .ok (aU l) := by
 obtain ⟨hF, hm, hC⟩ := WOk.full h
 obtain ⟨h1, h2⟩ := Zs hb
 have h3 := XC hF (T := aQ bytes) hall h2
 rw [cT] at h3
 unfold nQ
 rw [h1]
 simp only
 rw [h3]
 simp
theorem Zl {wl l bytes : List UInt8} (h : dD (aU wl) ≠ 0) (hb : Ra (G1 (wC wl) (aU l) ++ [true]) bytes) : bytes.length <= (11 * l.length + 8) / 8 := by
 have h1 := jO (Uj h) (aU l)
 rw [cT] at h1
 rw [hb.len, aiE, ajP]
 omega
def adH (w : anU) (base : Nat) (wl l : List UInt8) (back : List UInt8 -> Except Int (List Nat)) (lim : Nat) (bad : Prop) (r : anV) : Prop :=
 ((dD (aU wl) = 0 ∨ bad ∨ ∃ s ∈ aU l, bitsOf (wC wl) s = 0) /\ r = .tuple #[.slice none 0 0, .int .i64 1]) ∨
 (dD (aU wl) ≠ 0 /\ (∀ s ∈ aU l, 0 < bitsOf (wC wl) s) /\ ∃ v bytes, r = .tuple #[v, .int .i64 0] /\ Bs w v bytes /\ UH v base w.heap.size /\ bytes.length <= lim /\ back bytes = .ok (aU l))
theorem U2 {lv sv : anV} {wl l : List UInt8} {w : anU} (hw : Bs w lv wl) (hwl : wl.length <= 100000) (h : Bs w sv l) (hl : l.length <= 131072) :
 aP pg BR #[lv, sv] w (fun r w' => adH w' w.heap.size wl l (fun b => Ss wl b l.length) ((11 * l.length + 8) / 8) False r /\ aR w w' dH) := by
 refine PZ ?_
 unfold QT EL
 by_cases hd : dD (aU wl) = 0
 .refine (P5 hw hwl hd).mono ?_
  rintro r w1 ⟨rfl, rfl⟩
  have n0 : ((1 : Int) != 0) = true := rfl
  simp (disch := omega) only [aD, oH, oF, aA, cO, n0, aF]
  exact ⟨.inl ⟨.inl hd, rfl⟩, aR.refl _ _⟩
 .refine (Uw hw rfl hd).mono ?_
  rintro r w1 ⟨b, rfl, hb, ob, x1⟩
  have n0 : ((0 : Int) != 0) = false := rfl
  have h1 := h.ext x1 (aW _)
  have hv := h1
  obtain ⟨a, c, rfl, hc⟩ := h1.len
  rw [aiI] at hv ⊢
  have d1 : decide ((l.length : Int) > 131072) = false := decide_eq_false (by omega)
  have d2 : decide ((131072 : Int) < (l.length : Int)) = false := decide_eq_false (by omega)
  simp (disch := omega) only [aD, oH, oF, aN, aA, dU, d1, aE, cO, n0]
  have hcl : wl.length = (wC wl).length := by rw [qD, cT]
  rw [hcl]
  refine (VC ob hv (aaF hd) (by omega)).mono ?_
  rintro r w2 ⟨he, x2⟩
  have z1 := x1.size
  rcases he with ⟨hbad, rfl⟩ | ⟨hall, v, bytes, rfl, hbs, hheld, hat⟩
  .simp (disch := omega) only [oH, oF, aA]
   exact ⟨.inl ⟨.inr (.inr hbad), rfl⟩, x1.seq x2⟩
  .simp (disch := omega) only [oH, oF, aA]
   refine ⟨.inr ⟨hd, hall, _, bytes, rfl, hbs, fun M hM => hat M fun y h1 h2 => hM y (by omega) h2, Zl hd hheld, ?_⟩, x1.seq x2⟩
   show Ss wl bytes l.length = _
   unfold Ss
   rw [if_neg hd]
   exact Tg hd hall hheld
def sg (l : List UInt8) (q i : Nat) : List UInt8 := if i < 3 then (l.drop (i * q)).take q else l.drop (3 * q)
theorem J8 {l : List UInt8} {q i : Nat} (h : 3 * q <= l.length) : (sg l q i).length = if i < 3 then q else l.length - 3 * q := by
 unfold sg
 split
 .rename_i hi
  have : i * q <= 2 * q := ajG q (by omega)
  rw [aiR, aiV]; omega
 .rw [aiV]
theorem Zy {l : List UInt8} {q : Nat} : sg l q 0 ++ (sg l q 1 ++ (sg l q 2 ++ sg l q 3)) = l := by
 unfold sg
 simp only [show (0 : Nat) < 3 from by omega, show (1 : Nat) < 3 from by omega, show (2 : Nat) < 3 from by omega, if_true, Nat.lt_irrefl, if_false, anP, amU, aiU]
 have e2 : l.drop (3 * q) = (l.drop (2 * q)).drop q := by rw [amF]; congr 1; omega
 have e1 : l.drop (2 * q) = (l.drop q).drop q := by rw [amF]; congr 1; omega
 rw [e2, alQ, e1, alQ, alQ]
def Uo (P : List (List UInt8)) : List UInt8 := (P.take 3).flatMap fun s => fS s.length 2
theorem Ln {x n : Nat} {r : List UInt8} : (fS x n ++ r).drop n = r := amZ (dM n x)
theorem PA {x n : Nat} {r : List UInt8} : (fS x n ++ r).take n = fS x n := amL (dM n x)
theorem X6 {wl l a b c d : List UInt8} (h : dD (aU wl) ≠ 0) (hq : 3 * ((l.length + 3) / 4) <= l.length) (hl : l.length <= 131072)
 (ha : nQ (wC wl) a (sg l ((l.length + 3) / 4) 0).length = .ok (aU (sg l ((l.length + 3) / 4) 0))) (hb : nQ (wC wl) b (sg l ((l.length + 3) / 4) 1).length = .ok (aU (sg l ((l.length + 3) / 4) 1)))
 (hc : nQ (wC wl) c (sg l ((l.length + 3) / 4) 2).length = .ok (aU (sg l ((l.length + 3) / 4) 2))) (hd : nQ (wC wl) d (sg l ((l.length + 3) / 4) 3).length = .ok (aU (sg l ((l.length + 3) / 4) 3)))
 (la : a.length < 65536) (lb : b.length < 65536) (lc : c.length < 65536) :
 HO wl (Uo [a, b, c, d] ++ (a ++ (b ++ (c ++ d)))) l.length = .ok (aU l) := by
 have hs : Uo [a, b, c, d] = fS a.length 2 ++ (fS b.length 2 ++ fS c.length 2) := by unfold Uo; simp
 generalize hq' : (l.length + 3) / 4 = q at *
 have l0 := J8 (i := 0) hq
 have l1 := J8 (i := 1) hq
 have l2 := J8 (i := 2) hq
 have l3 := J8 (i := 3) hq
 simp only [show (0 : Nat) < 3 from by omega, show (1 : Nat) < 3 from by omega, show (2 : Nat) < 3 from by omega, if_true, Nat.lt_irrefl, if_false] at l0 l1 l2 l3
 rw [l0] at ha
 rw [l1] at hb
 rw [l2] at hc
 rw [l3] at hd
 rw [hs, ajI, ajI]
 generalize hY : a ++ (b ++ (c ++ d)) = Y
 have hYl : Y.length = a.length + (b.length + (c.length + d.length)) := by rw [<- hY]; simp
 have d2 : (fS a.length 2 ++ (fS b.length 2 ++ (fS c.length 2 ++ Y))).drop 2 = fS b.length 2 ++ (fS c.length 2 ++ Y) := Ln
 have d4 : (fS a.length 2 ++ (fS b.length 2 ++ (fS c.length 2 ++ Y))).drop 4 = fS c.length 2 ++ Y := by
  rw [show 4 = 2 + 2 from rfl, <- amF, d2]; exact Ln
 have d6 : (fS a.length 2 ++ (fS b.length 2 ++ (fS c.length 2 ++ Y))).drop 6 = Y := by
  rw [show 6 = 4 + 2 from rfl, <- amF, d4]; exact Ln
 have hlen : (fS a.length 2 ++ (fS b.length 2 ++ (fS c.length 2 ++ Y))).length = 6 + Y.length := by simp [dM]; omega
 have nm : ∀ x, x < 65536 -> mS (fS x 2) = x := fun x hx => by rw [Ll]; exact ajJ hx
 have eA : nA (fS a.length 2 ++ (fS b.length 2 ++ (fS c.length 2 ++ Y))) = a.length := by unfold nA; rw [PA, nm _ la]
 have eB : nB (fS a.length 2 ++ (fS b.length 2 ++ (fS c.length 2 ++ Y))) = b.length := by unfold nB; rw [d2, PA, nm _ lb]
 have eC : nC (fS a.length 2 ++ (fS b.length 2 ++ (fS c.length 2 ++ Y))) = c.length := by unfold nC; rw [d4, PA, nm _ lc]
 unfold HO
 rw [if_neg h, hq', if_neg (by omega), if_neg (by rw [hlen]; omega), d6, eA, eB, eC, if_neg (by omega)]
 have ed : Y.length - (a.length + b.length + c.length) = d.length := by omega
 rw [ed, <- hY, EV, amL rfl, ha]
 simp only
 rw [amZ rfl, EV, amL rfl, hb]
 simp only
 rw [amZ rfl, EV, amL rfl, hc]
 simp only
 rw [amZ rfl, EV, akP (aiM _), hd]
 simp only [EV, akB]
 have := Zy (l := l) (q := q)
 conv => rhs; rw [<- this]
 simp only [aU, aiZ]
theorem acK {l : List UInt8} {q i : Nat} (hi : i < 4) (hq : 3 * q <= l.length) : (l.drop (i * q)).take (if i < 3 then q else l.length - 3 * q) = sg l q i /\
 (l.drop (i * q)).drop (if i < 3 then q else l.length - 3 * q) = if i < 3 then l.drop ((i + 1) * q) else [] := by
 unfold sg
 by_cases h : i < 3
 .simp only [if_pos h]
  refine ⟨trivial, ?_⟩
  rw [amF]; congr 1; rw [ajR]; omega
 .simp only [if_neg h]
  obtain rfl : i = 3 := by omega
  refine ⟨akP (by rw [aiV]; omega), anG (by rw [aiV]; omega)⟩
structure ZH (W : anU) (p n0 : Nat) (C : List (Nat × Nat)) (l : List UInt8) (q : Nat) (av : anV) (P : List (List UInt8)) (SA SW : Nat -> Prop) : Prop where
 a0 : ∀ b, SA b -> n0 <= b /\ b ≠ p /\ ¬ SW b
 aw : ∀ b, SA b -> b < W.heap.size
 s0 : ∀ b, SW b -> n0 <= b /\ b < W.heap.size
 al : OL W SA 1 av P.flatten.length (P.flatten.map lL)
 wr : Cw W p SW (Uo P)
 held : ∀ j s, P[j]? = some s -> Ra (G1 C (aU (sg l q j)) ++ [true]) s
 all : ∀ j, j < P.length -> ∀ s ∈ aU (sg l q j), 0 < bitsOf C s
theorem VD {P : List (List UInt8)} {s : List UInt8} : Uo (P ++ [s]) = if P.length < 3 then Uo P ++ fS s.length 2 else Uo P := by
 unfold Uo
 by_cases h : P.length < 3
 .rw [if_pos h, akP (by simp; omega), akP (by omega), List.flatMap_append]; simp
 .rw [if_neg h, alT (by omega)]
theorem Uy (P : List (List UInt8)) : (Uo P).length <= 6 := by
 have : ∀ Q : List (List UInt8), (Q.flatMap fun s => fS s.length 2).length = 2 * Q.length := by
  intro Q
  induction Q with
  | nil => rfl
  | cons s Q ih => rw [List.flatMap_cons, aiE, ih, dM, aiP]; omega
 unfold Uo
 rw [this, aiR]; omega
theorem XE {w : anU} {S T : Nat -> Prop} {sz n : Nat} {v : anV} {l : List anV} (h : OL w S sz v n l) (hT : ∀ b, S b -> b < w.heap.size -> T b) : OL w T sz v n l := by
 refine ⟨h.1, ?_⟩
 rcases h.2 with h2 | ⟨b, c, rest, e, hb, o, hc, hn⟩
 .exact .inl h2
 .exact .inr ⟨b, c, rest, e, hT b hb o.lt, o, hc, hn⟩
theorem Qq {a : Option Addr} {n c m c' k : Nat} {M : Nat -> Prop} (h : ¬ TF (.slice a n c) M) (hm : m <= n) : ¬ TF (.slice (fY a c k 1) m c') M := by
 have := Vc.sub (a := a) (n := n) (c := c) (m := m) (c' := c') (k := k) (mx := c) (sz := 1) (S := fun y => ¬ M y) (fun N hN hh => h (Pq hh fun b hb => Classical.byContradiction fun hm => hN b hm hb)) hm
 exact this M fun b hb => hb
theorem Yd {RR : anV -> anU -> Prop} {l : List UInt8} {q b p n0 : Nat} {C : List (Nat × Nat)} {sv : anV} {w0 : anU} (hC : WrC C) (ho : cL w0 b (cc C)) (hs : Bs w0 sv l) (hq : 3 * q <= l.length) (hq2 : l.length <= 4 * q) (hq3 : q <= 32768) (hl : l.length <= 131072)
 (hn0 : n0 <= w0.heap.size) (hp : n0 <= p) (hb : b < n0) (hsv : ¬ TF sv (fun y => n0 <= y)) {SW0 : Nat -> Prop} (hw : Cw w0 p SW0 []) (hSW : ∀ y, SW0 y -> n0 <= y /\ y < w0.heap.size)
 (hbad : ∀ W, (∃ s ∈ aU l, bitsOf C s = 0) -> aR w0 W (fun y => n0 <= y) -> RR (.tuple #[.slice none 0 0, .int .i64 1]) W)
 (hok : ∀ W v P, P.length = 4 -> (∀ j s, P[j]? = some s -> Ra (G1 C (aU (sg l q j)) ++ [true]) s) -> (∀ s ∈ aU l, 0 < bitsOf C s) -> Bs W v (Uo P ++ P.flatten) -> UH v w0.heap.size W.heap.size -> aR w0 W (fun y => n0 <= y) -> RR (.tuple #[v, .int .i64 0]) W) :
 tD (fun iY cC w => pV RR iY cC w) RR sv (.slice (some ⟨b, 0, none⟩) C.length C.length) (.pointer (some ⟨p, 0, none⟩)) (.slice none 0 0)
  (.agg #[.int .i64 (q : Nat), .int .i64 (q : Nat), .int .i64 (q : Nat), .int .i64 ((l.length : Int) - 3 * (q : Int))]) (.int .i64 0) w0 := by
 unfold tD BB
 have hbits : ∀ s, bitsOf C s <= 11 := fun s => by
  unfold bitsOf
  rw [aiJ]
  cases h : C[s]? with
  | none => simp
  | some e => exact (hC.2 s e h).1
 refine cK.rule (fun m (t : anV × anV × anV) W => ∃ (i : Nat) (sv' av : anV) (P : List (List UInt8)) (SA SW : Nat -> Prop), m = 4 - i /\ t = (sv', av, .int .i64 i) /\ i <= 4 /\ P.length = i /\ (i < 4 -> Bs W sv' (l.drop (i * q)) /\ ¬ TF sv' (fun y => n0 <= y)) /\
  ZH W p n0 C l q av P SA SW /\ aR w0 W (fun y => n0 <= y)) 4
  ⟨0, sv, .slice none 0 0, [], fun _ => False, SW0, rfl, rfl, by omega, rfl, fun _ => ⟨by rw [anP]; exact hs, hsv⟩, ⟨fun _ h => h.elim, fun _ h => h.elim, hSW, ⟨rfl, .inl ⟨rfl, rfl⟩⟩, hw, fun j s h => by simp at h, fun j h => by simp at h⟩, aR.refl _ _⟩ ?_
 rintro m t W ⟨i, sv', av, P, SA, SW, rfl, rfl, hi, hPl, hsv', hE, hx⟩
 obtain ⟨hA0, hAw, hS0, hal, hwr, hheld, hall⟩ := hE
 have zW := hx.size
 unfold vI CG
 have hpW := hwr.lt
 have hal2 := hal
 obtain ⟨aa, ac, rfl⟩ := Hr hal
 have hfl : P.flatten.length <= 262144 := by
  have key : ∀ (Q : List (List UInt8)), (∀ s ∈ Q, s.length <= 65536) -> Q.flatten.length <= 65536 * Q.length := by
   intro Q
   induction Q with
   | nil => intro _; simp
   | cons s Q ih =>
     intro h
     have h1 := h s (alN ..)
     have h2 := ih fun t ht => h t (aiT _ ht)
     rw [amB, aiE, aiP]; omega
  have := key P fun s hs => by
   obtain ⟨j, hj⟩ := List.getElem?_of_mem hs
   have h1 := hheld j s hj
   have h2 := jO hbits (aU (sg l q j))
   have h3 : (sg l q j).length <= 32768 := by rw [J8 hq]; split <;> omega
   rw [cT] at h2
   rw [h1.len, aiE, ajP]
   omega
  omega
 by_cases hlt : i < 4
 .have d1 : decide ((i : Int) < 4) = true := decide_eq_true (by omega)
  obtain ⟨hsb, hin⟩ := hsv' hlt
  obtain ⟨z, hz⟩ : ∃ z, z = if i < 3 then q else l.length - 3 * q := ⟨_, rfl⟩
  obtain ⟨hsg, hsd⟩ := acK hlt hq
  rw [<- hz] at hsg hsd
  have hsl := J8 (i := i) hq
  rw [<- hz] at hsl
  have hzq : z <= 32768 := by rw [hz]; split <;> omega
  have hiq : i * q <= 3 * q := ajG q (by omega)
  have hzl : z <= (l.drop (i * q)).length := by
   rw [aiV, hz]
   split
   .have : i * q <= 2 * q := ajG q (by omega)
    omega
   .omega
  have hix : (#[.int .i64 (q : Nat), .int .i64 (q : Nat), .int .i64 (q : Nat), .int .i64 ((l.length : Int) - 3 * (q : Int))] : Array anV)[i]? = some (.int .i64 (z : Nat)) := by
   rcases (show i = 0 ∨ i = 1 ∨ i = 2 ∨ i = 3 by omega) with rfl | rfl | rfl | rfl
   .rw [hz] <;> rfl
   .rw [hz] <;> rfl
   .rw [hz] <;> rfl
   .rw [hz]
    have : ((l.length : Int) - 3 * (q : Int)) = ((l.length - 3 * q : Nat) : Int) := by omega
    simp [this]
  have hv := hsb
  obtain ⟨a, c, rfl, hc⟩ := hsb.len
  rw [aiI] at hv hc hin
  generalize hn : (l.drop (i * q)).length = n at *
  unfold CR Ct IG CX
  simp (disch := omega) only [aD, aY, d1, jG, aiB, hix, aH, aiI, hn, aA, nO, eD, aF]
  have hseg : Bs W (.slice (fY a c 0 1) (z - 0) (c - 0)) (sg l q i) := by
   have := Sl.take' hv (k := z) hzl
   rw [<- amT, hsg] at this
   exact this
  refine (VC (ho.ext hx (by omega)) hseg hC (by rw [hsl]; omega)).mono ?_
  rintro r W1 ⟨he, x1⟩
  have z1 := x1.size
  have y1 : aR w0 W1 (fun y => n0 <= y) := hx.trans x1 fun _ _ h => h.elim
  rcases he with ⟨⟨s, hs1, hs2⟩, rfl⟩ | ⟨hal1, v, bytes, rfl, hbs, hheld1, hat⟩
  .have n1 : ((1 : Int) != 0) = true := rfl
   simp (disch := omega) only [oH, oF, aA, cO, n1, aF]
   refine hbad W1 ⟨s, ?_, hs2⟩ y1
   have hsub : ∀ x ∈ sg l q i, x ∈ l := fun x hx => by
    unfold sg at hx
    split at hx
    .exact amS (alB hx)
    .exact amS hx
   obtain ⟨x, hx1, hx2⟩ := akM.1 hs1
   exact akM.2 ⟨x, hsub x hx1, hx2⟩
  .have n1 : ((0 : Int) != 0) = false := rfl
   have hbl : bytes.length < 65536 := by
    have h1 := jO hbits (aU (sg l q i))
    rw [cT, hsl] at h1
    rw [hheld1.len, aiE, ajP]
    omega
   have hbv := hbs
   obtain ⟨a2, c2, rfl, hc2⟩ := hbs.len
   rw [aiI] at hbv hat
   have e1 : (i : Int) + 1 = ((i + 1 : Nat) : Int) := by omega
   have hszl := Uy P
   have fin : ∀ (W2 : anU) (SW2 : Nat -> Prop), Cw W2 p SW2 (Uo (P ++ [bytes])) -> aR W1 W2 (fun y => y = p ∨ SW y ∨ W1.heap.size <= y) -> (∀ y, SW2 y -> (SW y ∨ W1.heap.size <= y) /\ y < W2.heap.size) →
       aD pg (gD .append #[22, 22] 22 [.slice aa P.flatten.length ac, .slice a2 bytes.length c2]) W2 fun t69 w =>
        aD pg (aG .add 3 aK aK (.int .i64 i) (.int .i64 1)) w fun t70 w =>
         ∃ m, m < 4 - i /\ ∃ (i' : Nat) (sv' av : anV) (P : List (List UInt8)) (SA SW : Nat -> Prop), m = 4 - i' /\ ((.slice (fY a c z 1) (n - z) (c - z) : anV), t69, t70) = (sv', av, .int .i64 i') /\ i' <= 4 /\ P.length = i' /\ (i' < 4 -> Bs w sv' (l.drop (i' * q)) /\ ¬ TF sv' (fun y => n0 <= y)) /\
           ZH w p n0 C l q av P SA SW /\ aR w0 w (fun y => n0 <= y) := by
    intro W2 SW2 hw2 x2 hS2
    have z2 := x2.size
    have hbs2 : Bs W2 (.slice a2 bytes.length c2) bytes := hbv.ext x2 (hat _ fun y h1 h2 h3 => by
     rcases h3 with h3 | h3 | h3
     .omega
     .have := (hS0 y h3).2; omega
     .omega)
    have hcl := hbs2.cl
    rw [aiI] at hcl
    have hal3 : OL W2 (fun y => SA y ∨ W2.heap.size <= y) 1 (.slice aa P.flatten.length ac) P.flatten.length (P.flatten.map lL) := by
     refine XE (Cy (Cy hal2 x1 (fun _ _ h => h)) x2 fun y hy h3 => ?_) fun y hy _ => .inl hy
     have h4 := hA0 y hy
     have h5 := hAw y hy
     rcases h3 with h3 | h3 | h3
     .exact h4.2.1 h3
     .exact h4.2.2 h3
     .omega
    refine oK (m := bytes.length) (news := bytes.map lL) (i := Try.t5) Try.underlying22 Try.underlying22 FR rfl rfl rfl hal3 hcl (P6 _) (fun y hy => .inr hy) (by omega) (by rw [show Try.t5.bytes = 1 from rfl]; omega) (by decide) fun v3 W3 o3 x3 => ?_
    have z3 := x3.size
    simp (disch := omega) only [aD, bQ, e1, aT, aA]
    have y3 : aR w0 W3 (fun y => n0 <= y) := (y1.trans x2 fun y _ h => by
     rcases h with h | h | h
     .omega
     .exact (hS0 y h).1
     .omega).trans x3 fun y _ h => by
     rcases h with h | h
     .exact (hA0 y h).1
     .omega
    refine ⟨4 - (i + 1), by omega, i + 1, _, v3, P ++ [bytes], fun y => (SA y ∨ W2.heap.size <= y) /\ y < W3.heap.size, SW2, rfl, rfl, by omega, by rw [aiE, ajP, hPl], ?_, ⟨?_, fun y hy => hy.2, fun y hy => ?_, ?_, ?_, ?_, ?_⟩, y3⟩
    .intro hi4
     have hlt3 : i < 3 := by omega
     rw [if_pos hlt3] at hsd
     refine ⟨?_, Qq hin (by omega)⟩
     have := Sl.drop' hv (k := z) hzl
     rw [<- amJ, hsd] at this
     refine Sl.ext (Sl.ext (Sl.ext this x1 (aW _)) x2 ?_) x3 ?_
     .exact fun h => Qq hin (by omega) (Pq h fun y hy => by
       rcases hy with hy | hy | hy
       .omega
       .exact (hS0 y hy).1
       .omega)
     .exact fun h => Qq hin (by omega) (Pq h fun y hy => by
       rcases hy with hy | hy
       .exact (hA0 y hy).1
       .omega)
    .rintro y ⟨hy | hy, hy2⟩
     .have h4 := hA0 y hy
      refine ⟨h4.1, h4.2.1, fun h => ?_⟩
      have h5 := hAw y hy
      rcases (hS2 y h).1 with h6 | h6
      .exact h4.2.2 h6
      .omega
     .refine ⟨by omega, fun h => ?_, fun h => ?_⟩
      .have := hw2.lt; omega
      .have := (hS2 y h).2; omega
    .obtain ⟨h1, h2⟩ := hS2 y hy
     refine ⟨?_, by omega⟩
     rcases h1 with h1 | h1
     .exact (hS0 y h1).1
     .omega
    .rw [List.flatten_append, List.flatten_singleton, aiE, aiZ]
     exact XE o3 fun y hy h => ⟨hy, h⟩
    .refine hw2.ext x3 (fun h => ?_) fun y hy h => ?_
     .rcases h with h | h
      .exact (hA0 p h).2.1 rfl
      .have := hw2.lt; omega
     .obtain ⟨h1, h2⟩ := hS2 y hy
      rcases h with h | h
      .rcases h1 with h1 | h1
       .exact (hA0 y h).2.2 h1
       .have := hAw y h; omega
      .omega
    .intro j s hj
     rcases aiS j P.length with hjl | hjl
     .rw [aiX hjl] at hj; exact hheld j s hj
     .rw [akF hjl] at hj
      have : j - P.length = 0 := by
       rcases alX (j - P.length) with h | h
       .exact h
       .rw [aiO (by simp; omega)] at hj; cases hj
      rw [this] at hj
      obtain rfl : bytes = s := by simpa using hj
      obtain rfl : j = i := by omega
      exact hheld1
    .intro j hj s hs
     rw [aiE, ajP] at hj
     rcases aiS j P.length with hjl | hjl
     .exact hall j hjl s hs
     .obtain rfl : j = i := by omega
      exact hal1 s hs
   have hwr1 : Cw W1 p (fun y => SW y ∨ W1.heap.size <= y) (Uo P) := (hwr.ext x1 (fun h => h) (fun _ _ h => h)).turn (fun y hy _ => .inl hy) (fun h => by
    rcases h with h | h
    .exact hwr.1 h
    .omega)
   by_cases hi3 : i < 3
   .have d3 : decide ((i : Int) < 3) = true := decide_eq_true (by omega)
    have d4 : decide ((65536 : Int) <= (bytes.length : Int)) = false := decide_eq_false (by omega)
    have d5 : decide ((bytes.length : Int) ≥ 65536) = false := decide_eq_false (by omega)
    simp (disch := omega) only [aiI, oH, oF, d3, aF, aA, cO, n1, aE, aN, qA, iZ, lK, d4]
    refine (KJ (x := bytes.length) (n := 2) hwr1 (fun y hy => .inr hy) (by omega) (by omega) (by omega)).mono ?_
    rintro r W2 ⟨rfl, hw2, x2⟩
    unfold pQ pU
    have hsz : Uo (P ++ [bytes]) = Uo P ++ fS bytes.length 2 := by rw [VD, if_pos (by omega)]
    rw [<- hsz] at hw2
    exact fin W2 (fun y => (SW y ∨ W1.heap.size <= y) /\ y < W2.heap.size) (hw2.turn (fun y hy h => ⟨hy, h⟩) (fun h => hw2.1 h.1)) x2 (fun y hy => hy)
   .have d3 : decide ((i : Int) < 3) = false := decide_eq_false (by omega)
    simp (disch := omega) only [aiI, oH, oF, d3, aE, aA, cO, n1]
    unfold pQ pU
    have hsz : Uo (P ++ [bytes]) = Uo P := by rw [VD, if_neg (by omega)]
    rw [<- hsz] at hwr1
    exact fin W1 (fun y => (SW y ∨ W1.heap.size <= y) /\ y < W1.heap.size) (hwr1.turn (fun y hy h => ⟨hy, h⟩) (fun h => hwr1.1 h.1)) (aR.refl _ _) (fun y hy => hy)
 .have d1 : decide ((i : Int) < 4) = false := decide_eq_false (by omega)
  obtain rfl : i = 4 := by omega
  simp (disch := omega) only [aD, aY, d1, aA, aE]
  unfold pV
  have hwr1 : Cw W p (fun y => SW y ∨ W.heap.size <= y) (Uo P) := hwr.turn (fun y hy _ => .inl hy) (fun h => by
   rcases h with h | h
   .exact hwr.1 h
   .omega)
  have hszl := Uy P
  refine (Su hwr1 (fun y hy => .inr hy) (Wo hal2) (by omega)).mono ?_
  rintro r W2 ⟨rfl, hw2, x2⟩
  refine (Sf hw2 (by rw [aiE]; omega)).mono ?_
  rintro r W3 ⟨o3, x3⟩
  have z2 := x2.size
  have hat := oI.atI o3
  obtain ⟨a3, c3, rfl⟩ := o3.len
  refine hok W3 _ P hPl hheld ?_ o3.sl (fun M hM => hat M fun y h1 h2 => hM y (by omega) h2) ((hx.trans x2 fun y _ h => ?_).trans x3 fun _ _ h => h.elim)
  .intro s hs
   have hall' : ∀ j, j < 4 -> ∀ s ∈ aU (sg l q j), 0 < bitsOf C s := fun j hj => hall j (by omega)
   have := Zy (l := l) (q := q)
   rw [<- this] at hs
   simp only [aU, aiZ, ajT] at hs
   rcases hs with hs | hs | hs | hs
   .exact hall' 0 (by omega) s hs
   .exact hall' 1 (by omega) s hs
   .exact hall' 2 (by omega) s hs
   .exact hall' 3 (by omega) s hs
  .rcases h with h | h | h
   .omega
   .exact (hS0 y h).1
   .omega
theorem UD {lv sv : anV} {wl l : List UInt8} {w : anU} (hw : Bs w lv wl) (hwl : wl.length <= 100000) (h : Bs w sv l) (hl : l.length <= 131072) :
 aP pg Ad #[lv, sv] w (fun r w' => adH w' w.heap.size wl l (fun b => HO wl b l.length) (11 * l.length / 8 + 12) (l.length < 3 * ((l.length + 3) / 4)) r /\ aR w w' dH) := by
 refine OM ?_
 unfold Oo Bk Bj
 by_cases hd : dD (aU wl) = 0
 .refine (P5 hw hwl hd).mono ?_
  rintro r w1 ⟨rfl, rfl⟩
  have n0 : ((1 : Int) != 0) = true := rfl
  simp (disch := omega) only [aD, oH, oF, aA, cO, n0, aF]
  exact ⟨.inl ⟨.inl hd, rfl⟩, aR.refl _ _⟩
 .refine (Uw hw rfl hd).mono ?_
  rintro r w1 ⟨b, rfl, hb, ob, x1⟩
  have n0 : ((0 : Int) != 0) = false := rfl
  have h1 := h.ext x1 (aW _)
  have hv := h1
  obtain ⟨a, c, rfl, hc⟩ := h1.len
  rw [aiI] at hv ⊢
  obtain ⟨q, hq⟩ : ∃ q, q = (l.length + 3) / 4 := ⟨_, rfl⟩
  simp (disch := omega) only [aD, oH, oF, aN, aA, cO, n0, aE]
  refine (V2 hl hq w1).mono ?_
  rintro r w2 ⟨rfl, x2⟩
  simp (disch := omega) only [oH, oF, aA, rS, bO]
  refine HH fun w3 o3 x3 s3 => ?_
  refine J6 o3 rfl (by simp [one]) (by simp) fun w4 o4 x4 s4 => ?_
  simp only [cG, aiG, aiF] at o4
  have x14 : aR w1 w4 dH := (x2.seq x3).trans x4 fun y hy h => by have := x2.size; omega
  have z1 := x1.size
  have z2 := x2.size
  have z14 := x14.size
  by_cases hbad : l.length < 3 * q
  .have d1 : decide (3 * (q : Int) <= (l.length : Int)) = false := decide_eq_false (by omega)
   simp (disch := omega) only [d1, akU, jV, if_true, aF, eF]
   exact ⟨.inl ⟨.inr (.inl (by rw [<- hq]; exact hbad)), rfl⟩, x1.seq x14⟩
  .have d1 : decide (3 * (q : Int) <= (l.length : Int)) = true := decide_eq_true (by omega)
   have d2 : decide ((l.length : Int) > 131072) = false := decide_eq_false (by omega)
   have d3 : decide ((131072 : Int) < (l.length : Int)) = false := decide_eq_false (by omega)
   simp (disch := omega) only [d1, ajB, dS, aiD, if_false, bW, aN, aA, dU, d2, aE]
   refine (No w4).mono ?_
   rintro r w5 ⟨rfl, hlt5, hw5, x5⟩
   have z5 := x5.size
   unfold Bq Br Bh
   have q1 := UK (off := 0) (o4.ext x5 (fun h => h)) (by simp)
   simp only [aiU, aiQ, aiW] at q1
   simp (disch := omega) only [aD, q1, aA]
   have x15 : aR w1 w5 dH := x14.seq x5
   have hlc : wl.length = (wC wl).length := by rw [qD, cT]
   rw [hlc]
   have hb1 := ob.lt
   refine Yd (b := b) (n0 := w4.heap.size) (q := q) (aaF hd) (ob.ext x15 (fun h => h)) (hv.ext x15 (aW _)) (by omega) (by omega) (by omega) hl z5 (aiM _) (by omega) ?_ (SW0 := fun y => w4.heap.size < y /\ y < w5.heap.size) ?_ (fun y hy => ⟨by omega, hy.2⟩) ?_ ?_
   .exact fun hh => (hv.ext x14 (aW _)).old hh
   .exact hw5.turn (fun y hy h => ⟨hy, h⟩) (fun h => by omega)
   .intro W hbd x6
    exact ⟨.inl ⟨.inr (.inr hbd), rfl⟩, ((x1.seq x15).trans x6 fun y hy h => by omega)⟩
   .intro W v P hP hheld hall hbs hat x6
    have z6 := x6.size
    refine ⟨.inr ⟨hd, hall, v, _, rfl, hbs, fun M hM => hat M fun y h1 h2 => hM y (by omega) h2, ?_, ?_⟩, (x1.seq x15).trans x6 fun y hy h => by omega⟩
    .have hP4 : ∀ (j : Nat) (s : List UInt8), P[j]? = some s -> 8 * s.length <= 11 * (if j < 3 then q else l.length - 3 * q) + 8 := fun j s hj => by
      have h1 := hheld j s hj
      have h2 := jO (Uj hd) (aU (sg l q j))
      have h3 := J8 (l := l) (q := q) (i := j) (by omega)
      rw [cT, h3] at h2
      rw [h1.len, aiE, ajP]
      omega
     have hs6 := Uy P
     match P, hP with
     | [a, b, c, d], _ =>
       have h1 := hP4 0 a rfl
       have h2 := hP4 1 b rfl
       have h3 := hP4 2 c rfl
       have h4 := hP4 3 d rfl
       simp only [show (0 : Nat) < 3 from by omega, show (1 : Nat) < 3 from by omega, show (2 : Nat) < 3 from by omega, if_true, Nat.lt_irrefl, if_false] at h1 h2 h3 h4
       simp only [aiE, amB, List.flatten_nil, List.length_nil]
       omega
    .show HO wl (Uo P ++ P.flatten) l.length = _
     match P, hP with
     | [a, b, c, d], _ =>
       have e : [a, b, c, d].flatten = a ++ (b ++ (c ++ d)) := by simp
       rw [e]
       have hlen : ∀ (j : Nat) (s : List UInt8), [a, b, c, d][j]? = some s -> s.length < 65536 /\ nQ (wC wl) s (sg l q j).length = .ok (aU (sg l q j)) := fun j s hj => by
        have hj4 : j < 4 := by
         rcases aiS j 4 with h | h
         .exact h
         .rw [aiO (by simpa using h)] at hj; cases hj
        have h1 := hheld j s hj
        have h2 := jO (Uj hd) (aU (sg l q j))
        have h3 : (sg l q j).length <= 32768 := by rw [J8 (by omega)]; split <;> omega
        rw [cT] at h2
        refine ⟨by rw [h1.len, aiE, ajP]; omega, Tg hd (fun x hx => hall x ?_) h1⟩
        have hsub : ∀ x ∈ sg l q j, x ∈ l := fun x hx => by
         unfold sg at hx
         split at hx
         .exact amS (alB hx)
         .exact amS hx
        obtain ⟨y, hy1, hy2⟩ := akM.1 hx
        exact akM.2 ⟨y, hsub y hy1, hy2⟩
       obtain ⟨la, ha⟩ := hlen 0 a rfl
       obtain ⟨lb, hb⟩ := hlen 1 b rfl
       obtain ⟨lc, hc⟩ := hlen 2 c rfl
       obtain ⟨-, hdd⟩ := hlen 3 d rfl
       rw [hq] at ha hb hc hdd hbad
       exact X6 hd (by omega) hl ha hb hc hdd la lb lc
end Go.Proofs.Ytgpimhlgaokobaa
namespace Go.Pu
open Go Go.En
structure LH where
 kind : Nat
 form : Nat
 size : Nat
 count : Nat
 bytes : Nat
def gI (kind form : Nat) : Nat := if kind < 2 then (if form = 1 then 2 else if form = 3 then 3 else 1) else (if form = 2 then 4 else if form = 3 then 5 else 3)
def R7 (form : Nat) : Nat := if form = 2 then 14 else if form = 3 then 18 else 10
def rZ (kind form : Nat) : Nat := if kind < 2 /\ gI kind form = 1 then 3 else 4
def sZ (kind form : Nat) : Nat := if kind < 2 then 20 else R7 form
def kU : List UInt8 -> LH × Int
 | [] => (⟨0, 0, 0, 0, 0⟩, 10)
 | c :: r =>
   if (c :: r).length < gI (c.toNat % 4) (c.toNat / 4 % 4) then (⟨c.toNat % 4, c.toNat / 4 % 4, gI (c.toNat % 4) (c.toNat / 4 % 4), 0, 0⟩, 10)
   else
    (⟨c.toNat % 4, c.toNat / 4 % 4, gI (c.toNat % 4) (c.toNat / 4 % 4),
      mS ((c :: r).take (gI (c.toNat % 4) (c.toNat / 4 % 4))) / 2 ^ rZ (c.toNat % 4) (c.toNat / 4 % 4) % 2 ^ sZ (c.toNat % 4) (c.toNat / 4 % 4),
      mS ((c :: r).take (gI (c.toNat % 4) (c.toNat / 4 % 4))) / 2 ^ rZ (c.toNat % 4) (c.toNat / 4 % 4) / 2 ^ sZ (c.toNat % 4) (c.toNat / 4 % 4)⟩,
      if 131072 < mS ((c :: r).take (gI (c.toNat % 4) (c.toNat / 4 % 4))) / 2 ^ rZ (c.toNat % 4) (c.toNat / 4 % 4) % 2 ^ sZ (c.toNat % 4) (c.toNat / 4 % 4) then 12 else 0)
theorem Ky (k f : Nat) : 1 <= gI k f /\ gI k f <= 5 := by
 unfold gI; split <;> (try split) <;> (try split) <;> omega
theorem VO (f : Nat) : 10 <= R7 f /\ R7 f <= 18 := by
 unfold R7; split <;> (try split) <;> omega
theorem Zi (k f : Nat) : 3 <= rZ k f /\ rZ k f <= 4 := by
 unfold rZ; split <;> omega
theorem YY (k f : Nat) : 10 <= sZ k f /\ sZ k f <= 20 := by
 have := VO f
 unfold sZ; split <;> omega
theorem R0 {l : List UInt8} {n : Nat} (h : n <= 5) : mS (l.take n) < 2 ^ 40 := by
 have h1 := O9 (l.take n)
 have h2 : (l.take n).length <= 5 := by rw [aiR]; omega
 have h3 : 256 ^ (l.take n).length <= 256 ^ 5 := aiK (by omega) h2
 have : (256 : Nat) ^ 5 = 2 ^ 40 := by decide
 omega
end Go.Pu
namespace Go.Proofs.Ytgpimhlgaokobaa
open Go Go.En Go.Pu
set_option maxRecDepth 4000
theorem Vl {x n m : Nat} (h : m = n) : (x : Int).fdiv (2 ^ m) = ((x / 2 ^ n : Nat) : Int) := by
 subst h
 rw [alK _ (by exact_mod_cast amE _)]
 push_cast
 rfl
theorem TT {x n : Nat} (h : n <= 64) : (x : Int).fdiv (2 ^ min n IntKind.u64.bits) = ((x / 2 ^ n : Nat) : Int) := Vl (by have : IntKind.u64.bits = 64 := rfl; omega)
theorem afV {x n : Nat} (h : n <= 8) : (x : Int).fdiv (2 ^ min n IntKind.u8.bits) = ((x / 2 ^ n : Nat) : Int) := Vl (by have : IntKind.u8.bits = 8 := rfl; omega)
theorem RJ {x n : Nat} (hx : x < 2 ^ 63) (hn : n <= 62) : Jn .u64 (x : Int) ((2 ^ n - 1 : Nat) : Int) = ((x % 2 ^ n : Nat) : Int) := by
 have hp : 2 ^ n <= 2 ^ 62 := aiK (by omega) hn
 unfold Jn
 have e : IntKind.u64.bits = 64 := rfl
 rw [e, BitVec.ofInt_natCast, BitVec.ofInt_natCast, BitVec.toNat_and, BitVec.toNat_ofNat, BitVec.toNat_ofNat, ajJ (by omega), ajJ (by omega), Nat.and_two_pow_sub_one_eq_mod]
 have := Nat.mod_le x (2 ^ n)
 exact iZ (by omega) (by omega)
theorem Xj {x : Nat} (h : x < 256) : Jn .u8 (x : Int) 3 = ((x % 4 : Nat) : Int) := by
 have : ∀ k : Fin 256, Jn .u8 (k.val : Int) 3 = ((k.val % 4 : Nat) : Int) := by decide +kernel
 exact this ⟨x, h⟩
def lhV (H : LH) : anV := .agg #[.int .i64 (H.kind : Nat), .int .i64 (H.form : Nat), .int .i64 (H.size : Nat), .int .i64 (H.count : Nat), .int .i64 (H.bytes : Nat)]
def lh0 : anV := .agg #[.int .i64 0, .int .i64 0, .int .i64 0, .int .i64 0, .int .i64 0]
theorem Vp {R : K1} {v : anV} {l : List UInt8} {p2 p4 kd fm sz d b : Nat} {c : List anV} {w : anU} (hb : Bs w v l) (hl : l.length <= 1000000) (o2 : cL w p2 c) (hc : c.length = 5) (o4 : cL w p4 [.int .i64 (kd : Nat), .int .i64 (fm : Nat), .int .i64 (sz : Nat), .int .i64 0, .int .i64 0])
 (hne : p2 ≠ p4) (h1 : 1 <= sz) (h5 : sz <= 5) (hd : 3 <= d /\ d <= 4) (hbt : 10 <= b /\ b <= 20)
 (hk : ∀ w' r, (r = if l.length < sz then .tuple #[lh0, .int .i64 10] else if 131072 < mS (l.take sz) / 2 ^ d % 2 ^ b then .tuple #[lh0, .int .i64 12] else .tuple #[lhV ⟨kd, fm, sz, mS (l.take sz) / 2 ^ d % 2 ^ b, mS (l.take sz) / 2 ^ d / 2 ^ b⟩, .int .i64 0]) -> aR w w' (fun y => y = p2 ∨ y = p4) -> R r w') :
 gZ R v (.pointer (some ⟨p2, 0, none⟩)) (.pointer (some ⟨p4, 0, none⟩)) (.int .i64 (d : Nat)) (.int .i64 (b : Nat)) w := by
 have hne' : p4 ≠ p2 := fun h => hne h.symm
 unfold gZ
 refine (Q1 hb (by omega)).mono ?_
 rintro r w1 ⟨p, rfl, hr1, x1⟩
 have z1 := x1.size
 have hp := hr1.1
 have hp2 := hr1.2.1
 have l2 := o2.lt
 have l4 := o4.lt
 have o41 := o4.ext x1 (fun h => h)
 have o21 := o2.ext x1 (fun h => h)
 have k2 := o41.cell (off := 2)
 simp only [ahZ, aiA] at k2
 simp (disch := omega) only [aD, bG, aiC, zN, aA, kM, aiB, bU, dW, bH, fJ, k2, aH]
 refine (Sd (n := sz) hr1 (by omega) ⟨h1, by omega⟩).mono ?_
 rintro r w2 ⟨rfl, hr2, x2⟩
 have o22 := o21.ext x2 (by omega)
 have o42 := o41.ext x2 (by omega)
 have x02 : aR w w2 dH := x1.trans x2 fun y hy h => by omega
 rcases aiS l.length sz with hs | hs
 .have ht : Jm l 0 sz = ([], l, 10) := by unfold Jm; rw [if_neg (by simp), if_pos hs]
  rw [ht] at hr2 ⊢
  simp only at hr2 ⊢
  have e1 := TT (x := mS []) (n := d) (by omega)
  simp (disch := omega) only [uT, aiB, e1, aA, He, gT]
  refine (Rw hr2).mono ?_
  rintro r w3 ⟨rfl, rfl⟩
  have n1 : ((10 : Int) != 0) = true := rfl
  simp (disch := omega) only [cO, n1, aA, aF]
  refine (Rw hr2).mono ?_
  rintro r w4 ⟨rfl, rfl⟩
  match c, hc with
  | [c0, c1, c2, c3, c4], _ =>
    refine iK o22 rfl (by simp [one]) (by simp) fun w5 o5 x5 s5 => ?_
    refine qX o5 (by simp [cG]) ?_
    simp only [cG, aiG, aiF, aiU, aiQ, aiW]
    exact hk w5 _ (by rw [if_pos hs] <;> rfl) ((x02.mono fun _ _ h => h.elim).seq (x5.mono fun _ _ h => .inl h))
 .have ht : Jm l 0 sz = (l.take sz, l.drop sz, 0) := by unfold Jm; rw [if_neg (by simp), if_neg (by omega)]
  rw [ht] at hr2 ⊢
  simp only at hr2 ⊢
  have hx := R0 (l := l) h5
  have e1 := TT (x := mS (l.take sz)) (n := d) (by omega)
  have hy : mS (l.take sz) / 2 ^ d <= mS (l.take sz) := alG _ _
  obtain ⟨Y, hY⟩ : ∃ Y, Y = mS (l.take sz) / 2 ^ d := ⟨_, rfl⟩
  rw [<- hY] at e1 hy hk
  have hpb : 2 ^ b <= 2 ^ 20 := aiK (by omega) hbt.2
  have hpb0 := aiY b
  simp (disch := omega) only [uT, aiB, e1, aA, He, gT]
  refine (Rw hr2).mono ?_
  rintro r w3 ⟨rfl, rfl⟩
  have n1 : ((0 : Int) != 0) = false := rfl
  have e2 : IntKind.u64.wrap (1 * 2 ^ min b IntKind.u64.bits) = ((2 ^ b : Nat) : Int) := by
   have h64 : IntKind.u64.bits = 64 := rfl
   rw [h64, ajY (by omega), Int.one_mul]
   have : (2 : Int) ^ b = ((2 ^ b : Nat) : Int) := by push_cast; rfl
   rw [this]
   exact iZ (by omega) (by omega)
  have e3 : IntKind.u64.wrap (((2 ^ b : Nat) : Int) - 1) = ((2 ^ b - 1 : Nat) : Int) := by rw [iZ (by omega) (by omega)]; omega
  have e4 := RJ (x := Y) (n := b) (by omega) (by omega)
  have e5 := TT (x := Y) (n := b) (by omega)
  have hm1 := Nat.mod_le Y (2 ^ b)
  have hm2 := alG Y (2 ^ b)
  have ew : ∀ z : Nat, z < 2 ^ 62 -> IntKind.i64.wrap (z : Int) = z := fun z hz => aT (by omega) (by omega)
  have e6 := ew (Y % 2 ^ b) (by omega)
  have e7 := ew (Y / 2 ^ b) (by omega)
  simp (disch := omega) only [cO, n1, e2, e3, e4, e6, e5, e7, aA, aE]
  refine jS o42 rfl (by simp) fun w4 o44 x4 s4 => ?_
  simp only [aiG, aiF] at o44
  try simp (disch := omega) only [true_and]
  refine jS o44 rfl (by simp) fun w5 o45 x5 s5 => ?_
  simp only [aiG, aiF] at o45
  have k3 := o45.cell (off := 3)
  simp only [ahZ, aiA] at k3
  have x25 := x4.seq x5
  have o25 := o22.ext x25 hne
  have x05 : aR w w5 (fun y => y = p2 ∨ y = p4) := (x02.mono fun _ _ h => h.elim).seq (x25.mono fun _ _ h => .inr h)
  match c, hc with
  | [c0, c1, c2, c3, c4], _ =>
    by_cases hbig : 131072 < Y % 2 ^ b
    .have d1 : decide (131072 < ((Y % 2 ^ b : Nat) : Int)) = true := decide_eq_true (by omega)
     simp (disch := omega) only [k3, aH, aA, dU, d1, aF]
     refine iK o25 rfl (by simp [one]) (by simp) fun w6 o6 x6 s6 => ?_
     refine qX o6 (by simp [cG]) ?_
     simp only [cG, aiG, aiF, aiU, aiQ, aiW]
     exact hk w6 _ (by rw [if_neg (by omega), if_pos hbig] <;> rfl) (x05.seq (x6.mono fun _ _ h => .inl h))
    .have d1 : decide (131072 < ((Y % 2 ^ b : Nat) : Int)) = false := decide_eq_false (by omega)
     have q1 := Fv (off := 0) o45 (by simp)
     simp only [aiU, aiQ, aiW] at q1
     simp (disch := omega) only [k3, aH, aA, dU, d1, q1, aE]
     refine iK o25 rfl (by simp [one]) (by simp) fun w6 o6 x6 s6 => ?_
     refine qX o6 (by simp [cG]) ?_
     simp only [cG, aiG, aiF, aiU, aiQ, aiW]
     exact hk w6 _ (by rw [if_neg (by omega), if_neg hbig] <;> rfl) (x05.seq (x6.mono fun _ _ h => .inl h))
def OpR (l : List UInt8) (r : anV) : Prop := r = if (kU l).2 = 0 then .tuple #[lhV (kU l).1, .int .i64 0] else .tuple #[lh0, .int .i64 (kU l).2]
theorem adE {x0 : UInt8} {rs : List UInt8} {kd fm : Nat} {r : anV} (hk : kd = x0.toNat % 4) (hf : fm = x0.toNat / 4 % 4)
 (hr : r = if (x0 :: rs).length < gI kd fm then .tuple #[lh0, .int .i64 10] else if 131072 < mS ((x0 :: rs).take (gI kd fm)) / 2 ^ rZ kd fm % 2 ^ sZ kd fm then .tuple #[lh0, .int .i64 12] else .tuple #[lhV ⟨kd, fm, gI kd fm, mS ((x0 :: rs).take (gI kd fm)) / 2 ^ rZ kd fm % 2 ^ sZ kd fm, mS ((x0 :: rs).take (gI kd fm)) / 2 ^ rZ kd fm / 2 ^ sZ kd fm⟩, .int .i64 0]) : OpR (x0 :: rs) r := by
 subst hk hf
 by_cases h1 : (x0 :: rs).length < gI (x0.toNat % 4) (x0.toNat / 4 % 4)
 .rw [if_pos h1] at hr
  simp only [OpR, kU, if_pos h1]
  rw [hr] <;> rfl
 .rw [if_neg h1] at hr
  simp only [OpR, kU, if_neg h1]
  by_cases h2 : 131072 < mS ((x0 :: rs).take (gI (x0.toNat % 4) (x0.toNat / 4 % 4))) / 2 ^ rZ (x0.toNat % 4) (x0.toNat / 4 % 4) % 2 ^ sZ (x0.toNat % 4) (x0.toNat / 4 % 4)
  .rw [if_pos h2] at hr
   simp only [if_pos h2]
   rw [hr] <;> rfl
  .rw [if_neg h2] at hr
   simp only [if_neg h2]
   rw [hr] <;> rfl
theorem aaI {v : anV} {l : List UInt8} {w : anU} (h : Bs w v l) (hl : l.length <= 1000000) :
 aP pg rN #[v] w (fun r w' => OpR l r /\ aR w w' dH) := by
 refine La ?_
 obtain ⟨RR, hRR⟩ : ∃ RR : anV -> anU -> Prop, RR = fun r w' => OpR l r /\ aR w w' dH := ⟨_, rfl⟩
 rw [<- hRR]
 unfold Iv uK wW
 refine tE fun w1 o1 x1 s1 => ?_
 have z1 := x1.size
 rcases alX l.length with h0 | h0
 .have hnil := ajM.1 h0
  obtain ⟨va, vn, vc, rfl, hvn, _⟩ := h
  rw [aiI, h0] at hvn
  subst hvn
  have n1 : (((0 : Nat) : Int) == 0) = true := rfl
  simp (disch := omega) only [aD, aN, zN, aA, eL, and_true, true_and, dV, n1, aF]
  refine iK o1 rfl (by simp [one]) (by simp) fun w2 o2 x2 s2 => ?_
  refine qX o2 (by simp [cG]) ?_
  simp only [cG, aiG, aiF, aiU, aiQ, aiW]
  rw [hRR]
  refine ⟨?_, x1.new x2 (aiM _)⟩
  rw [hnil] <;> rfl
 .have hb := h
  obtain ⟨b, off, c, rfl, hc, hcell⟩ := El h h0
  obtain ⟨x0, rs, rfl⟩ : ∃ x0 rs, l = x0 :: rs := by
   cases l with
   | nil => simp at h0
   | cons x rs => exact ⟨x, rs, rfl⟩
  have hx0 : x0.toNat < 256 := ajV x0
  have g0 := hcell 0 h0
  rw [akN] at g0
  have g0 : w.cell? ⟨b, off, none⟩ = some (.int .u8 (x0.toNat : Nat)) := g0
  have g1 := OZ g0 x1 (fun h => h)
  have gd : (dr w1).cell? ⟨b, off, none⟩ = some (.int .u8 (x0.toNat : Nat)) := g1
  have n1 : ((((x0 :: rs).length : Nat) : Int) == 0) = false := by simp; omega
  have t0 : (0 : Int).toNat = 0 := rfl
  have t2 : (2 : Int).toNat = 2 := rfl
  have e1 := Xj hx0
  have e2 := afV (x := x0.toNat) (n := 2) (by omega)
  have e3 := Xj (x := x0.toNat / 2 ^ 2) (by have : x0.toNat / 2 ^ 2 <= x0.toNat := alG _ _; omega)
  have ew : ∀ z : Nat, z < 2 ^ 62 -> IntKind.i64.wrap (z : Int) = z := fun z hz => aT (by omega) (by omega)
  obtain ⟨kd, hkd⟩ : ∃ kd, kd = x0.toNat % 4 := ⟨_, rfl⟩
  obtain ⟨fm, hfm⟩ : ∃ fm, fm = x0.toNat / 4 % 4 := ⟨_, rfl⟩
  have hfm2 : x0.toNat / 2 ^ 2 % 4 = fm := by rw [hfm]
  rw [<- hkd] at e1
  rw [hfm2] at e3
  have hkd4 : kd < 4 := by omega
  have hfm4 : fm < 4 := by omega
  have e4 := ew kd (by omega)
  have e5 := ew fm (by omega)
  have hpos : 0 < (x0 :: rs).length := h0
  simp (disch := omega) only [aD, aN, zN, aA, cJ, t0, akN, eL, Result.ok.injEq, Next.value.injEq, and_true, dY, true_and, dV, n1, gd, aH, uT, t2, e2, He, e3, gH, e5, e1, e4, JE, aE]
  refine tE fun w2 o2 x2 s2 => ?_
  have g2 := OZ gd x2 (fun h => h)
  simp (disch := omega) only [g2, aH, and_true, true_and]
  refine iK o2 rfl (by simp [one]) (by simp) fun w3 o3 x3 s3 => ?_
  simp only [cG, aiG, aiF] at o3
  have zd : (dr w1).heap.size = w1.heap.size := rfl
  rw [zd] at o3 x3 ⊢
  have x13 : aR w1 w3 dH := ((aR.dr w1 dH).seq x2).new x3 (by omega)
  have o13 := o1.ext x13 (fun h => h)
  have x03 := x1.seq x13
  have hb3 := h.ext x03 (aW _)
  obtain ⟨p4, hp4⟩ : ∃ p, p = w1.heap.size := ⟨_, rfl⟩
  obtain ⟨p2, hp2⟩ : ∃ p, p = w.heap.size := ⟨_, rfl⟩
  have l1 := o1.lt
  rw [<- hp4] at o3 ⊢
  rw [<- hp2] at o13 ⊢
  have hne : p2 ≠ p4 := by omega
  have k0 := o3.cell (off := 0)
  simp only [ahZ, aiA] at k0
  have fin : ∀ (w4 : anU) (sz d bt : Nat), sz = gI kd fm -> d = rZ kd fm -> bt = sZ kd fm -> cL w4 p4 [.int .i64 (kd : Nat), .int .i64 (fm : Nat), .int .i64 (sz : Nat), .int .i64 0, .int .i64 0] -> aR w3 w4 (fun y => y = p4) →
      gZ RR (.slice (some ⟨b, off, none⟩) (x0 :: rs).length c) (.pointer (some ⟨p2, 0, none⟩)) (.pointer (some ⟨p4, 0, none⟩)) (.int .i64 (d : Nat)) (.int .i64 (bt : Nat)) w4 := by
   intro w4 sz d bt h1 h2 h3 o4 x4
   subst h1 h2 h3
   have x04 : aR w w4 dH := x03.trans x4 fun y hy h => by omega
   refine Vp (h.ext x04 (aW _)) hl (o13.ext x4 hne) rfl o4 hne (Ky _ _).1 (Ky _ _).2 (Zi _ _) (YY _ _) fun w5 r hr x5 => ?_
   rw [hRR]
   exact ⟨adE hkd hfm hr, x04.trans x5 fun y hy h => by omega⟩
  unfold wL xG wB
  simp (disch := omega) only [aD, fO, aA, bH, k0, aH]
  unfold xH D4 wO
  have k1 := o3.cell (off := 1)
  simp only [ahZ, aiA] at k1
  have t1 : (1 : Int).toNat = 1 := rfl
  have t3 : (3 : Int).toNat = 3 := rfl
  have c0 : (((0 : Nat) : Int)).toNat = 0 := rfl
  have c1 : (((1 : Nat) : Int)).toNat = 1 := rfl
  have c2 : (((2 : Nat) : Int)).toNat = 2 := rfl
  have c3 : (((3 : Nat) : Int)).toNat = 3 := rfl
  by_cases hk2 : kd < 2
  .have P2 : dC (fun cP t2 C5 gA fR w => gZ RR cP t2 C5 gA fR w) (.slice (some ⟨b, off, none⟩) (x0 :: rs).length c) (.pointer (some ⟨p2, 0, none⟩)) (.pointer (some ⟨p4, 0, none⟩)) (.int .i64 4) (.int .i64 20) (.bool true) w3 := by
    rcases (show fm = 0 ∨ fm = 1 ∨ fm = 2 ∨ fm = 3 by omega) with rfl | rfl | rfl | rfl
    .unfold dC
     simp (disch := omega) only [aD, fG, dB, aiC, bG, aA, bH, k1, aH, jG, c0, aF]
     refine jS o3 rfl (by simp) fun w4 o4 x4 s4 => ?_
     simp only [aiG, aiF] at o4
     have k2 := o4.cell (off := 2)
     have k1' := o4.cell (off := 1)
     simp only [ahZ, aiA] at k2 k1'
     have n5 : ((1 : Int) == 1) = true := rfl
     simp (disch := omega) only [k2, aH, aA]
     exact fin w4 1 3 20 (by unfold gI; rw [if_pos hk2] <;> rfl) (by unfold rZ gI; simp [hk2]) (by unfold sZ; rw [if_pos hk2]) o4 x4
    .unfold dC
     simp (disch := omega) only [aD, fG, dB, aiC, bG, aA, bH, k1, aH, jG, c1, aF]
     refine jS o3 rfl (by simp) fun w4 o4 x4 s4 => ?_
     simp only [aiG, aiF] at o4
     have k2 := o4.cell (off := 2)
     have k1' := o4.cell (off := 1)
     simp only [ahZ, aiA] at k2 k1'
     have n5 : ((2 : Int) == 1) = false := rfl
     simp (disch := omega) only [k2, aH, aA]
     exact fin w4 2 4 20 (by unfold gI; rw [if_pos hk2] <;> rfl) (by unfold rZ gI; simp [hk2]) (by unfold sZ; rw [if_pos hk2]) o4 x4
    .unfold dC
     simp (disch := omega) only [aD, fG, dB, aiC, bG, aA, bH, k1, aH, jG, c2, aF]
     refine jS o3 rfl (by simp) fun w4 o4 x4 s4 => ?_
     simp only [aiG, aiF] at o4
     have k2 := o4.cell (off := 2)
     have k1' := o4.cell (off := 1)
     simp only [ahZ, aiA] at k2 k1'
     have n5 : ((1 : Int) == 1) = true := rfl
     simp (disch := omega) only [k2, aH, aA]
     exact fin w4 1 3 20 (by unfold gI; rw [if_pos hk2] <;> rfl) (by unfold rZ gI; simp [hk2]) (by unfold sZ; rw [if_pos hk2]) o4 x4
    .unfold dC
     simp (disch := omega) only [aD, fG, dB, aiC, bG, aA, bH, k1, aH, jG, c3, aF]
     refine jS o3 rfl (by simp) fun w4 o4 x4 s4 => ?_
     simp only [aiG, aiF] at o4
     have k2 := o4.cell (off := 2)
     have k1' := o4.cell (off := 1)
     simp only [ahZ, aiA] at k2 k1'
     have n5 : ((3 : Int) == 1) = false := rfl
     simp (disch := omega) only [k2, aH, aA]
     exact fin w4 3 4 20 (by unfold gI; rw [if_pos hk2] <;> rfl) (by unfold rZ gI; simp [hk2]) (by unfold sZ; rw [if_pos hk2]) o4 x4
   rcases (show kd = 0 ∨ kd = 1 by omega) with rfl | rfl
   .have n2 : (((0 : Nat) : Int) == 0) = true := rfl
    simp (disch := omega) only [aD, dV, n2, aA, aF]
    exact P2
   .have n2 : (((1 : Nat) : Int) == 0) = false := rfl
    have n3 : (((1 : Nat) : Int) == 1) = true := rfl
    simp (disch := omega) only [aD, dV, n2, n3, aA, aE]
    exact P2
  .have n2 : ((kd : Int) == 0) = false := by simp; omega
   have n3 : ((kd : Int) == 1) = false := by simp; omega
   simp (disch := omega) only [aD, dV, n2, n3, aA, aE]
   rcases (show fm = 0 ∨ fm = 1 ∨ fm = 2 ∨ fm = 3 by omega) with rfl | rfl | rfl | rfl
   .unfold dC
    simp (disch := omega) only [aD, fG, dB, aiC, bG, aA, bH, k1, aH, jG, c0, aE]
    refine jS o3 rfl (by simp) fun w4 o4 x4 s4 => ?_
    simp only [aiG, aiF] at o4
    have k2 := o4.cell (off := 2)
    have k1' := o4.cell (off := 1)
    simp only [ahZ, aiA] at k2 k1'
    simp (disch := omega) only [k1', aH, aA, jG, c0]
    exact fin w4 3 4 10 (by unfold gI; rw [if_neg hk2] <;> rfl) (by unfold rZ; rw [if_neg (fun h => hk2 h.1)]) (by unfold sZ; rw [if_neg hk2] <;> rfl) o4 x4
   .unfold dC
    simp (disch := omega) only [aD, fG, dB, aiC, bG, aA, bH, k1, aH, jG, c1, aE]
    refine jS o3 rfl (by simp) fun w4 o4 x4 s4 => ?_
    simp only [aiG, aiF] at o4
    have k2 := o4.cell (off := 2)
    have k1' := o4.cell (off := 1)
    simp only [ahZ, aiA] at k2 k1'
    simp (disch := omega) only [k1', aH, aA, jG, c1]
    exact fin w4 3 4 10 (by unfold gI; rw [if_neg hk2] <;> rfl) (by unfold rZ; rw [if_neg (fun h => hk2 h.1)]) (by unfold sZ; rw [if_neg hk2] <;> rfl) o4 x4
   .unfold dC
    simp (disch := omega) only [aD, fG, dB, aiC, bG, aA, bH, k1, aH, jG, c2, aE]
    refine jS o3 rfl (by simp) fun w4 o4 x4 s4 => ?_
    simp only [aiG, aiF] at o4
    have k2 := o4.cell (off := 2)
    have k1' := o4.cell (off := 1)
    simp only [ahZ, aiA] at k2 k1'
    simp (disch := omega) only [k1', aH, aA, jG, c2]
    exact fin w4 4 4 14 (by unfold gI; rw [if_neg hk2] <;> rfl) (by unfold rZ; rw [if_neg (fun h => hk2 h.1)]) (by unfold sZ; rw [if_neg hk2] <;> rfl) o4 x4
   .unfold dC
    simp (disch := omega) only [aD, fG, dB, aiC, bG, aA, bH, k1, aH, jG, c3, aE]
    refine jS o3 rfl (by simp) fun w4 o4 x4 s4 => ?_
    simp only [aiG, aiF] at o4
    have k2 := o4.cell (off := 2)
    have k1' := o4.cell (off := 1)
    simp only [ahZ, aiA] at k2 k1'
    simp (disch := omega) only [k1', aH, aA, jG, c3]
    exact fin w4 5 4 18 (by unfold gI; rw [if_neg hk2] <;> rfl) (by unfold rZ; rw [if_neg (fun h => hk2 h.1)]) (by unfold sZ; rw [if_neg hk2] <;> rfl) o4 x4
theorem aaS {n : Nat} {w : anU} (hn : n <= 131072) :
 aP pg rA #[.int .u64 1, .int .u64 n] w (fun r w' => r = .tuple #[.int .u64 0, .int .u64 n] /\ aR w w' dH) := by
 refine KS ?_
 unfold IF wA
 have a1 : Jn .u64 1 4294967295 = 1 := by decide
 have a2 : Jn .u64 (n : Int) 4294967295 = n := by
  have := RJ (x := n) (n := 32) (by omega) (by omega)
  rw [ajJ (by omega)] at this
  exact this
 have a0 : Jn .u64 0 4294967295 = 0 := by decide
 have s1 : (1 : Int).fdiv (2 ^ min 32 IntKind.u64.bits) = 0 := by decide
 have s0 : (0 : Int).fdiv (2 ^ min 32 IntKind.u64.bits) = 0 := by decide
 have s2 : (n : Int).fdiv (2 ^ min 32 IntKind.u64.bits) = 0 := by
  rw [TT (by omega), anL (by omega)] <;> rfl
 have t32 : (32 : Int).toNat = 32 := rfl
 have w0 : IntKind.u64.wrap 0 = 0 := rfl
 have w1 : IntKind.u64.wrap (n : Int) = n := iZ (by omega) (by omega)
 simp (disch := omega) only [aD, He, a1, uT, t32, s1, a2, s2, Ku, Int.one_mul, w1, aA, Int.zero_mul, w0, Int.mul_zero, bQ, Int.add_zero, a0, s0, true_and]
 exact aR.refl _ _
theorem agI {n : Nat} {w : anU} (hn : n <= 131072) :
 aP pg vJ #[.int .u64 1, .int .u64 n] w (fun r w' => r = .tuple #[.int .u64 0, .int .u64 n] /\ aR w w' dH) := by
 refine M7 ?_
 unfold MC By
 simp (disch := omega) only [aD, KY, afW, aA, aE]
 refine (aaS hn).mono ?_
 rintro r w1 ⟨rfl, x1⟩
 simp (disch := omega) only [oH, oF, aA, true_and]
 exact x1
theorem aeM {z v : anV} {i n : Nat} (hi : i <= n) : cG (List.replicate i v ++ List.replicate (n - i) z) i ((List.replicate i v).take (min i (n - i))) = List.replicate (i + min i (n - i)) v ++ List.replicate (n - (i + min i (n - i))) z := by
 have e : (List.replicate i v).take (min i (n - i)) = List.replicate (min i (n - i)) v := by
  rw [List.take_replicate]; congr 1; omega
 rw [e]
 generalize hm : min i (n - i) = m
 have hm2 : i + m <= n := by omega
 clear hm e
 induction m generalizing i with
 | zero => simp [cG]
 | succ m ih =>
   rw [ajQ]
   simp only [cG]
   rw [show (List.replicate i v ++ List.replicate (n - i) z).set i v = List.replicate (i + 1) v ++ List.replicate (n - (i + 1)) z from ?_]
   .rw [ih (i := i + 1) (by omega) (by omega), show i + 1 + m = i + (m + 1) from by omega]
   .rw [amA _ _ (by simp), akW, alY, show n - i = (n - (i + 1)) + 1 from by omega, ajQ, aiG, List.replicate_succ', ajI]
    rfl
theorem X8 {c : UInt8} {n p : Nat} {w3 : anU} {RR : anV -> anU -> Prop} (hn : n <= 131072) (o3 : cL w3 p (List.replicate (min 1 n) (lL c) ++ List.replicate (n - min 1 n) (.int .u8 0)))
 (hk : ∀ w4, cL w4 p (List.replicate n (lL c)) -> aR w3 w4 (fun y => y = p) -> RR (.slice (some ⟨p, 0, none⟩) n n) w4) :
 lC RR (.slice (some ⟨p, 0, none⟩) n n) (.int .i64 (min 1 n : Nat)) w3 := by
 unfold lC qJ qT
 refine cK.rule (fun m (t : anV) w' => ∃ i : Nat, m = n - i /\ t = .int .i64 i /\ i <= n /\ (1 <= i ∨ n = 0) /\ cL w' p (List.replicate i (lL c) ++ List.replicate (n - i) (.int .u8 0)) /\ aR w3 w' (fun y => y = p)) (n - min 1 n)
  ⟨min 1 n, rfl, rfl, by omega, by omega, o3, aR.refl _ _⟩ ?_
 rintro m t w4 ⟨i, rfl, rfl, hi, h0, o4, x4⟩
 unfold lJ
 by_cases hlt : i < n
 .have d5 : decide ((i : Int) < (n : Int)) = true := by simp; omega
  have q1 : (i : Int).toNat = i := aiB _
  have s1 : fY (some (⟨p, 0, none⟩ : Addr)) n i 1 = some ⟨p, 0 + i, none⟩ := Sv (by omega)
  have s2 : fY (some (⟨p, 0, none⟩ : Addr)) n 0 1 = some ⟨p, 0 + 0, none⟩ := Sv (by omega)
  simp (disch := omega) only [aD, aN, eD, q1, s1, aiC, nO, s2, Nat.sub_zero, true_and, aA, aY, d5, aF]
  have hs : Bs (dr w4) (.slice (some ⟨p, 0, none⟩) i n) (List.replicate i c) := by
   have := (fT o4).bs (off := 0) (c := n) (l := List.replicate i c) (by simp; omega) (fun j hj => by
    rw [akW] at hj
    rw [aiC, aiX (by simp; omega)]
    simp [alU, hj])
   rw [akW] at this
   exact this
  refine QW (off := i) (dl := n - i) (fT o4) (by simp) hs (by simp [one, lL]) fun w5 o5 x5 s5 => ?_
  have hm5 : (List.map lL (List.replicate i c)).length = i := by simp
  rw [hm5, List.map_replicate, aeM hi] at o5
  rw [hm5]
  have e5 : (i : Int) + ((min i (n - i) : Nat) : Int) = ((i + min i (n - i) : Nat) : Int) := by omega
  have wi5 : IntKind.i64.wrap ((i + min i (n - i) : Nat) : Int) = ((i + min i (n - i) : Nat) : Int) := aT (by omega) (by omega)
  simp (disch := omega) only [bQ, e5, wi5, aA, true_and]
  exact ⟨n - (i + min i (n - i)), by omega, i + min i (n - i), rfl, rfl, by omega, by omega, o5, x4.seq ((aR.dr w4 _).seq x5)⟩
 .have d5 : decide ((i : Int) < (n : Int)) = false := by simp; omega
  have hin : i = n := by omega
  rw [hin, alY, List.replicate_zero, akB] at o4
  simp (disch := omega) only [aD, aN, eD, aiB, nO, true_and, aA, aY, d5, aE]
  unfold lE
  exact hk w4 o4 x4
theorem Z2 {v : anV} {c : UInt8} {n : Nat} {w : anU} (h : Bs w v [c]) (hn : n <= 131072) :
 aP pg lZ #[v, .int .i64 n] w (fun r w' => oI w' w.heap.size 1 r n (List.replicate n (lL c)) /\ aR w w' dH) := by
 refine G5 ?_
 obtain ⟨RR, hRR⟩ : ∃ RR : anV -> anU -> Prop, RR = fun r w' => oI w' w.heap.size 1 r n (List.replicate n (lL c)) /\ aR w w' dH := ⟨_, rfl⟩
 rw [<- hRR]
 obtain ⟨b, off, cap, rfl, hc, hcell⟩ := El h (by simp)
 have hl1 : ([c] : List UInt8).length = 1 := rfl
 rw [hl1] at *
 have d0 : decide ((n : Int) < 0) = false := decide_eq_false (by omega)
 have e1 : ((1 : Nat) : Int) = 1 := rfl
 have wn : IntKind.u64.wrap (n : Int) = n := iZ (by omega) (by omega)
 have w1 : IntKind.u64.wrap 1 = 1 := rfl
 unfold EC oQ pH
 simp (disch := omega) only [aD, aY, d0, aA, aE]
 unfold qQ qS
 simp (disch := omega) only [aD, aN, e1, dZ, wn, aA, w1]
 refine (agI hn).mono ?_
 rintro r w1 ⟨rfl, x1⟩
 have d1 : decide ((0 : Int) > 0) = false := rfl
 have d2 : decide ((n : Int) > 9223372036854775807) = false := decide_eq_false (by omega)
 have d3 : decide ((9223372036854775807 : Int) < (n : Int)) = false := decide_eq_false (by omega)
 have d4 : decide ((0 : Int) < 0) = false := rfl
 simp (disch := omega) only [oH, oF, aA, dU, d1, dS, bO, aiD, if_false, bW, d2, aE]
 unfold qM qL
 have wi : IntKind.i64.wrap (n : Int) = n := aT (by omega) (by omega)
 simp (disch := omega) only [aD, U6, wi, aA]
 refine U9 (by omega) (by omega) fun w2 o2 x2 s2 => ?_
 simp only [aiB] at o2 ⊢
 have z1 := x1.size
 have z2 := x2.size
 have x02 := x1.seq x2
 have h2 := h.ext x02 (aW _)
 obtain ⟨p, hp⟩ : ∃ p, p = w1.heap.size := ⟨_, rfl⟩
 rw [<- hp] at o2 ⊢
 refine QW (off := 0) o2 (by simp) h2 (by simp [one, lL]) fun w3 o3 x3 s3 => ?_
 have hmn : min (List.map lL [c]).length n = min 1 n := rfl
 rw [hmn] at o3 ⊢
 have hs3 : cG (List.replicate n (Value.int .u8 0)) 0 ((List.map lL [c]).take (min 1 n)) = List.replicate (min 1 n) (lL c) ++ List.replicate (n - min 1 n) (.int .u8 0) := by
  rcases alX n with rfl | hp
  .rfl
  .rw [show min 1 n = 1 from by omega]
   obtain ⟨m, rfl⟩ : ∃ m, n = m + 1 := ⟨n - 1, by omega⟩
   rfl
 rw [hs3] at o3
 have x13 : aR w1 w3 dH := x2.new x3 (by omega)
 have x03 := x1.seq x13
 refine X8 hn o3 fun w4 o4 x4 => ?_
 have z4 := x4.size
 have x04 : aR w w4 dH := x03.trans x4 fun y hy h => by omega
 rw [hRR]
 exact ⟨⟨by rw [akW, alA], .inr ⟨p, n, [], rfl, by omega, by rw [akB]; exact o4, by rw [akB, akW, alA], aiM _⟩⟩, x04⟩
def m3 (L : List Int) : List T3 := L.map fun x => (x, 0, 0)
theorem adK (L : List Int) (i : Nat) (h : i < L.length) (x : Int) : (m3 L).set i (x, ((m3 L)[i]'(by simpa [m3] using h)).2) = m3 (L.set i x) := by
 unfold m3; rw [anT]; simp
theorem UM {k : IntKind} {L : List Int} {i : Nat} (h : i < L.length) (x : Int) : (fe k (m3 L)).set (i * 3) (.int k x) = fe k (m3 (L.set i x)) := by
 rw [(Us k (m3 L) i (by simpa [m3] using h) x).1, adK L i h x]
theorem WC (n high s : Nat) (r : List Nat) (a : Nat) (arr : List Int) : place n high (s :: r) a arr = place n high r (PO n high n (adv n a)) (arr.set a s) := rfl
theorem Yw {ps : List Int} {i : Nat} (h : i < ps.length) : mU (ps.drop i) i = List.replicate ps[i].toNat i ++ mU (ps.drop (i + 1)) (i + 1) := by
 rw [ajK h, mU]
theorem aeC {w0 w : anU} {N high j : Nat} (hN : 0 < N) (hN2 : N <= 32768) (hh : 0 < high) (hhN : high <= N) (hx : aR w0 w dH)
 {ov sv a b c d e : anV} {k : anV -> anV -> anV -> anV -> anV -> anV -> anV -> anV -> anV -> anV -> anU -> Prop}
 (hk : ∃ j', PO N high N (adv N (pos N j)) = pos N j' /\ k (.int .i64 N) ov (.int .i64 high) (.int .i64 (pos N j' : Nat)) sv a b c d e w) :
 BV k (.int .i64 N) ov (.int .i64 high) (.int .i64 (pos N j : Nat)) sv a b c d e w := by
 obtain ⟨dd, h1, h2, h3⟩ := TC hN hh (j + 1)
 obtain ⟨j', hj', hk⟩ := hk
 rw [Lk, h3] at hj'
 rw [<- hj'] at hk
 unfold BV
 refine cK.rule (fun m t w' => ∃ q : Nat, m = dd - q /\ t = .int .i64 (pos N (j + q) : Nat) /\ q <= dd /\ w' = w) dd ⟨0, rfl, rfl, by omega, rfl⟩ ?_
 rintro m t w' ⟨q, rfl, rfl, hq, rfl⟩
 have hp := WI hN (j + q)
 have e1 : ((N : Int)).fdiv (2 ^ (min 1 IntKind.i64.bits)) = ((N / 2 : Nat) : Int) := by
  have : (2 : Int) ^ (min 1 IntKind.i64.bits) = ((2 : Nat) : Int) := by decide
  rw [this, SM]
 have e3 : ((N : Int)).fdiv (2 ^ (min 3 IntKind.i64.bits)) = ((N / 8 : Nat) : Int) := by
  have : (2 : Int) ^ (min 3 IntKind.i64.bits) = ((8 : Nat) : Int) := by decide
  rw [this, SM]
 have t1 : (1 : Int).toNat = 1 := rfl
 have t3 : (3 : Int).toNat = 3 := rfl
 have e4 : (((pos N (j + q) : Nat) : Int) + ((N / 2 : Nat) : Int) + ((N / 8 : Nat) : Int) + 3).tmod (N : Int) = ((pos N (j + q + 1) : Nat) : Int) := by
  rw [ajO (by omega), <- Lk]
  unfold adv
  simp
 unfold BW
 by_cases hd : q = dd
 .subst hd
  have d1 : decide (((pos N (j + q + 1) : Nat) : Int) < (high : Int)) = true := by
   simp only [decide_eq_true_eq]
   rw [show j + 1 + q = j + q + 1 from by omega] at h2
   omega
  simp (disch := omega) only [aD, uT, t1, e1, t3, e3, aA, bQ, aT, EM, e4, aY, d1, and_true, aF]
  rw [show j + 1 + q = j + q + 1 from by omega] at hk
  exact hk
 .have d1 : decide (((pos N (j + q + 1) : Nat) : Int) < (high : Int)) = false := by
   have := h1 q (by omega)
   rw [show j + 1 + q = j + q + 1 from by omega] at this
   simp only [decide_eq_false_iff_not]
   omega
  simp (disch := omega) only [aD, uT, t1, e1, t3, e3, aA, bQ, aT, EM, e4, aY, d1, and_true, aE]
  exact ⟨dd - (q + 1), by omega, q + 1, rfl, rfl, by omega⟩
theorem VM {log : Nat} {sv : anV} {ps : List Int} {w : anU} (hm : Vd log ps) (hs : Sl w sv (ps.map (Value.int .i64))) :
 aP pg yX #[.agg #[.int .i64 log, sv]] w (fun r w' => ∃ b, r = .slice (some ⟨b, 0, none⟩) (2 ^ log) (2 ^ log) /\ w.heap.size <= b /\ cL w' b (fe .u8 (m3 (jL 0 log ps))) /\ aR w w' dH) := by
 refine Rq ?_
 have h5 := hm.log5
 have h15 := hm.log15
 have hlen := hm.len256
 obtain ⟨arr0, ht, hal, hsum, hfin⟩ := Vk hm 0
 rw [hfin]
 have hN1 : 2 ^ 5 <= 2 ^ log := aiK (by omega) h5
 have hN2 : 2 ^ log <= 2 ^ 15 := aiK (by omega) h15
 have hsh : IntKind.i64.wrap (1 * 2 ^ (min log IntKind.i64.bits)) = ((2 ^ log : Nat) : Int) := by
  have : ∀ k : Fin 16, IntKind.i64.wrap (1 * 2 ^ (min k.val IntKind.i64.bits)) = ((2 ^ k.val : Nat) : Int) := by decide
  exact this ⟨log, by omega⟩
 clear hfin
 generalize hN : 2 ^ log = N at *
 generalize hhigh : (mU ps 0).length = high at *
 unfold Se Em D9
 refine mX fun w1 o1 x1 s1 => ?_
 have hs1 := hs.ext x1 (aW _)
 have c0 := o1.cell (off := 0)
 have c1 := o1.cell (off := 1)
 simp only [Value.cells, ahZ, aiA] at c0 c1
 obtain ⟨a, c, rfl, hc⟩ := hs.lenI
 simp (disch := omega) only [aD, cB, aA, bH, c0, aH, kM, aiB, hsh]
 refine Qg (by omega) (by omega) fun w2 o2 x2 s2 => ?_
 rw [aiB, XV] at o2
 rw [aiB]
 have o2 : cL w2 w1.heap.size (fe .u8 (m3 (List.replicate N 0))) := by unfold m3; rw [List.map_replicate]; exact o2
 have x02 : aR w w2 dH := x1.seq x2
 have ob2 := o1.ext x2 (fun h => h)
 have c1 := ob2.cell (off := 1)
 simp only [Value.cells, ahZ, aiA] at c1
 unfold Dr Dq D0 D5 D3
 simp (disch := omega) only [aD, bM, aiC, aA, kO, c1, aH, nR]
 have hw1 : w.heap.size <= w1.heap.size := x1.size
 refine cK.rule (fun m t w' => ∃ (i hg : Nat) (arr : List Int), m = ps.length - i /\ t = (.int .i64 hg, .int .i64 i) /\ i <= ps.length /\ (nN (ps.drop i) i).length <= hg /\ hg <= N /\ arr.length = N /\ Sy (ps.drop i) i hg arr = (high, arr0) /\ cL w' w1.heap.size (fe .u8 (m3 arr)) /\ aR w w' dH /\ cL w' w.heap.size (Value.cells (.agg #[.int .i64 log, .slice a ps.length c])).toList) ps.length
  ⟨0, N, _, rfl, rfl, by omega, by rw [aiU]; omega, by omega, by simp, by rw [aiU]; exact ht, o2, x02, ob2⟩ ?_
 rintro m t w3 ⟨i, hg, arr, rfl, rfl, hi, hng, hgN, harr, htop, o3, x3, ob3⟩
 by_cases hlt : i < ps.length
 .have d1 : decide ((i : Int) < (ps.length : Int)) = true := by simp; omega
  obtain ⟨b', off', c', e, _, hcell⟩ := (hs.ext x3 (aW _)).openI (by omega)
  cases e
  have g1 := hcell i hlt
  have hd : ps.drop i = ps[i] :: ps.drop (i + 1) := ajK hlt
  rw [hd, nN] at hng
  rw [hd, Sy] at htop
  unfold sN zJ Ay
  by_cases hp : ps[i] = -1
  .have d2 : (ps[i] == -1) = true := by simpa using hp
   rw [if_pos hp] at hng htop
   simp only [aiP] at hng
   have e1 : (hg : Int) - 1 = ((hg - 1 : Nat) : Int) := by omega
   simp (disch := omega) only [aD, aY, d1, tI, aiB, fJ, e1, aT, jK, LN, bQ, aA, lQ, aiC, kH, bH, g1, aH, dV, d2, aF]
   refine NW o3 rfl (by rw [A1]; simp [m3]; omega) fun w4 o4 x4 s4 => ?_
   rw [UM (by omega)] at o4
   exact ⟨ps.length - (i + 1), by omega, i + 1, hg - 1, _, rfl, rfl, by omega, by omega, by omega, by simp [harr], htop, o4, x3.new x4 hw1, ob3.ext x4 (by omega)⟩
  .have d2 : (ps[i] == -1) = false := by simpa using hp
   rw [if_neg hp] at hng htop
   simp (disch := omega) only [aD, aY, d1, tI, aiB, fJ, aT, jK, LN, bQ, aA, bH, g1, aH, dV, d2, aE, aF]
   exact ⟨ps.length - (i + 1), by omega, i + 1, hg, arr, rfl, rfl, by omega, by omega, by omega, harr, htop, o3, x3, ob3⟩
 .have d1 : decide ((i : Int) < (ps.length : Int)) = false := by simp; omega
  rw [anH (by omega), Sy] at htop
  obtain ⟨rfl, rfl⟩ : hg = high /\ arr = arr0 := by simpa using htop
  have c1 := ob3.cell (off := 1)
  simp only [Value.cells, ahZ, aiA] at c1
  unfold sN zJ Dz Ee EP Er EK DE Dy
  simp (disch := omega) only [aD, aY, d1, fJ, aT, jK, aA, bM, aiC, kO, c1, aH, nR, aE]
  clear d1 hlt hi hng htop
  have hbig : cL w3 w1.heap.size (fe .u8 (m3 arr)) := o3
  refine cK.rule (fun m t w' => ∃ (s j : Nat) (ar : List Int), m = ps.length - s /\ t = (.int .i64 (pos N j : Nat), .int .i64 s) /\ s <= ps.length /\ ar.length = N /\ place N hg (mU (ps.drop s) s) (pos N j) ar = place N hg (mU ps 0) 0 arr /\ (mU (ps.drop s) s).length <= hg /\ cL w' w1.heap.size (fe .u8 (m3 ar)) /\ aR w w' dH) ps.length
   ⟨0, 0, arr, rfl, by rw [RQ] <;> rfl, by omega, harr, by rw [RQ, aiU], by rw [aiU, hhigh]; exact aiM _, o3, x3⟩ ?_
  rintro m t w4 ⟨s, j, ar, rfl, rfl, hs4, har, hpl, hrl, o4, x4⟩
  by_cases hlt : s < ps.length
  .have d1 : decide ((s : Int) < (ps.length : Int)) = true := by simp; omega
   obtain ⟨b', off', c', e, _, hcell⟩ := (hs.ext x4 (aW _)).openI (by omega)
   cases e
   have g1 := hcell s hlt
   obtain ⟨q, hq⟩ : ∃ q, q = ps[s].toNat := ⟨_, rfl⟩
   have emax : (if (0 : Int) > ps[s] then (0 : Int) else ps[s]) = (q : Int) := by rw [hq]; split <;> omega
   rw [Yw hlt, <- hq] at hpl hrl
   have hqN : q <= N := by simp at hrl; omega
   unfold rX Ar D1 DP Kw DM D7 J3 D8
   simp (disch := omega) only [aD, aY, d1, tI, aiB, aA, bH, g1, aH, Pl, emax, aF]
   unfold EG Ev
   refine cK.rule (fun m t w' => ∃ (k j : Nat) (ar : List Int), m = q - k /\ t = (.int .i64 (pos N j : Nat), .int .i64 k) /\ k <= q /\ ar.length = N /\ place N hg (List.replicate (q - k) s ++ mU (ps.drop (s + 1)) (s + 1)) (pos N j) ar = place N hg (mU ps 0) 0 arr /\ cL w' w1.heap.size (fe .u8 (m3 ar)) /\ aR w w' dH) q
    ⟨0, j, ar, rfl, rfl, by omega, har, hpl, o4, x4⟩ ?_
   rintro m t w5 ⟨k, j5, ar5, rfl, rfl, hk, har5, hpl5, o5, x5⟩
   by_cases hkq : k < q
   .have d2 : decide ((k : Int) < (q : Int)) = true := by simp; omega
    have hp := WI (n := N) (by omega) j5
    have hhg : 0 < hg := by simp at hrl; omega
    unfold sM zH DB Gr MD Gv
    simp (disch := omega) only [aD, aY, d2, jK, LN, lQ, aiB, aiC, aA, kH, aF]
    refine NW o5 rfl (by rw [A1]; simp [m3]; omega) fun w6 o6 x6 s6 => ?_
    rw [UM (by omega)] at o6
    unfold FM
    rw [show q - k = (q - (k + 1)) + 1 from by omega, ajQ, akJ, WC] at hpl5
    obtain ⟨d, _, hd2, hd3⟩ := TC (n := N) (high := hg) (by omega) hhg (j5 + 1)
    have hsk : PO N hg N (adv N (pos N j5)) = pos N (j5 + 1 + d) := by rw [Lk]; exact hd3
    refine aeC (w0 := w) (by omega) hN2 hhg hgN (x5.new x6 hw1) ⟨j5 + 1 + d, hsk, ?_⟩
    rw [hsk] at hpl5
    unfold BO
    simp (disch := omega) only [aD, bQ, aT, aA]
    exact ⟨q - (k + 1), by omega, k + 1, j5 + 1 + d, _, rfl, rfl, by omega, by simp [har5], hpl5, o6, x5.new x6 hw1⟩
   .have d2 : decide ((k : Int) < (q : Int)) = false := by simp; omega
    rw [show q - k = 0 from by omega, List.replicate_zero, alE] at hpl5
    unfold sM zH BS
    simp (disch := omega) only [aD, aY, d2, bQ, aT, aA, aE]
    exact ⟨ps.length - (s + 1), by omega, s + 1, j5, ar5, rfl, rfl, by omega, har5, hpl5, by simp at hrl; omega, o5, x5⟩
  .have d1 : decide ((s : Int) < (ps.length : Int)) = false := by simp; omega
   rw [anH (by omega), mU, place] at hpl
   unfold rX Ar BU
   simp (disch := omega) only [aD, aY, d1, aA, aE]
   exact ⟨_, rfl, hw1, by rw [<- hpl]; exact o4, x4⟩
def Es (log : Nat) (ps S : List Int) (i : Nat) : List T3 := (List.range (2 ^ log)).map fun j => if j < i then MI log ps S j else (S.getD j 0, 0, 0)
def V8 (ps S : List Int) (i : Nat) : List Int := (List.range ps.length).map fun s => dR (ps.getD s 0) + ((S.take i).count (s : Int) : Nat)
theorem abH {log : Nat} {ps S : List Int} (h : S.length = 2 ^ log) : Es log ps S 0 = m3 S := by
 unfold Es m3
 apply alW
 .simp [h]
 .intro i h1 h2
  simp only [aiI, anD] at h1
  simp only [akX, alZ, Nat.not_lt_zero, if_false, aiJ]
  rw [aiH (by omega)] <;> rfl
theorem aeP (log : Nat) (ps : List Int) : Es log ps (jL 0 log ps) (2 ^ log) = qR log ps := by
 unfold Es qR
 refine ajH fun j hj => ?_
 rw [if_pos (ajL.1 hj)]
theorem Lt (log : Nat) (ps S : List Int) (i : Nat) : (Es log ps S i).length = 2 ^ log := by simp [Es]
theorem acN {log : Nat} {ps S : List Int} {i : Nat} (h : i < 2 ^ log) : (Es log ps S i)[i]'(by rw [Lt]; exact h) = (S.getD i 0, 0, 0) := by
 unfold Es; simp
theorem aeV {log : Nat} {ps S : List Int} {i : Nat} (_ : i < 2 ^ log) : (Es log ps S i).set i (MI log ps S i) = Es log ps S (i + 1) := by
 unfold Es
 apply alW
 .simp
 .intro j h1 h2
  rw [List.getElem_set]
  simp only [akX, alZ]
  by_cases hij : i = j
  .subst hij; simp
  .rw [if_neg hij]
   by_cases hj : j < i
   .rw [if_pos hj, if_pos (by omega)]
   .rw [if_neg hj, if_neg (by omega)]
theorem NK (ps S : List Int) (i : Nat) : (V8 ps S i).length = ps.length := by simp [V8]
theorem aaA (ps S : List Int) : V8 ps S 0 = ps.map dR := by
 unfold V8
 apply alW
 .simp
 .intro i h1 h2
  simp only [aiI, anD] at h1
  simp only [akX, alZ, aiW, List.count_nil, aiJ]
  rw [aiH h1]; simp
theorem Uh {ps S : List Int} {i s : Nat} (h : s < ps.length) : (V8 ps S i)[s]'(by rw [NK]; exact h) = dR ps[s] + ((S.take i).count (s : Int) : Nat) := by
 unfold V8
 simp only [akX, alZ, aiJ]
 rw [aiH h] <;> rfl
theorem acE {ps S : List Int} {i s : Nat} (h : i < S.length) (hs : s < ps.length) (e : S[i] = (s : Int)) : (V8 ps S i).set s (dR ps[s] + ((S.take i).count (s : Int) : Nat) + 1) = V8 ps S (i + 1) := by
 apply alW
 .simp [V8]
 .intro j h1 h2
  have hj : j < ps.length := by simpa [V8] using h2
  rw [List.getElem_set, Uh hj, Uh hj, alD, aiH h, alS]
  simp only [Option.toList, e, List.count_singleton]
  by_cases hij : s = j
  .subst hij; simp; omega
  .have : ((s : Int) == (j : Int)) = false := by simp; omega
   rw [if_neg hij, this]; simp
theorem abG {k b : Nat} (hb : b <= 64) (h : k * 2 ^ b <= 9223372036854775807) : IntKind.i64.wrap ((k : Int) * 2 ^ (min b IntKind.i64.bits)) = ((k * 2 ^ b : Nat) : Int) := by
 have e : min b IntKind.i64.bits = b := by simp only [IntKind.bits]; omega
 rw [e]
 have : (k : Int) * 2 ^ b = ((k * 2 ^ b : Nat) : Int) := by simp
 rw [this]
 exact aT (by omega) (by omega)
section
variable {log : Nat} {ps S : List Int} {w0 w1 : anU} {p1 p2 p4 b nb N : Nat} {sv : anV}
theorem Wg (hm : Vd log ps) (L : Lay log ps S) (hN : 2 ^ log = N) {i : Nat} (hlt : i < N) {w3 : anU}
 (on3 : cL w3 nb ((V8 ps S i).map (Value.int .i64))) (ob3 : cL w3 b (fe .u8 (Es log ps S i)))
 (o13 : cL w3 p1 [.int .i64 log, sv]) (o43 : cL w3 p4 [.int .i64 log, .slice (some ⟨b, 0, none⟩) N N])
 (hne : p1 ≠ b /\ p4 ≠ b /\ nb ≠ b /\ p1 ≠ nb /\ p4 ≠ nb) {t2 : anV} {kn : anV -> anV -> anV -> anV -> anV -> anV -> anU -> Prop}
 (hk : ∀ w', cL w' nb ((V8 ps S (i + 1)).map (Value.int .i64)) -> cL w' b (fe .u8 (Es log ps S (i + 1))) -> aR w3 w' (fun y => y = nb ∨ y = b) →
  kn (.pointer (some ⟨p1, 0, none⟩)) t2 (.pointer (some ⟨p4, 0, none⟩)) (.slice (some ⟨nb, 0, none⟩) ps.length ps.length) (.int .i64 N) (.int .i64 ((i + 1 : Nat) : Int)) w') :
 Dd kn (.pointer (some ⟨p1, 0, none⟩)) t2 (.pointer (some ⟨p4, 0, none⟩)) (.slice (some ⟨nb, 0, none⟩) ps.length ps.length) (.int .i64 N) (.int .i64 i) w3 := by
 have h5 := hm.log5
 have h15 := hm.log15
 have hlen := hm.len256
 have hN2 : 2 ^ log <= 2 ^ 15 := aiK (by omega) h15
 have hSl : S.length = 2 ^ log := L.len
 have c40 := o43.cell (off := 0)
 have c41 := o43.cell (off := 1)
 have c10 := o13.cell (off := 0)
 simp only [ahZ, aiA] at c40 c41 c10
 have hltN : i < 2 ^ log := by omega
 obtain ⟨s, hsl, hsS, hp1, hp2, hk', hcnt⟩ := Ue hm L hltN
 obtain ⟨k, hkk⟩ : ∃ k, k = Xw ps S i := ⟨_, rfl⟩
 rw [<- hkk] at hk'
 have hk2 : k < 2 ^ (log + 1) := by rw [ajU]; omega
 obtain ⟨eb1, eb2, eb3, eb4⟩ := Xh (log := log) (k := k) (by omega) hk2
 have hel : i < (Es log ps S i).length := by rw [Lt]; exact hltN
 obtain ⟨f0, f1, f2⟩ := RE .u8 (Es log ps S i) i hel
 rw [acN hltN] at f0
 simp only at f0
 rw [hsS] at f0
 have g0 := ob3.cell (off := i * 3)
 rw [f0] at g0
 have hnx : ((V8 ps S i).map (Value.int .i64))[s]? = some (.int .i64 k) := by
  rw [ajA, aiH (by rw [NK]; exact hsl), Uh hsl, hk']
  simp; omega
 have gn := on3.cell (off := s)
 rw [hnx] at gn
 have hkb : k < 131072 := by
  have : 2 ^ (log + 1) <= 2 ^ 16 := aiK (by omega) (by omega)
  omega
 have hpn := mP (hm.low _ (akK hsl))
 have hSi : S[i]'(by omega) = (s : Int) := by rw [<- hsS, aiJ, aiH (by omega)] <;> rfl
 have hns := acE (ps := ps) (S := S) (i := i) (s := s) (by omega) hsl hSi
 have hkv : dR ps[s] + ((S.take i).count (s : Int) : Nat) + 1 = (k : Int) + 1 := by rw [hk']; omega
 rw [hkv] at hns
 have hent : MI log ps S i = Iy log (s : Int) k := by unfold MI; rw [hsS, <- hkk]
 have hes := aeV (log := log) (ps := ps) (S := S) (i := i) hltN
 rw [hent] at hes
 have hE0 : (Es log ps S i)[i]'hel = ((s : Int), 0, 0) := by rw [acN hltN, hsS]
 clear hkk hcnt
 unfold Dd Ib Pk HZ
 simp (disch := omega) only [aD, fD, aiC, aA, iU, c41, aH, lQ, aiB, oL, kH, dY, g0, tI, bH, gn, bQ, aT]
 refine jS on3 rfl (by simp [NK]; omega) fun w4 on4 x4 s4 => ?_
 rw [<- anT, hns] at on4
 unfold H4 HJ
 have o14 := fT (o13.ext x4 (by omega))
 have o44 := o43.ext x4 (by omega)
 have ob4 := ob3.ext x4 (by omega)
 have c10 := o14.cell (off := 0)
 simp only [ahZ] at c10
 simp (disch := omega) only [aD, cB, dZ, iZ, eL, Result.ok.injEq, Next.value.injEq, and_true, oL, aA, rC, true_and, bH, c10, aH]
 refine (Vh k (by omega) _).mono ?_
 rintro r w5 ⟨rfl, rfl⟩
 obtain ⟨nbits, hnbits⟩ : ∃ x, x = log + 1 - bl k := ⟨_, rfl⟩
 have e2 : (log : Int) - (bl k : Int) + 1 = (nbits : Int) := by omega
 have e3 : IntKind.i64.wrap ((log : Int) - (bl k : Int)) = (log : Int) - (bl k : Int) := aT (by omega) (by omega)
 simp (disch := omega) only [c10, aH, fJ, e3, aA, bQ, e2, aT, true_and]
 have ob4 := fT ob4
 refine jS ob4 rfl (by rw [A1, Lt]; omega) fun w5 ob5 x5 s5 => ?_
 rw [(Us .u8 (Es log ps S i) i hel _).2.1, hE0] at ob5
 unfold Dk
 have o45 := fT ((fT o44).ext x5 (by omega))
 have ob5 := fT ob5
 have on5 := fT ((fT on4).ext x5 (by omega))
 have c41 := o45.cell (off := 1)
 simp only [ahZ, aiA] at c41
 have hel5 : i < ((Es log ps S i).set i ((s : Int), (nbits : Int), 0)).length := by simpa using hel
 obtain ⟨-, f1, -⟩ := RE .u8 _ i hel5
 simp only [anN] at f1
 have g1 := ob5.cell (off := i * 3 + 1)
 rw [f1] at g1
 have hnb2 : k * 2 ^ nbits <= 2 ^ 16 := by
  rw [hnbits]
  have : 2 ^ (log + 1) <= 2 ^ 16 := aiK (by omega) (by omega)
  have := ajG (2 ^ (log + 1 - bl k)) (show k <= k + 1 by omega)
  omega
 have e4 := abG (k := k) (b := nbits) (by omega) (by omega)
 have e5 : (((k * 2 ^ nbits : Nat) : Int) - (N : Int)) = (Iy log (s : Int) k).2.2 := by
  unfold Iy
  simp only
  rw [<- hnbits, <- hN]
  simp
 have e6 : IntKind.i64.wrap (((k * 2 ^ nbits : Nat) : Int) - (N : Int)) = ((k * 2 ^ nbits : Nat) : Int) - (N : Int) := aT (by omega) (by omega)
 rw [e5] at e6
 have e7 : (Iy log (s : Int) k) = ((s : Int), (nbits : Int), (Iy log (s : Int) k).2.2) := by unfold Iy; rw [hnbits]
 generalize hq : k * 2 ^ nbits = q at *
 generalize hbase : (Iy log (s : Int) k).2.2 = base at *
 simp (disch := omega) only [aD, oL, fD, aiC, aA, Fj, true_and, iU, c41, aH, vN, rC, bH, g1, kM, aiB, e4, fJ, e5, e6]
 refine jS ob5 rfl (by rw [A1]; simp [Lt]; omega) fun w6 ob6 x6 s6 => ?_
 rw [(Us .u8 _ i hel5 _).2.2] at ob6
 simp only [anN, List.set_set] at ob6
 rw [<- e7, hes] at ob6
 have xx : aR w3 w6 (fun y => y = nb ∨ y = b) :=
  ((((x4.mono fun _ _ h => .inl h : aR w3 w4 (fun y => y = nb ∨ y = b)).seq (aR.dr _ _)).seq (x5.mono fun _ _ h => .inr h)).seq (aR.dr _ _)).seq (x6.mono fun _ _ h => .inr h)
 unfold Dc
 simp (disch := omega) only [aD, bQ, aT, aA]
 exact hk _ (on5.ext x6 (by omega)) ob6 xx
theorem Yo (hm : Vd log ps) (L : Lay log ps S) (hN : 2 ^ log = N) {w3 : anU}
 (on3 : cL w3 nb ((V8 ps S 0).map (Value.int .i64))) (ob3 : cL w3 b (fe .u8 (m3 S)))
 (o13 : cL w3 p1 [.int .i64 log, sv]) (o23 : cL w3 p2 [.int .i64 0, .slice none 0 0]) (o43 : cL w3 p4 [.int .i64 log, .slice (some ⟨b, 0, none⟩) N N])
 (hne : p1 ≠ b /\ p4 ≠ b /\ nb ≠ b /\ p1 ≠ nb /\ p4 ≠ nb /\ p2 ≠ b /\ p2 ≠ nb) (hlo : w0.heap.size <= p2 /\ w0.heap.size <= b /\ w0.heap.size <= nb) (hx : aR w0 w3 dH) {R : anV -> anU -> Prop}
 (hR : ∀ w', cL w' b (fe .u8 (Es log ps S N)) -> aR w0 w' dH -> R (.tuple #[.agg #[.int .i64 log, .slice (some ⟨b, 0, none⟩) N N], .int .i64 0]) w') :
 BL R (.pointer (some ⟨p1, 0, none⟩)) (.pointer (some ⟨p2, 0, none⟩)) (.pointer (some ⟨p4, 0, none⟩)) (.slice (some ⟨nb, 0, none⟩) ps.length ps.length) w3 := by
 have hN2 : 2 ^ log <= 2 ^ 15 := aiK (by omega) hm.log15
 have c41 := o43.cell (off := 1)
 simp only [ahZ, aiA] at c41
 unfold BL FZ Gp FY Gb
 simp (disch := omega) only [aD, fD, aiC, aA, iU, c41, aH, vN]
 have ob0 : cL w3 b (fe .u8 (Es log ps S 0)) := by rw [abH L.len]; exact ob3
 refine cK.rule (fun m t w' => ∃ i : Nat, m = N - i /\ t = .int .i64 i /\ i <= N /\ cL w' nb ((V8 ps S i).map (Value.int .i64)) /\ cL w' b (fe .u8 (Es log ps S i)) /\ aR w3 w' (fun y => y = nb ∨ y = b)) N
  ⟨0, rfl, rfl, by omega, on3, ob0, aR.refl _ _⟩ ?_
 rintro m t w4 ⟨i, rfl, rfl, hi, on4, ob4, x4⟩
 unfold BJ F5
 have o44 := o43.ext x4 (by omega)
 have o24 := o23.ext x4 (by omega)
 by_cases hlt : i < N
 .have d1 : decide ((i : Int) < (N : Int)) = true := by simp only [decide_eq_true_eq]; omega
  simp (disch := omega) only [aD, aY, d1, aA, aF]
  refine Wg hm L hN hlt on4 ob4 (o13.ext x4 (by omega)) o44 ⟨hne.1, hne.2.1, hne.2.2.1, hne.2.2.2.1, hne.2.2.2.2.1⟩ fun w5 on5 ob5 x5 => ?_
  exact ⟨N - (i + 1), by omega, i + 1, rfl, rfl, by omega, on5, ob5, x4.trans x5 (fun _ _ h => h)⟩
 .have d1 : decide ((i : Int) < (N : Int)) = false := by simp only [decide_eq_false_iff_not]; omega
  have : i = N := by omega
  subst this
  have l4 := FQ (off := 0) o44 (by simp)
  simp only [aiU, aiQ, aiW] at l4
  simp (disch := omega) only [aD, aY, d1, aA, aE]
  unfold Db
  simp (disch := omega) only [aD, l4, aA]
  refine BM o24 rfl (by simp [one]) (by simp) fun w5 o25 x5 s5 => ?_
  refine S5 o25 (by simp [cG]) ?_
  simp only [cG, aiG, aiF, aiU, aiQ, aiW]
  exact hR _ (ob4.ext x5 (by omega)) ((hx.trans x4 (fun y hy hh => by omega)).new x5 hlo.1)
theorem Wu (hm : Vd log ps) (L : Lay log ps S) (hN : 2 ^ log = N) {w : anU} (hs : Sl w0 sv (ps.map (Value.int .i64)))
 (o1 : cL w p1 [.int .i64 log, sv]) (o2 : cL w p2 [.int .i64 0, .slice none 0 0]) (o4 : cL w p4 [.int .i64 log, .slice (some ⟨b, 0, none⟩) N N]) (ob : cL w b (fe .u8 (m3 S)))
 (hlo : w0.heap.size <= p2 /\ w0.heap.size <= b) (hne : p1 ≠ b /\ p2 ≠ b /\ p4 ≠ b) (hx : aR w0 w dH) {R : anV -> anU -> Prop}
 (hR : ∀ w', cL w' b (fe .u8 (Es log ps S N)) -> aR w0 w' dH -> R (.tuple #[.agg #[.int .i64 log, .slice (some ⟨b, 0, none⟩) N N], .int .i64 0]) w') :
 uY R (.pointer (some ⟨p1, 0, none⟩)) (.pointer (some ⟨p2, 0, none⟩)) (.pointer (some ⟨p4, 0, none⟩)) w := by
 have hlen := hm.len256
 have hN2 : 2 ^ log <= 2 ^ 15 := aiK (by omega) hm.log15
 obtain ⟨a, c, rfl, hc⟩ := hs.lenI
 have c1 := o1.cell (off := 1)
 simp only [ahZ, aiA] at c1
 unfold uY Gw
 simp (disch := omega) only [aD, bM, aiC, aA, kO, c1, aH, nR]
 refine Yf (by omega) (by omega) fun w1 on x1 s1 => ?_
 rw [aiB] at on ⊢
 have l1 := o1.lt
 have l2 := o2.lt
 have l4 := o4.lt
 have lb := ob.lt
 have o1 := o1.ext x1 (fun h => h)
 have o2 := o2.ext x1 (fun h => h)
 have o4 := o4.ext x1 (fun h => h)
 have ob := ob.ext x1 (fun h => h)
 have x01 := hx.seq x1
 have c1 := o1.cell (off := 1)
 simp only [ahZ, aiA] at c1
 have hwn : w0.heap.size <= w.heap.size := hx.size
 generalize w.heap.size = nb at *
 unfold FX GB Gt F3 F7
 simp (disch := omega) only [aD, bM, aiC, aA, kO, c1, aH, nR]
 refine cK.rule (fun m t w' => ∃ i : Nat, m = ps.length - i /\ t = .int .i64 i /\ i <= ps.length /\ cL w' nb (((ps.take i).map dR ++ List.replicate (ps.length - i) 0).map (Value.int .i64)) /\ aR w0 w' dH /\ aR w1 w' (fun y => y = nb)) ps.length
  ⟨0, rfl, rfl, by omega, by simpa using on, x01, aR.refl _ _⟩ ?_
 rintro m t w2 ⟨i, rfl, rfl, hi, on2, x2, y2⟩
 by_cases hlt : i < ps.length
 .have d1 : decide ((i : Int) < (ps.length : Int)) = true := by simp; omega
  obtain ⟨b', off', c', e, _, hcell⟩ := (hs.ext x2 (aW _)).openI (by omega)
  cases e
  have g1 := hcell i hlt
  have hp := hm.low _ (akK hlt)
  have hple := SE hm hlt
  have hpv : dR ps[i] = ps[i] ∨ ps[i] = -1 := by unfold dR; split <;> omega
  have hpn := mP hp
  have emax : (if (0 - ps[i]) > ps[i] then (0 - ps[i]) else ps[i]) = dR ps[i] := by unfold dR; split <;> split <;> omega
  unfold vC
  simp (disch := omega) only [aD, aY, d1, tI, aiB, aiC, bQ, aT, aA, bH, g1, aH, agE, Pl, emax, aF]
  refine jS on2 rfl (by simp; omega) fun w3 on3 x3 s3 => ?_
  refine ⟨ps.length - (i + 1), by omega, i + 1, rfl, rfl, by omega, ?_, x2.new x3 hwn, y2.trans x3 (fun _ _ h => h)⟩
  rw [<- anT] at on3
  have e : ((ps.take i).map dR ++ List.replicate (ps.length - i) 0).set i (dR ps[i]) = (ps.take (i + 1)).map dR ++ List.replicate (ps.length - (i + 1)) 0 := by
   rw [show ps.length - i = (ps.length - (i + 1)) + 1 from by omega, ajQ, amA _ _ (by rw [aiI, aiR]; omega)]
   have : i - ((ps.take i).map dR).length = 0 := by rw [aiI, aiR]; omega
   rw [this, aiG, alD, aiH hlt, aiZ, ajI]
   rfl
  rw [e] at on3
  exact on3
 .have d1 : decide ((i : Int) < (ps.length : Int)) = false := by simp; omega
  have : i = ps.length := by omega
  subst this
  have on2 : cL w2 nb ((V8 ps S 0).map (Value.int .i64)) := by rw [aaA]; simpa using on2
  unfold vC
  simp (disch := omega) only [aD, aY, d1, bQ, aT, aA, aE]
  exact Yo hm L hN on2 (ob.ext y2 (by omega)) (o1.ext y2 (by omega)) (o2.ext y2 (by omega)) (o4.ext y2 (by omega)) (by omega) (by omega) x2 hR
def Tbl (w : anU) (base b log : Nat) (L : List T3) (v : anV) : Prop := v = .agg #[.int .i64 log, .slice (some ⟨b, 0, none⟩) L.length L.length] /\ base <= b /\ cL w b (fe .u8 L)
theorem abY {log most : Nat} {ps : List Int} (h : Vd log ps) (hl : log <= most) : acI log ps most = 0 := by
 unfold acI; rw [h.b]; simp; omega
theorem abX {w : anU} (hm : Vd log ps) (hs : Sl w sv (ps.map (Value.int .i64))) :
 aP pg B9 #[.agg #[.int .i64 log, sv]] w (fun r w' => ∃ b v, r = .tuple #[v, .int .i64 0] /\ Tbl w' w.heap.size b log (qR log ps) v /\ aR w w' dH) := by
 refine R4 ?_
 have hlen := hm.len256
 unfold Tt Gq FV
 refine mX fun w1 o1 x1 s1 => ?_
 refine Dm fun w2 o2 x2 s2 => ?_
 have o1 := o1.ext x2 (fun h => h)
 have l1 := iL (off := 0) o1 (by simp [Value.cells])
 simp only [Value.cells, aiU, aiQ, aiW] at l1
 simp (disch := omega) only [aD, l1, SV, aA, cB, eL, Result.ok.injEq, Next.value.injEq, and_true, bH, true_and]
 refine (aaZ (most := 15) ((hs.ext x1 (aW _)).ext x2 (aW _)) (by omega)).mono ?_
 rintro r w3 ⟨rfl, x3⟩
 have hce := abY (most := 15) hm hm.log15
 rw [show (((15 : Nat) : Int)) = 15 from rfl] at hce
 rw [hce]
 have e0 : ((0 : Int) != 0) = false := rfl
 have x03 : aR w w3 dH := (x1.seq x2).seq x3
 have o1 := fT (o1.ext x3 (fun h => h))
 have o2 := fT (o2.ext x3 (fun h => h))
 have c0 := o1.cell (off := 0)
 simp only [Value.cells, ahZ] at c0
 have l1 := iL (off := 0) o1 (by simp [Value.cells])
 simp only [Value.cells, aiU, aiQ, aiW] at l1
 have hz2 := o2.lt
 have fin : ∀ {b p4 : Nat} {w' : anU}, cL w' w.heap.size [.int .i64 log, sv] -> cL w' w1.heap.size [.int .i64 0, .slice none 0 0] -> cL w' p4 [.int .i64 log, .slice (some ⟨b, 0, none⟩) (2 ^ log) (2 ^ log)] -> cL w' b (fe .u8 (m3 (jL 0 log ps))) -> w2.heap.size <= b -> p4 ≠ b -> aR w w' dH →
     uY (fun r w' => ∃ b v, r = .tuple #[v, .int .i64 0] /\ Tbl w' w.heap.size b log (qR log ps) v /\ aR w w' dH) (.pointer (some ⟨w.heap.size, 0, none⟩)) (.pointer (some ⟨w1.heap.size, 0, none⟩)) (.pointer (some ⟨p4, 0, none⟩)) w' := by
  intro b p4 w' h1 h2 h3 h4 h5 h6 h7
  refine Wu hm (HV hm 0) rfl hs h1 h2 h3 h4 (by omega) (by omega) h7 fun w'' ho hx => ?_
  rw [aeP] at ho
  exact ⟨b, _, rfl, ⟨by rw [qE], by omega, ho⟩, hx⟩
 simp (disch := omega) only [cO, e0, aA, aE]
 have hdr : (dr w3).heap.size = w3.heap.size := rfl
 have h23 := x3.size
 refine Zj ?_ ?_
 .simp (disch := omega) only [c0, aH, l1, aA, true_and]
  refine (VM hm ((hs.ext x03 (aW _)).dr)).mono ?_
  rintro r w4 ⟨b, rfl, hb, ob, x4⟩
  have o1 := o1.ext x4 (fun h => h)
  have c0 := o1.cell (off := 0)
  simp only [Value.cells, ahZ] at c0
  simp (disch := omega) only [c0, aH, Hb, Result.ok.injEq, Next.value.injEq, and_true, aA, true_and]
  refine Dm fun w5 o5 x5 s5 => ?_
  have o1 := o1.ext x5 (fun h => h)
  have c0 := o1.cell (off := 0)
  simp only [Value.cells, ahZ] at c0
  simp (disch := omega) only [c0, aH, true_and]
  have hlb := ob.lt
  refine BM o5 rfl (by simp [one]) (by simp) fun w6 o6 x6 s6 => ?_
  have h45 := x4.size
  refine fin (o1.ext x6 (by omega)) (((o2.ext x4 (fun h => h)).ext x5 (fun h => h)).ext x6 (by omega)) o6 ((ob.ext x5 (fun h => h)).ext x6 (by omega)) (by omega) (by omega) ?_
  exact (((x03.seq (aR.dr _ _)).seq x4).seq x5).new x6 (by omega)
 .simp (disch := omega) only [c0, aH, l1, aA, true_and]
  refine Dm fun w4 o4 x4 s4 => ?_
  have o1 := o1.ext x4 (fun h => h)
  have c0 := o1.cell (off := 0)
  simp only [Value.cells, ahZ] at c0
  have l1 := iL (off := 0) o1 (by simp [Value.cells])
  simp only [Value.cells, aiU, aiQ, aiW] at l1
  simp (disch := omega) only [l1, c0, aH, and_true, true_and]
  refine (VM hm ((((hs.ext x03 (aW _)).dr).ext x4 (aW _)))).mono ?_
  rintro r w5 ⟨b, rfl, hb, ob, x5⟩
  have o1 := o1.ext x5 (fun h => h)
  have c0 := o1.cell (off := 0)
  simp only [Value.cells, ahZ] at c0
  simp (disch := omega) only [c0, aH, Hb, aA, true_and]
  refine BM (o4.ext x5 (fun h => h)) rfl (by simp [one]) (by simp) fun w6 o6 x6 s6 => ?_
  refine fin (o1.ext x6 (by omega)) (((o2.ext x4 (fun h => h)).ext x5 (fun h => h)).ext x6 (by omega)) o6 (ob.ext x6 (by omega)) (by omega) (by omega) ?_
  exact (((x03.seq (aR.dr _ _)).seq x4).seq x5).new x6 (by omega)
end
theorem Tbl.ext {w w' : anU} {base b log : Nat} {L : List T3} {v : anV} {M : Nat -> Prop} (h : Tbl w base b log L v) (hx : aR w w' M) (hM : ¬ M b) : Tbl w' base b log L v := ⟨h.1, h.2.1, h.2.2.ext hx hM⟩
theorem XW {k : IntKind} {L : List T3} {i : Nat} (h : i < L.length) : ((fe k L).drop (i * 3)).take 3 = [.int k L[i].1, .int .i64 L[i].2.1, .int .i64 L[i].2.2] := by
 obtain ⟨h0, h1, h2⟩ := RE k L i h
 apply akQ
 intro j
 match j with
 | 0 => rw [akA (by omega), alP]; exact h0
 | 1 => rw [akA (by omega), alP]; exact h1
 | 2 => rw [akA (by omega), alP]; exact h2
 | j + 3 => rw [aiO (by rw [aiR]; omega), aiO (by simp)]
theorem WM (log : Nat) (ps : List Int) {i : Nat} (h : i < 2 ^ log) : ((qR log ps)[i]'(by rw [qE]; exact h)).1 = (jL 0 log ps).getD i 0 := by
 unfold qR MI Iy; simp
def Low (L : List T3) : Prop := ∀ e ∈ L, ∃ n : Nat, e.2.1 = (n : Int) /\ n <= 20 /\ 0 <= e.2.2 /\ e.2.2 <= 100000
theorem W7 {log : Nat} {ps : List Int} (hm : Vd log ps) : Low (qR log ps) := by
 intro e he
 obtain ⟨i, hi', rfl⟩ := amI he
 have hi := hi'
 rw [qE] at hi
 have hat := To (ps := ps) hi
 rw [aiH hi'] at hat
 rw [ajE hat]
 have L := HV hm 0
 obtain ⟨s, hs, hg, hp1, hp2, hk, hc⟩ := Ue hm L hi
 have hk2 : Xw ps (jL 0 log ps) i < 2 ^ (log + 1) := by rw [ajU]; omega
 obtain ⟨e1, e2, e3, e4⟩ := Xh (log := log) (k := Xw ps (jL 0 log ps) i) (by omega) hk2
 have h15 := hm.log15
 have hb : 2 ^ (log + 1) <= 2 ^ 16 := aiK (by omega) (by omega)
 have hpow : ((2 ^ log : Nat) : Int) = (2 : Int) ^ log := by simp
 unfold MI Iy
 rw [<- hpow]
 rw [Nat.succ_mul] at e2
 have hA := akT (akT (Nat.le_add_right _ _) e2) hb
 generalize hX : Xw ps (jL 0 log ps) i * 2 ^ (log + 1 - bl (Xw ps (jL 0 log ps) i)) = X at *
 refine ⟨_, rfl, by omega, ?_, ?_⟩
 .show (0 : Int) <= (X : Int) - ((2 ^ log : Nat) : Int)
  omega
 .show (X : Int) - ((2 ^ log : Nat) : Int) <= 100000
  omega
theorem Yl {log : Nat} {ps : List Int} (hm : Vd log ps) : ∀ e ∈ qR log ps, 0 <= e.1 /\ e.1 < 256 := by
 intro e he
 obtain ⟨i, hi, rfl⟩ := amI he
 have h2 : i < 2 ^ log := by rw [qE] at hi; exact hi
 rw [WM log ps h2]
 obtain ⟨s, hs, e, _⟩ := Ue hm (HV hm 0) h2
 have := hm.len256
 rw [e]; omega
end Go.Proofs.Ytgpimhlgaokobaa
namespace Go.Proofs.Ytgpimhlgaokobaa
open Go Go.En Go.Pu
theorem OT (x : ByteArray) : (x.toList == x.toList) = true := by simp
end Go.Proofs.Ytgpimhlgaokobaa
namespace Go.Proofs.Ytgpimhlgaokobaa
open Go Go.En Go.Pu
set_option maxRecDepth 4000
theorem UH.mono {v : anV} {lo hi lo' hi' : Nat} (h : UH v lo hi) (h1 : lo' <= lo) (h2 : hi <= hi') : UH v lo' hi' := fun M hM => h M fun b hb hh => hM b (by omega) (by omega)
def RB (w : anU) (lo hi : Nat) (b : anV) (L : List Bool) (lack : Nat) : Prop := ∃ v, b = .agg #[v, .int .i64 lack] /\ Bl w v L /\ UH v lo hi
theorem RB.ext {w w' : anU} {lo hi lack : Nat} {b : anV} {L : List Bool} {M : Nat -> Prop} (h : RB w lo hi b L lack) (hx : aR w w' M) (hM : ∀ b, lo <= b -> b < hi -> ¬ M b) : RB w' lo hi b L lack := by
 obtain ⟨v, h1, h2, h3⟩ := h
 exact ⟨v, h1, h2.ext hx (h3 M hM), h3⟩
def iX (L : List T3) (s : Int) : Nat := if 0 <= s then (match L[s.toNat]? with | some e => e.2.1.toNat | none => 0) else 0
def BC (L : List T3) (s : Int) (x : Nat) : Int := if 0 <= s then (match L[s.toNat]? with | some e => e.2.2 + x | none => 0) else 0
theorem Yg {L : List T3} (h : Low L) (s : Int) : iX L s <= 20 := by
 unfold iX
 split
 .split
  .rename_i e he
   obtain ⟨n, h1, h2, _⟩ := h _ (akH he)
   rw [h1]; simpa using h2
  .omega
 .omega
theorem RS {log lo hi : Nat} {a : Option Addr} {k c : Nat} {l : List UInt8} {left : Int} {w : anU} (h : SS w lo hi l left) (hlh : lo <= hi) (hhi : hi < w.heap.size) (hn : log <= 20) (h1 : left <= 8 * l.length) (h2 : -100000000 <= left) (hl : l.length <= 1000000) :
 aP pg Fs #[.agg #[.int .i64 log, .slice a k c], .pointer (some ⟨hi, 0, none⟩)] w (fun r w' => r = .int .i64 (mT ((aQ l).take left.toNat) log : Nat) /\ SS w' lo hi l (left - log) /\ aR w w' (fun y => y = hi)) := by
 refine Sz ?_
 unfold Tb HP
 refine mX fun w1 o1 x1 s1 => ?_
 simp only [Value.cells] at o1
 have c0 := o1.cell (off := 0)
 simp only [ahZ, aiA] at c0
 simp (disch := omega) only [aD, PH, aA, bH, c0, aH]
 refine (Qm (h.ext x1 (fun _ _ _ h => h) hlh) hlh (by omega) h1 (by omega) hl).mono ?_
 rintro r w2 ⟨rfl, b2, x2⟩
 have hlt := vD ((aQ l).take left.toNat) log
 have hp : 2 ^ log <= 2 ^ 20 := aiK (by omega) hn
 generalize mT ((aQ l).take left.toNat) log = x at *
 simp (disch := omega) only [gT, aT, aA, true_and]
 exact ⟨b2, (x1.mono fun _ _ h => h.elim).seq x2⟩
theorem Ys {log base b lo hi : Nat} {L : List T3} {v : anV} {s : Int} {l : List UInt8} {left : Int} {w : anU} (ht : Tbl w base b log L v) (hL : Low L) (hlen : L.length <= 1000000) (h : SS w lo hi l left) (hlh : lo <= hi) (hhi : hi < w.heap.size) (hb : b ≠ hi) (h1 : left <= 8 * l.length) (h2 : -100000000 <= left) (hl : l.length <= 1000000) :
 aP pg Ik #[v, .int .i64 s, .pointer (some ⟨hi, 0, none⟩)] w (fun r w' => r = .int .i64 (BC L s (mT ((aQ l).take left.toNat) (iX L s))) /\ SS w' lo hi l (left - iX L s) /\ aR w w' (fun y => y = hi)) := by
 refine SY ?_
 obtain ⟨rfl, hb0, ob⟩ := ht
 unfold UY Kc
 refine mX fun w1 o1 x1 s1 => ?_
 simp only [Value.cells] at o1
 have c1 := o1.cell (off := 1)
 simp only [ahZ, aiA] at c1
 have hbw := h.ext x1 (fun _ _ _ h => h) hlh
 by_cases hs0 : s < 0
 .have d1 : decide (s < 0) = true := by simpa using hs0
  have e1 : iX L s = 0 := by unfold iX; rw [if_neg (by omega)]
  have e2 : ∀ x, BC L s x = 0 := fun x => by unfold BC; rw [if_neg (by omega)]
  rw [e1]
  simp (disch := omega) only [aD, aY, d1, fD, aiC, aA, eL, and_true, true_and, iU, jV, bO, if_true, aF, eF]
  exact ⟨by rw [e2], by simpa using hbw, x1.mono fun _ _ h => h.elim⟩
 have d1 : decide (s < 0) = false := by simpa using hs0
 obtain ⟨i, rfl⟩ : ∃ i : Nat, s = i := ⟨s.toNat, by omega⟩
 by_cases hge : L.length <= i
 .have d2 : decide ((L.length : Int) <= (i : Int)) = true := by simp; omega
  have hnone : L[i]? = none := aiO hge
  have e1 : iX L i = 0 := by unfold iX; simp [hnone]
  have e2 : ∀ x, BC L i x = 0 := fun x => by unfold BC; simp [hnone]
  rw [e1]
  simp (disch := omega) only [aD, aY, d1, fD, aiC, aA, eL, and_true, true_and, iU, dS, bO, aiD, if_false, bW, c1, aH, vN, lK, d2, aF]
  exact ⟨by rw [e2], by simpa using hbw, x1.mono fun _ _ h => h.elim⟩
 have d2 : decide ((L.length : Int) <= (i : Int)) = false := by simp; omega
 have hlt : i < L.length := by omega
 have l1 := ML (off := i * 3) (ob.ext x1 (fun h => h)) (by rw [A1]; omega)
 rw [XW hlt] at l1
 obtain ⟨n, hn, hn2, hb0', hb1⟩ := hL _ (akK hlt)
 have hsome : L[i]? = some L[i] := aiH hlt
 have e1 : iX L i = n := by unfold iX; simp [hsome, hn]
 have e2 : ∀ x : Nat, BC L i x = L[i].2.2 + x := fun x => by unfold BC; simp [hsome]
 generalize L[i] = e at *
 obtain ⟨e0, en, eb⟩ := e
 simp only at hn hb0' hb1 l1 e2
 subst hn
 rw [e1, e2]
 simp (disch := omega) only [aD, aY, d1, fD, aiC, aA, eL, and_true, true_and, iU, dS, bO, aiD, if_false, bW, c1, aH, vN, lK, d2, lQ, aiB, l1, aE]
 refine Ot fun w3 o3 x3 s3 => ?_
 refine My o3 rfl (by simp [one]) (by simp) fun w4 o4 x4 s4 => ?_
 simp only [cG, aiG, aiF] at o4
 have x14 : aR w1 w4 dH := x3.new x4 (by omega)
 have od := fT o4
 have k1 := o4.cell (off := 1)
 have k2 := o4.cell (off := 2)
 have k1d := od.cell (off := 1)
 have k2d := od.cell (off := 2)
 simp only [ahZ, aiA] at k1 k2 k1d k2d
 simp (disch := omega) only [Fj, aiC, rC, Result.ok.injEq, Next.value.injEq, and_true, aA, bH, k1d, aH, true_and, k2d]
 have z3 := x3.size
 refine (Qm ((hbw.ext x14 (fun _ _ _ h => h) hlh).ext (aR.dr _ dH) (fun _ _ _ h => h) hlh) hlh (by omega) h1 (by omega) hl).mono ?_
 rintro r w5 ⟨rfl, b5, x5⟩
 have x45 : aR w4 w5 (fun y => y = hi) := (aR.dr _ _).seq x5
 have k2e := (o4.ext x45 (by omega)).cell (off := 2)
 simp only [ahZ, aiA] at k2e
 have hlt := vD ((aQ l).take left.toNat) n
 have hp : 2 ^ n <= 2 ^ 20 := aiK (by omega) hn2
 generalize mT ((aQ l).take left.toNat) n = x at *
 simp (disch := omega) only [k2e, aH, gT, aT, aA, bQ, true_and]
 exact ⟨b5, ((x1.seq x14).mono fun _ _ h => h.elim).seq x45⟩
def RT (w : anU) (b log : Nat) (L : List T3) (v : anV) : Prop := ∃ cc rest, v = .agg #[.int .i64 log, .slice (some ⟨b, 0, none⟩) L.length cc] /\ cL w b (fe .i64 L ++ rest)
theorem RT.ext {w w' : anU} {b log : Nat} {L : List T3} {v : anV} {M : Nat -> Prop} (h : RT w b log L v) (hx : aR w w' M) (hM : ¬ M b) : RT w' b log L v := by
 obtain ⟨cc, rest, h1, h2⟩ := h
 exact ⟨cc, rest, h1, h2.ext hx hM⟩
end Go.Proofs.Ytgpimhlgaokobaa
namespace Go.Pu
open Go Go.En
def mA (L : List Bool) (st n : Nat) : Nat := tN ((L.drop st).take n)
theorem JF (L : List Bool) (st n : Nat) : mA L st n < 2 ^ n := by
 have h := RA ((L.drop st).take n)
 have : ((L.drop st).take n).length <= n := by rw [aiR]; omega
 exact alM h (aiK (by omega) this)
def TV (L : List Bool) (st left : Nat) : Option (Nat × Nat) :=
 let n := bl (left + 1)
 if L.length < st + (n - 1) then none
 else
  let low := mA L st (n - 1)
  let free := 2 ^ n - 2 - left
  if low < free then some (low, st + (n - 1))
  else if L.length < st + (n - 1) + 1 then none
  else if mA L (st + (n - 1)) 1 = 0 then some (low, st + (n - 1) + 1)
  else some (low + 2 ^ (n - 1) - free, st + (n - 1) + 1)
def UW (L : List Bool) : Nat -> Nat -> Option (Nat × Nat)
 | 0, _ => none
 | f + 1, st => if L.length < st + 2 then none else if mA L st 2 < 3 then some (mA L st 2, st + 2) else match UW L f (st + 2) with
   | none => none
   | some (k, st') => some (3 + k, st')
def S9 (L : List Bool) (sym : Nat) : Nat -> Nat -> Nat -> List Int -> Except Int (List Int × Nat)
 | 0, _, _, _ => .error 10
 | f + 1, st, left, ps => if left = 0 then .ok (ps, st) else match TV L st left with
   | none => .error 10
   | some (v, st1) =>
     if v = 1 then match UW L (L.length + 1) st1 with
       | none => .error 10
       | some (k, st2) => if sym < ps.length + 1 + k then .error 11 else S9 L sym f st2 left (ps ++ 0 :: List.replicate k 0)
     else if sym < ps.length + 1 then .error 11 else S9 L sym f st1 (left - (dR ((v : Int) - 1)).toNat) (ps ++ [(v : Int) - 1])
theorem UF {L : List Bool} {st left v st1 : Nat} (h : TV L st left = some (v, st1)) (h0 : 0 < left) : st < st1 /\ st1 <= L.length /\ v <= left + 1 := by
 have hb1 := KM (k := left + 1) (by omega)
 have hb2 := RH (k := left + 1) (by omega)
 have hb3 := QD (left + 1)
 have hn : 2 <= bl (left + 1) := by
  rcases aiS (bl (left + 1)) 2 with h | h
  .have : bl (left + 1) = 1 := by omega
   rw [this] at hb3; omega
  .exact h
 unfold TV at h
 simp only at h
 generalize bl (left + 1) = n at *
 obtain ⟨m, rfl⟩ : ∃ m, n = m + 1 := ⟨n - 1, by omega⟩
 rw [akO] at *
 rw [ajU] at *
 have hl := JF L st m
 generalize 2 ^ m = q at *
 generalize mA L st m = low at *
 split at h
 .cases h
 .split at h
  .obtain ⟨rfl, rfl⟩ := alR (ajE h); omega
  .split at h
   .cases h
   .split at h
    .obtain ⟨rfl, rfl⟩ := alR (ajE h); omega
    .obtain ⟨rfl, rfl⟩ := alR (ajE h); omega
theorem W8 {L : List Bool} : ∀ {f st k st1 : Nat}, UW L f st = some (k, st1) -> st < st1 /\ st1 <= L.length /\ 2 * k <= 3 * (st1 - st)
 | 0, st, k, st1, h => by cases h
 | f + 1, st, k, st1, h => by
   rw [UW] at h
   split at h
   .cases h
   .have hl := JF L st 2
    split at h
    .obtain ⟨rfl, rfl⟩ := alR (ajE h); omega
    .cases hn : UW L f (st + 2) with
     | none => rw [hn] at h; cases h
     | some x =>
       obtain ⟨k', st'⟩ := x
       rw [hn] at h
       obtain ⟨rfl, rfl⟩ := alR (ajE h)
       have := W8 hn
       omega
def Ff (L : List Bool) (most : Int) (sym : Nat) : Except Int (Nat × List Int × Nat) :=
 if L.length < 4 then .error 10
 else
  let log := mA L 0 4 + 5
  if most < log ∨ 15 < log then .error 12
  else match S9 L sym (L.length + 1) 4 (2 ^ log) [] with
   | .error e => .error e
   | .ok (ps, st) => .ok (log, ps, (st + 7) / 8)
theorem RX : ∀ k : Nat, Hv (List.replicate k 0) = 0
 | 0 => rfl
 | k + 1 => by rw [ajQ, Be, RX k] <;> rfl
theorem Qr {L : List Bool} {sym : Nat} {out : List Int} {stE : Nat} {tot : Int} : ∀ {f st left : Nat} {ps : List Int}, S9 L sym f st left ps = .ok (out, stE) -> (∀ p ∈ ps, -1 <= p) -> Hv ps + left = tot →
 (left = 0 -> ps.length <= sym /\ ps.getLast? ≠ some 0 /\ 1 <= ps.length) -> (∀ p ∈ out, -1 <= p) /\ Hv out = tot /\ out.length <= sym /\ out.getLast? ≠ some 0 /\ 1 <= out.length
 | 0, st, left, ps, h, _, _, _ => by cases h
 | f + 1, st, left, ps, h, hlo, hs, hz => by
   rw [S9] at h
   split at h
   .rename_i h0
    cases h
    obtain ⟨z1, z2, z3⟩ := hz h0
    exact ⟨hlo, by omega, z1, z2, z3⟩
   .rename_i h0
    cases hv : TV L st left with
    | none => rw [hv] at h; cases h
    | some x =>
      obtain ⟨v, st1⟩ := x
      obtain ⟨v1, v2, v3⟩ := UF hv (by omega)
      rw [hv] at h
      simp only at h
      split at h
      .rename_i hv1
       cases hn : UW L (L.length + 1) st1 with
       | none => rw [hn] at h; cases h
       | some y =>
         obtain ⟨k, st2⟩ := y
         rw [hn] at h
         simp only at h
         split at h
         .cases h
         .refine Qr h ?_ ?_ (fun h => absurd h h0)
          .intro p hp
           rcases ajT.1 hp with hp | hp
           .exact hlo p hp
           .rcases ajW.1 hp with rfl | hp
            .omega
            .rw [List.eq_of_mem_replicate hp]; omega
          .rw [QN, Be]
           have e := RX k
           rw [e]
           have : dR 0 = 0 := rfl
           omega
      .rename_i hv1
       split at h
       .cases h
       .have hp1 : -1 <= (v : Int) - 1 := by omega
        have hpn := mP hp1
        have hpl : dR ((v : Int) - 1) <= left := by unfold dR; split <;> omega
        refine Qr h ?_ ?_ ?_
        .intro p hp
         rcases ajT.1 hp with hp | hp
         .exact hlo p hp
         .rw [amM.1 hp]; exact hp1
        .rw [QN, Be]
         have e : Hv [] = 0 := rfl
         rw [e]; omega
        .intro _
         rw [aiE, ajP, amR]
         refine ⟨by omega, ?_, by omega⟩
         intro e
         have := ajE e
         omega
end Go.Pu
namespace Go.En
open Go
section
variable {P : Program} {w : anU} {t e : TypeId}
theorem Vb {S : Nat -> Prop} {sz n m : Nat} {i : TypeInfo} {z : anV} {ty t2 : TypeId} {k : IntKind} (hu : P.underlying t = some (.slice e)) (hu2 : P.underlying t2 = some (.int k)) (hi : P.info? e = some i) (hsz : i.size = sz) (hz : i.zero = some z) (hzs : z.cells.size = sz)
 {v : anV} {l : List anV} (h : OL w S sz v n l) (hsz0 : 0 < sz) (hone : ∀ y ∈ z.cells.toList, one y = true) (hb : ∀ b, w.heap.size <= b -> S b)
 (hn : n + m <= 9223372036854775807) (hbytes : (n + m) * i.bytes <= 140737488355328) (hmb : m * i.bytes <= 140737488355328)
 {K : anV -> anU -> Prop} (hk : ∀ v' w', OL w' S sz v' (n + m) (l ++ (Builtin.zeroCells z.cells m).toList) -> aR w w' S -> K v' w') : aD P (gD .append #[t, t2] ty [v, .int k m]) w K := by
 generalize hnews : (Builtin.zeroCells z.cells m).toList = news at *
 have hnl : news.length = m * sz := by rw [<- hnews, alH, kP, hzs]
 have hone' : ∀ y ∈ news, one y = true := by
  intro y hy
  rw [<- hnews] at hy
  simp only [Builtin.zeroCells, Array.toList_map, akM] at hy
  obtain ⟨j, _, rfl⟩ := hy
  refine hone _ ?_
  have : j % z.cells.size < z.cells.size := amD _ (by omega)
  rw [getElem!_pos z.cells _ this]
  exact Array.getElem_mem_toList this
 have hmw : IntKind.i64.wrap ((m : Nat) : Int) = (m : Int) := aT (by omega) (by omega)
 have hm0 : ¬ ((m : Int) < 0) := by omega
 have hmx : ¬ ((m : Int) * (i.bytes : Nat) > 2 ^ 48) := by
  have : (m : Int) * (i.bytes : Nat) = ((m * i.bytes : Nat) : Int) := by simp
  rw [this]; omega
 have has : ∀ w, (asInt (.int k m)).run P w = .ok (m : Int) w := fun w => rfl
 have hz' : ∀ w, (zeroValue e).run P w = .ok z w := fun w => by simp [zeroValue, typeInfo, hi, hz]
 have hnw : ∀ w, (if m * sz = 0 then pure #[] else do pure (Builtin.zeroCells (<- zeroValue e).cells m) : Sem (Array anV)).run P w = .ok news.toArray w := fun w => by
  by_cases h0 : m * sz = 0
  .rw [if_pos h0, Sem.run_pure]
   have : news = [] := ajM.1 (by omega)
   rw [this]
  .rw [if_neg h0, Sem.run_bind, hz', Result.andThen_ok, Sem.run_pure, <- hnews, Array.toArray_toList]
 have hmax : IntKind.i64.max = 9223372036854775807 := by decide
 have hnot : ¬ (((n + m : Nat) : Int) > IntKind.i64.max) := by rw [hmax]; omega
 have hlen := h.1
 rcases h.2 with ⟨rfl, rfl⟩ | ⟨b, c, rest, rfl, h2, h3, h4, h5⟩
 .have hl0 : l = [] := ajM.1 (by omega)
  subst hl0
  by_cases hm : m = 0
  .subst hm
   have hn0 : news = [] := ajM.1 (by omega)
   subst hn0
   have : (gD .append #[t, t2] ty [.slice none 0 0, .int k (0 : Nat)]).run P w = .ok (.value (.slice none 0 0)) w := by
    unfold gD builtin
    simp only [Builtin.append_, akL, ahZ, aiA]
    simp only [underlying, typeInfo, Sem.run_bind, run_program, Result.andThen_ok, hu, hu2, hi, Sem.run_pure, dK hi, hsz, has, hmw, hm0, hmx, if_true, if_false, aiB, ajB, aiD, aiM, akN, hnw]
   unfold aD
   rw [this]
   exact hk _ _ ⟨by simp, .inl ⟨rfl, by omega⟩⟩ (aR.refl _ _)
  .have hfit := growslice_fits (need := 0 + m) (old := 0) (bytes := i.bytes) (by omega) (by omega)
   have hfit' : ¬ (Builtin.nextslicecap (0 + m) 0 * i.bytes > 2 ^ 48) := by omega
   have hle : ¬ (0 + m <= 0) := by omega
   have hq : (Question.appendCap (0 + m) 0 e).forced = false := rfl
   obtain ⟨r, hr⟩ : ∃ r, (Question.appendCap (0 + m) 0 e).cut (w.tape w.drawn (.appendCap (0 + m) 0 e)) = m + r :=
    ⟨(w.tape w.drawn (.appendCap (0 + m) 0 e)) % (2 ^ 63 - (0 + m)), by simp only [Question.cut]; omega⟩
   have : (gD .append #[t, t2] ty [.slice none 0 0, .int k m]).run P w = .ok (.value (.slice (some ⟨w.heap.size, 0, none⟩) (0 + m) (m + r))) ((dr w).alloc (.cells (news ++ (Builtin.zeroCells z.cells (m + r - (0 + m))).toList).toArray e)) := by
    unfold gD builtin
    simp only [Builtin.append_, akL, ahZ, aiA]
    simp only [underlying, typeInfo, Sem.run_bind, run_program, Result.andThen_ok, hu, hu2, hi, Sem.run_pure, dK hi, hsz, has, hmw, hm0, hmx, if_true, if_false, aiB, ajB, aiD, hle, hnot, false_and, hfit', run_choose, hq, hr, run_askRoom]
    change ((Sem.run P _ (dr w)).andThen _).andThen _ = _
    simp only [Sem.run_bind, hnw, run_firstCells_none, Result.andThen_ok, hz', Sem.run_pure, newRow, run_newObj]
    have e1 : (#[] ++ news.toArray ++ Builtin.zeroCells z.cells (m + r - (0 + m)) : Array anV) = (news ++ (Builtin.zeroCells z.cells (m + r - (0 + m))).toList).toArray := by
     apply Array.ext'; simp
    rw [e1]
    rfl
   unfold aD
   rw [this]
   refine hk _ _ ⟨by simp only [alE]; rw [hnl, aiC], .inr ⟨w.heap.size, m + r, (Builtin.zeroCells z.cells (m + r - (0 + m))).toList, by rw [aiC], hb _ (aiM _), cL.alloc (dr w) _ _, ?_, by omega⟩⟩ ((aR.dr w _).seq (aR.alloc _ _ _))
   simp only [alE, aiE, alH, kP, hzs, hnl]
   rw [show m + r - (0 + m) = r from by omega, ajR]
 .by_cases hc : n + m <= c
  .have hroom : news.length <= rest.length := by
    rw [aiE, hlen] at h4
    have : (n + m) * sz <= c * sz := ajG _ hc
    rw [ajR] at this; omega
   obtain ⟨w', s1, s2, s3, s4, _⟩ := zY (P := P) (M := S) h2 news w (n * sz) 0 (l ++ rest) h3 (by rw [aiE, hlen]; omega) hone'
   have : (gD .append #[t, t2] ty [.slice (some ⟨b, 0, none⟩) n c, .int k m]).run P w = .ok (.value (.slice (some ⟨b, 0, none⟩) (n + m) c)) w' := by
    unfold gD builtin
    simp only [Builtin.append_, akL, ahZ, aiA]
    simp only [underlying, typeInfo, Sem.run_bind, run_program, Result.andThen_ok, hu, hu2, hi, Sem.run_pure, dK hi, hsz, has, hmw, hm0, hmx, if_true, if_false, aiB, ajB, aiD, hc, hnw, Ep, aiC, s1]
   unfold aD
   rw [this]
   rw [akN, <- hlen, ME _ _ _ hroom] at s2
   refine hk _ _ ⟨by rw [aiE, hlen, hnl, ajR], .inr ⟨b, c, rest.drop news.length, rfl, h2, s2, ?_, hc⟩⟩ s3
   rw [<- h4]; simp; omega
  .have hfit := growslice_fits (need := n + m) (old := c) (bytes := i.bytes) (by omega) hbytes
   have hfit' : ¬ (Builtin.nextslicecap (n + m) c * i.bytes > 2 ^ 48) := by omega
   have hq : (Question.appendCap (n + m) c e).forced = false := rfl
   obtain ⟨r, hr⟩ : ∃ r, (Question.appendCap (n + m) c e).cut (w.tape w.drawn (.appendCap (n + m) c e)) = n + m + r :=
    ⟨(w.tape w.drawn (.appendCap (n + m) c e)) % (2 ^ 63 - (n + m)), by simp only [Question.cut]⟩
   have hold : Cl (dr w) sz (.slice (some ⟨b, 0, none⟩) n c) n l := ⟨_, _, rfl, hlen, fun _ => ⟨b, 0, rfl, fun i hi => by
    show w.cell? _ = _
    rw [h3.cell, aiC, aiX hi]⟩⟩
   have : (gD .append #[t, t2] ty [.slice (some ⟨b, 0, none⟩) n c, .int k m]).run P w = .ok (.value (.slice (some ⟨w.heap.size, 0, none⟩) (n + m) (n + m + r))) ((dr w).alloc (.cells (l ++ news ++ (Builtin.zeroCells z.cells (n + m + r - (n + m))).toList).toArray e)) := by
    have hfo := vA (P := P) hold
    unfold gD builtin
    simp only [Builtin.append_, akL, ahZ, aiA]
    simp only [underlying, typeInfo, Sem.run_bind, run_program, Result.andThen_ok, hu, hu2, hi, Sem.run_pure, dK hi, hsz, has, hmw, hm0, hmx, if_true, if_false, aiB, ajB, aiD, hc, hnot, false_and, hfit', run_choose, hq, hr, run_askRoom]
    change ((Sem.run P _ (dr w)).andThen _).andThen _ = _
    simp only [Sem.run_bind, hnw, hfo, Result.andThen_ok, hz', Sem.run_pure, newRow, run_newObj]
    have e1 : (l.toArray ++ news.toArray ++ Builtin.zeroCells z.cells (n + m + r - (n + m)) : Array anV) = (l ++ news ++ (Builtin.zeroCells z.cells (n + m + r - (n + m))).toList).toArray := by
     apply Array.ext'; simp
    rw [e1]
    rfl
   unfold aD
   rw [this]
   refine hk _ _ ⟨by rw [aiE, hlen, hnl, ajR], .inr ⟨w.heap.size, n + m + r, _, rfl, hb _ (aiM _), cL.alloc (dr w) _ _, ?_, by omega⟩⟩ ((aR.dr w _).seq (aR.alloc _ _ _))
   simp only [aiE, alH, kP, hzs, hnl, hlen]
   rw [show n + m + r - (n + m) = r from by omega, ajR, ajR]
end
end Go.En
namespace Go.Proofs.Ytgpimhlgaokobaa
open Go Go.En Go.Pu
set_option maxRecDepth 4000
theorem YL {left : Nat} (h0 : 0 < left) (h1 : left <= 32768) : ∃ m, bl (left + 1) = m + 1 /\ 1 <= m /\ m <= 16 /\ left + 1 < 2 ^ (m + 1) /\ 2 ^ m <= left + 1 /\ 2 ^ (m + 1) = 2 * 2 ^ m := by
 have hb2 := RH (k := left + 1) (by omega)
 have hb3 := QD (left + 1)
 have hb4 := uU (k := left + 1) (n := 17) (by omega)
 have hn : 2 <= bl (left + 1) := by
  rcases aiS (bl (left + 1)) 2 with h | h
  .have hb1 := KM (k := left + 1) (by omega)
   have : bl (left + 1) = 1 := by omega
   rw [this] at hb3; omega
  .exact h
 obtain ⟨m, hm⟩ : ∃ m, bl (left + 1) = m + 1 := ⟨bl (left + 1) - 1, by omega⟩
 rw [hm] at hb2 hb3 hb4 hn ⊢
 exact ⟨m, rfl, by omega, by omega, hb3, hb2, by rw [ajU, ajD]⟩
theorem Zw (L : List Bool) (f st : Nat) : UW L (f + 1) st = if L.length < st + 2 then none else if mA L st 2 < 3 then some (mA L st 2, st + 2) else match UW L f (st + 2) with
 | none => none
 | some (k, st') => some (3 + k, st') := by rw [UW] <;> rfl
def acZ (w : anU) (lo hi : Nat) (l : List UInt8) (o : Option (Nat × Nat)) (r : anV) : Prop := match o with
 | none => r = .tuple #[.int .i64 0, .int .i64 10]
 | some (v, st) => r = .tuple #[.int .i64 v, .int .i64 0] /\ Wa w lo hi l st
theorem abT {l : List UInt8} {lo hi st left : Nat} {w : anU} (h : Wa w lo hi l st) (hlh : lo <= hi) (hst : st <= 8 * l.length) (hl : l.length <= 1000000) (h0 : 0 < left) (h1 : left <= 32768) :
 aP pg yJ #[.pointer (some ⟨hi, 0, none⟩), .int .i64 left] w (fun r w' => acZ w' lo hi l (TV (aQ l) st left) r /\ aR w w' (fun y => y = hi)) := by
 refine NZ ?_
 obtain ⟨m, hm, hm1, hm2, hf1, hf2, hf3⟩ := YL h0 h1
 unfold Pj CD
 have e1 : (left : Int) + 1 = ((left + 1 : Nat) : Int) := by omega
 simp (disch := omega) only [aD, bQ, e1, aT, aA, dZ, iZ]
 refine (Vh (x := left + 1) (by omega) w).mono ?_
 rintro r w1 ⟨rfl, rfl⟩
 rw [hm]
 have e2 : ((m + 1 : Nat) : Int) - 1 = (m : Int) := by omega
 simp (disch := omega) only [fJ, e2, aT, kM, aiB, aA]
 refine (Lj (n := m) h hlh (by omega) hst hl).mono ?_
 have hbl := kI l
 unfold TV
 simp only [hm, akO]
 rintro r w2 (⟨hsh, rfl, hf, x2⟩ | ⟨hsh, rfl, hf, x2⟩)
 .have n1 : ((10 : Int) != 0) = true := rfl
  rw [if_pos (by omega)]
  simp (disch := omega) only [oH, oF, aA, cO, n1, aF]
  exact ⟨rfl, x2.mono fun _ _ h => h.elim⟩
 .have n1 : ((0 : Int) != 0) = false := rfl
  rw [if_neg (by omega)]
  have hlt := JF (aQ l) st m
  have hnum : tN (((aQ l).drop st).take m) = mA (aQ l) st m := rfl
  rw [hnum]
  have hsh1 := Yt (n := m + 1) (by omega)
  have hsh0 := Yt (n := m) (by omega)
  have hp : 2 ^ m <= 2 ^ 16 := aiK (by omega) hm2
  generalize mA (aQ l) st m = low at *
  rw [hf3] at *
  generalize hq : 2 ^ m = q at *
  have e3 : ((2 * q : Nat) : Int) - 2 - (left : Int) = ((2 * q - 2 - left : Nat) : Int) := by omega
  by_cases hfr : low < 2 * q - 2 - left
  .have d1 : decide ((low : Int) < ((2 * q - 2 - left : Nat) : Int)) = true := by simp only [decide_eq_true_eq]; omega
   rw [if_pos hfr]
   simp (disch := omega) only [oH, oF, hsh1, aT, e3, aA, cO, n1, aE, gT, bQ, fJ, aY, d1, aF]
   exact ⟨⟨rfl, hf⟩, x2⟩
  .have d1 : decide ((low : Int) < ((2 * q - 2 - left : Nat) : Int)) = false := by simp only [decide_eq_false_iff_not]; omega
   rw [if_neg hfr]
   simp (disch := omega) only [oH, oF, hsh1, aT, e3, aA, cO, n1, aE, gT, bQ, fJ, aY, d1]
   refine (Lj (n := 1) hf hlh (by omega) hsh hl).mono ?_
   rintro r w3 (⟨hs3, rfl, hf3, x3⟩ | ⟨hs3, rfl, hf3, x3⟩)
   .have n1 : ((10 : Int) != 0) = true := rfl
    rw [if_pos (by omega)]
    simp (disch := omega) only [oH, oF, aA, cO, n1, aF]
    exact ⟨rfl, x2.seq (x3.mono fun _ _ h => h.elim)⟩
   .rw [if_neg (by omega)]
    have hnum : tN (((aQ l).drop (st + m)).take 1) = mA (aQ l) (st + m) 1 := rfl
    rw [hnum]
    by_cases hz : mA (aQ l) (st + m) 1 = 0
    .have n2 : (((mA (aQ l) (st + m) 1 : Nat) : Int) == 0) = true := by rw [hz] <;> rfl
     rw [if_pos hz]
     simp (disch := omega) only [oH, oF, aA, cO, n1, aE, dV, n2, aF]
     exact ⟨⟨rfl, hf3⟩, x2.seq x3⟩
    .have n2 : (((mA (aQ l) (st + m) 1 : Nat) : Int) == 0) = false := beq_eq_false_iff_ne.2 (by omega)
     have e4 : (low : Int) + (q : Int) - ((2 * q - 2 - left : Nat) : Int) = ((low + q - (2 * q - 2 - left) : Nat) : Int) := by omega
     rw [if_neg hz]
     simp (disch := omega) only [oH, oF, hsh0, e4, aA, cO, n1, aE, dV, n2]
     exact ⟨⟨rfl, hf3⟩, x2.seq x3⟩
theorem X7 {l : List UInt8} {lo hi st : Nat} {w : anU} (h : Wa w lo hi l st) (hlh : lo <= hi) (hst : st <= 8 * l.length) (hl : l.length <= 1000000) :
 aP pg tP #[.pointer (some ⟨hi, 0, none⟩)] w (fun r w' => acZ w' lo hi l (UW (aQ l) ((aQ l).length + 1) st) r /\ aR w w' (fun y => y = hi)) := by
 refine Mo ?_
 have hbl := kI l
 unfold Jy wG Ah Az FI Ao yL Aj zG
 refine cK.rule (fun m (t : anV) w' => ∃ k0 st' : Nat, t = .int .i64 k0 /\ UW (aQ l) ((aQ l).length + 1) st = (match UW (aQ l) m st' with | none => none | some (k, s) => some (k0 + k, s)) /\ (aQ l).length < 2 * m + st' /\ st' <= 8 * l.length /\ k0 <= 3 * st' /\ Wa w' lo hi l st' /\ aR w w' (fun y => y = hi)) ((aQ l).length + 1)
  ⟨0, st, rfl, by cases UW (aQ l) ((aQ l).length + 1) st with
    | none => rfl
    | some x => simp, by omega, hst, by omega, h, aR.refl _ _⟩ ?_
 rintro m t w1 ⟨k0, st', rfl, hr, hm, hs', hk0, hf, x1⟩
 obtain ⟨m, rfl⟩ : ∃ m', m = m' + 1 := ⟨m - 1, by omega⟩
 unfold rJ
 refine (Lj (n := 2) hf hlh (by omega) hs' hl).mono ?_
 rw [Zw (aQ l) m st'] at hr
 rintro r w2 (⟨hsh, rfl, hf2, x2⟩ | ⟨hsh, rfl, hf2, x2⟩)
 .have n1 : ((10 : Int) != 0) = true := rfl
  rw [if_pos (by omega)] at hr
  rw [hr]
  simp (disch := omega) only [aD, oH, oF, aA, cO, n1, aF]
  exact ⟨rfl, x1.seq (x2.mono fun _ _ h => h.elim)⟩
 .have n1 : ((0 : Int) != 0) = false := rfl
  rw [if_neg (by omega)] at hr
  have hlt := JF (aQ l) st' 2
  have hnum : tN (((aQ l).drop st').take 2) = mA (aQ l) st' 2 := rfl
  rw [hnum]
  generalize mA (aQ l) st' 2 = x at *
  have e1 : (k0 : Int) + (x : Int) = ((k0 + x : Nat) : Int) := by omega
  by_cases h3 : x < 3
  .have d1 : decide ((x : Int) < 3) = true := by simp; omega
   rw [if_pos h3] at hr
   rw [hr]
   unfold rU
   simp (disch := omega) only [aD, oH, oF, aA, cO, n1, aE, gT, aT, aY, d1, aF, bQ, e1]
   exact ⟨⟨rfl, hf2⟩, x1.seq x2⟩
  .have d1 : decide ((x : Int) < 3) = false := by simp; omega
   rw [if_neg h3] at hr
   simp (disch := omega) only [aD, oH, oF, aA, cO, n1, aE, gT, aT, aY, d1, bQ, e1]
   refine ⟨m, by omega, k0 + x, st' + 2, rfl, ?_, by omega, by omega, by omega, hf2, x1.seq x2⟩
   rw [hr]
   cases UW (aQ l) m (st' + 2) with
   | none => rfl
   | some y =>
     obtain ⟨k, s⟩ := y
     have : x = 3 := by omega
     subst this
     simp; omega
theorem Zx (L : List Bool) (sym f st left : Nat) (ps : List Int) : S9 L sym (f + 1) st left ps = if left = 0 then .ok (ps, st) else match TV L st left with
 | none => .error 10
 | some (v, st1) =>
   if v = 1 then match UW L (L.length + 1) st1 with
     | none => .error 10
     | some (k, st2) => if sym < ps.length + 1 + k then .error 11 else S9 L sym f st2 left (ps ++ 0 :: List.replicate k 0)
   else if sym < ps.length + 1 then .error 11 else S9 L sym f st1 (left - (dR ((v : Int) - 1)).toNat) (ps ++ [(v : Int) - 1]) := by rw [S9] <;> rfl
theorem TY (k : Nat) : (Builtin.zeroCells (Value.int .i64 0).cells k).toList = List.replicate k (Value.int .i64 0) := by
 apply alW
 .rw [alH, kP, akW]; simp [Value.cells]
 .intro i h1 h2
  simp [Builtin.zeroCells, Value.cells, Nat.mod_one]
theorem aaQ {n m base : Nat} {ty : TypeId} {w : anU} {v : anV} {l : List anV} (h : oI w base 1 v n l) (hb : base <= w.heap.size) (hn : (n + m) * 8 <= 140737488355328) {K : anV -> anU -> Prop}
 (hk : ∀ v' w', oI w' base 1 v' (n + m) (l ++ List.replicate m (.int .i64 0)) -> aR w w' (fun y => base <= y) -> K v' w') : aD pg (gD .append #[71, 3] ty [v, .int .i64 m]) w K :=
 Vb (i := Try.t3) (S := fun y => base <= y) Try.underlying71 Try.underlying3 CC rfl rfl rfl h (by decide) (by intro y hy; simp [Value.cells] at hy; subst hy; rfl) (fun b hbb => akT hb hbb) (by omega) (by rw [show Try.t3.bytes = 8 from rfl]; omega) (by rw [show Try.t3.bytes = 8 from rfl]; omega)
  (fun v' w' o x => hk v' w' (by rw [<- TY]; exact o) x)
def VB (w : anU) (base : Nat) (o : Except Int (Nat × List Int × Nat)) (r : anV) : Prop := match o with
 | .error e => r = .tuple #[.agg #[.int .i64 0, .slice none 0 0], .int .i64 0, .int .i64 e]
 | .ok (log, ps, used) => ∃ v, r = .tuple #[.agg #[.int .i64 log, v], .int .i64 used, .int .i64 0] /\ oI w base 1 v ps.length (ps.map (Value.int .i64))
theorem HF {p6 : Nat} {w0 w : anU} {e : Int} (o6 : cL w p6 [.int .i64 0, .slice none 0 0]) (hx : aR w0 w dH) (hp : w0.heap.size <= p6) {RR : anV -> anU -> Prop}
 (hR : ∀ w', aR w0 w' dH -> RR (.tuple #[.agg #[.int .i64 0, .slice none 0 0], .int .i64 0, .int .i64 e]) w') :
 aD pg (bB 73 (.pointer (some ⟨p6, 0, none⟩)) (.agg #[.int .i64 0, .slice none 0 0])) w fun _u w => Mz pg 73 (.pointer (some ⟨p6, 0, none⟩)) w fun r0 => RR (.tuple #[r0, .int .i64 0, .int .i64 e]) w := by
 refine mI o6 rfl (by simp [one]) (by simp) fun w6 o6 x6 s6 => ?_
 refine Fc o6 (by simp [cG]) ?_
 simp only [cG, aiG, aiF, aiU, aiQ, aiW]
 exact hR _ (hx.new x6 hp)
theorem Yk {l : List UInt8} {log lo hi p6 pc sym : Nat} {w0 w : anU} {res : Except Int (List Int × Nat)} (hlh : lo <= hi) (hlp : w0.heap.size <= p6) (hl : l.length <= 1000000) (h6 : p6 < lo) (hhp : hi < pc) (hsym : sym <= 1000000) (hlog : log <= 15)
 (o6 : cL w p6 [.int .i64 0, .slice none 0 0]) (oc : cL w pc [.int .i64 log, .slice none 0 0]) (hf : Wa w lo hi l 4) (h4 : 4 <= 8 * l.length) (hx : aR w0 w dH)
 (hres : S9 (aQ l) sym ((aQ l).length + 1) 4 (2 ^ log) [] = res)
 {RR : anV -> anU -> Prop} (hE : ∀ e w', res = .error e -> aR w0 w' dH -> RR (.tuple #[.agg #[.int .i64 0, .slice none 0 0], .int .i64 0, .int .i64 e]) w')
 (hO : ∀ ps st v w', res = .ok (ps, st) -> oI w' w0.heap.size 1 v ps.length (ps.map (Value.int .i64)) -> aR w0 w' dH -> RR (.tuple #[.agg #[.int .i64 log, v], .int .i64 (((st + 7) / 8 : Nat)), .int .i64 0]) w') :
 vF RR (.int .i64 sym) (.pointer (some ⟨p6, 0, none⟩)) (.pointer (some ⟨hi, 0, none⟩)) (.pointer (some ⟨pc, 0, none⟩)) (.int .i64 (2 ^ log : Nat)) w := by
 have hbl := kI l
 have hp15 : 2 ^ log <= 2 ^ 15 := aiK (by omega) hlog
 unfold vF DC Eo
 have lpc := oc.lt
 refine cK.rule (fun m (t : anV) w' => ∃ (st left : Nat) (ps : List Int) (v : anV), t = .int .i64 left /\ S9 (aQ l) sym m st left ps = res /\ (aQ l).length < m + st /\ st <= 8 * l.length /\ left <= 32768 /\ ps.length <= 1000000 /\
  cL w' p6 [.int .i64 0, .slice none 0 0] /\ cL w' pc [.int .i64 log, v] /\ oI w' (pc + 1) 1 v ps.length (ps.map (Value.int .i64)) /\ Wa w' lo hi l st /\ aR w w' (fun y => y = hi ∨ pc <= y)) ((aQ l).length + 1)
  ⟨4, 2 ^ log, [], _, rfl, hres, by omega, h4, by omega, by simp, o6, oc, oI.nil _ _ _, hf, aR.refl _ _⟩ ?_
 rintro m t w1 ⟨st, left, ps, v, rfl, hr, hm, hst, hleft, hpl, o61, oc1, ov, hf1, x1⟩
 have z1 := x1.size
 have hx0 := hx.size
 have hx1 : ∀ {w' : anU}, aR w w' (fun y => y = hi ∨ pc <= y) -> aR w0 w' dH := fun h => hx.trans h fun b hb hh => by omega
 obtain ⟨m, rfl⟩ : ∃ m', m = m' + 1 := ⟨m - 1, by omega⟩
 rw [Zx] at hr
 obtain ⟨av, cv, hv⟩ := ov.len
 unfold zO DD
 by_cases h0 : left = 0
 .have d1 : decide ((0 : Int) < (left : Int)) = false := by simp; omega
  rw [if_pos h0] at hr
  subst hv
  have lc := iL (off := 0) (fT oc1) (by simp)
  have lc' := iL (off := 0) oc1 (by simp)
  simp only [aiU, aiQ, aiW] at lc lc'
  unfold zS
  simp (disch := omega) only [aD, dU, d1, eL, and_true, true_and, aA, lc, aE]
  refine (YA (hf1.ext (aR.dr w1 dH) (fun _ _ _ h => h) hlh) (by omega)).mono ?_
  rintro r w2 ⟨rfl, rfl⟩
  simp (disch := omega) only [lc, true_and]
  refine mI (fT o61) rfl (by simp [one]) (by simp) fun w6 o6 x6 s6 => ?_
  refine Fc o6 (by simp [cG]) ?_
  simp only [cG, aiG, aiF, aiU, aiQ, aiW]
  have x16 : aR w1 w6 (fun y => y = p6) := (aR.dr w1 _).seq x6
  have ov6 := ov.ext x16 (fun b hb h => by omega)
  refine hO ps st _ w6 hr.symm ⟨ov6.1, ?_⟩ ((hx1 x1).new x16 (by omega))
  rcases ov6.2 with h | ⟨b, c, rest, q1, q2, q3⟩
  .exact .inl h
  .exact .inr ⟨b, c, rest, q1, by omega, q3⟩
 .have d1 : decide ((0 : Int) < (left : Int)) = true := by simp; omega
  rw [if_neg h0] at hr
  simp (disch := omega) only [aD, dU, d1, aA, aF]
  unfold DA Kl Ed
  refine (abT hf1 hlh hst hl (by omega) hleft).mono ?_
  rintro r w2 ⟨hv2, x2⟩
  have x12 : aR w w2 (fun y => y = hi ∨ pc <= y) := x1.seq (x2.mono fun y _ h => .inl h)
  have o62 := o61.ext x2 (by omega)
  have oc2 := oc1.ext x2 (by omega)
  have ov2 := ov.ext x2 (fun b hb h => by omega)
  have z2 := x2.size
  cases hval : TV (aQ l) st left with
  | none =>
    rw [hval] at hr hv2
    obtain rfl := hv2
    have n1 : ((10 : Int) != 0) = true := rfl
    simp (disch := omega) only [aD, oH, oF, lX, aA, bM, aiC, kO, cO, n1, aF]
    exact HF (RR := RR) (e := 10) o62 (hx1 x12) hlp fun w' h => hE _ _ hr.symm h
  | some y =>
    obtain ⟨x, st1⟩ := y
    rw [hval] at hr hv2
    simp only at hr
    obtain ⟨rfl, hf2⟩ := hv2
    obtain ⟨b1, b2, b3⟩ := UF hval (by omega)
    have n1 : ((0 : Int) != 0) = false := rfl
    simp (disch := omega) only [aD, oH, oF, lX, aA, bM, aiC, kO, cO, n1, aE, fJ, aT, dV]
    refine (Uc _ _).mono ?_
    rintro r w3 ⟨rfl, rfl⟩
    have c1 := oc2.cell (off := 1)
    simp only [ahZ, aiA] at c1
    have hpp : dR ((x : Int) - 1) <= left := by unfold dR; split <;> omega
    have hpn := mP (p := (x : Int) - 1) (by omega)
    obtain ⟨pq, hpq⟩ : ∃ pq : Nat, dR ((x : Int) - 1) = pq := ⟨(dR ((x : Int) - 1)).toNat, by omega⟩
    rw [hpq] at hr hpp ⊢
    rw [aiB] at hr
    have e1 : (left : Int) - (pq : Int) = ((left - pq : Nat) : Int) := by omega
    simp (disch := omega) only [fJ, e1, aT, aA, c1, aH]
    refine Ym (cells := #[.int .i64 ((x : Int) - 1)]) (by decide) (by decide) (by kernel_rfl) fun w4 o4 x4 s4 => ?_
    have z4 := x4.size
    refine Qu (m := 1) (news := [.int .i64 ((x : Int) - 1)]) (ov2.ext x4 (fun _ _ h => h)) (o4.cl (off := 0) (l := [.int .i64 ((x : Int) - 1)]) (n := 1) rfl (fun i hi => by rw [aiC])) (by simp [one]) (by omega) (by omega) fun v5 w5 o5 x5 => ?_
    have z5 := x5.size
    obtain ⟨av5, cv5, rfl⟩ := o5.len
    have oc5 := (oc2.ext x4 (fun h => h)).ext x5 (by omega)
    refine Tc oc5 rfl (by simp) fun w6 oc6 x6 s6 => ?_
    simp only [aiG, aiF] at oc6
    have z6 := x6.size
    have ov6 := o5.ext x6 (fun b hb h => by omega)
    have x26 : aR w3 w6 (fun y => pc <= y) := ((x4.mono fun _ _ h => h.elim).seq (x5.mono fun y _ h => by omega)).seq (x6.mono fun y _ h => by omega)
    have x16 : aR w w6 (fun y => y = hi ∨ pc <= y) := x12.seq (x26.mono fun y _ h => .inr h)
    have o66 := o62.ext x26 (by omega)
    have hf6 := hf2.ext x26 (fun b _ _ => by omega) hlh
    have hsz : pc < w6.heap.size := oc6.lt
    rw [show (ps.map (Value.int .i64) ++ [Value.int .i64 ((x : Int) - 1)]) = (ps ++ [(x : Int) - 1]).map (Value.int .i64) from by simp] at ov6
    have hwl : IntKind.i64.wrap (left : Int) = left := aT (by omega) (by omega)
    have tail : ∀ (ps' : List Int) (st' left' : Nat) (a : Option Addr) (cc : Nat) (w' : anU), (if sym < ps'.length then .error 11 else S9 (aQ l) sym m st' left' ps') = res -> ps'.length <= 10000000 -> left' <= 32768 -> st < st' -> st' <= 8 * l.length →
        cL w' p6 [.int .i64 0, .slice none 0 0] -> cL w' pc [.int .i64 log, .slice a ps'.length cc] -> oI w' (pc + 1) 1 (.slice a ps'.length cc) ps'.length (ps'.map (Value.int .i64)) -> Wa w' lo hi l st' -> aR w w' (fun y => y = hi ∨ pc <= y) →
        sI (fun _ _ _ _ dF w'' => ∃ m', m' < m + 1 /\ ∃ (st left : Nat) (ps : List Int) (v : anV), dF = .int .i64 left /\ S9 (aQ l) sym m' st left ps = res /\ (aQ l).length < m' + st /\ st <= 8 * l.length /\ left <= 32768 /\ ps.length <= 1000000 /\
         cL w'' p6 [.int .i64 0, .slice none 0 0] /\ cL w'' pc [.int .i64 log, v] /\ oI w'' (pc + 1) 1 v ps.length (ps.map (Value.int .i64)) /\ Wa w'' lo hi l st /\ aR w w'' (fun y => y = hi ∨ pc <= y)) RR
         (.int .i64 sym) (.pointer (some ⟨p6, 0, none⟩)) (.pointer (some ⟨hi, 0, none⟩)) (.pointer (some ⟨pc, 0, none⟩)) (.int .i64 left') w' := by
     intro ps' st' left' a cc w' q1 q2 q3 q4 q5 q6 q7 q8 q9 q10
     have c1 := q7.cell (off := 1)
     simp only [ahZ, aiA] at c1
     unfold sI
     by_cases hgt : sym < ps'.length
     .have d1 : decide ((sym : Int) < (ps'.length : Int)) = true := by simp; omega
      rw [if_pos hgt] at q1
      simp (disch := omega) only [aD, bM, aiC, lX, aA, kO, c1, aH, nR, dU, d1, jV, bO, if_true, aF, eF]
      exact HF (RR := RR) (e := 11) q6 (hx1 q10) hlp fun w' h => hE _ _ q1.symm h
     .have d1 : decide ((sym : Int) < (ps'.length : Int)) = false := by simp; omega
      have d2 : decide ((left' : Int) < 0) = false := by simp
      rw [if_neg hgt] at q1
      simp (disch := omega) only [aD, bM, aiC, lX, aA, kO, c1, aH, nR, dU, d1, dS, bO, aiD, if_false, bW, aY, d2, aE]
      exact ⟨m, by omega, st', left', ps', _, rfl, q1, by omega, q5, q3, by omega, q6, q7, q8, q9, q10⟩
    by_cases h1 : x = 1
    .subst h1
     have n2 : (((1 : Nat) : Int) - 1 == 0) = true := rfl
     obtain rfl : pq = 0 := by
      have : dR (((1 : Nat) : Int) - 1) = 0 := rfl
      omega
     rw [if_pos rfl] at hr
     simp (disch := omega) only [n2, aF]
     refine (X7 hf6 hlh (by omega) hl).mono ?_
     rintro r w7 ⟨hv7, x7⟩
     have x17 : aR w w7 (fun y => y = hi ∨ pc <= y) := x16.seq (x7.mono fun y _ h => .inl h)
     have o67 := o66.ext x7 (by omega)
     have oc7 := oc6.ext x7 (by omega)
     have ov7 := ov6.ext x7 (fun b hb h => by omega)
     have z7 := x7.size
     cases hno : UW (aQ l) ((aQ l).length + 1) st1 with
     | none =>
       rw [hno] at hr hv7
       obtain rfl := hv7
       have n1 : ((10 : Int) != 0) = true := rfl
       simp (disch := omega) only [oH, oF, aA, cO, n1, aF]
       exact HF (RR := RR) (e := 10) o67 (hx1 x17) hlp fun w' h => hE _ _ hr.symm h
     | some y =>
       obtain ⟨k, st2⟩ := y
       rw [hno] at hr hv7
       simp only at hr
       obtain ⟨rfl, hf7⟩ := hv7
       obtain ⟨k1, k2, k3⟩ := W8 hno
       have n1 : ((0 : Int) != 0) = false := rfl
       by_cases hgt : sym < k
       .have d1 : decide ((sym : Int) < (k : Int)) = true := by simp; omega
        rw [if_pos (by omega)] at hr
        simp (disch := omega) only [oH, oF, aA, cO, n1, aE, dU, d1, aF]
        exact HF (RR := RR) (e := 11) o67 (hx1 x17) hlp fun w' h => hE _ _ hr.symm h
       .have d1 : decide ((sym : Int) < (k : Int)) = false := by simp; omega
        have c7 := oc7.cell (off := 1)
        simp only [ahZ, aiA] at c7
        simp (disch := omega) only [oH, oF, aA, cO, n1, aE, dU, d1, c7, aH]
        refine aaQ (m := k) ov7 (by omega) (by omega) fun v8 w8 o8 x8 => ?_
        obtain ⟨av8, cv8, rfl⟩ := o8.len
        have z8 := x8.size
        refine Tc (oc7.ext x8 (by omega)) rfl (by simp) fun w9 oc9 x9 s9 => ?_
        simp only [aiG, aiF] at oc9
        have z9 := x9.size
        have x79 : aR w7 w9 (fun y => pc <= y) := (x8.mono fun y _ h => by omega).seq (x9.mono fun y _ h => by omega)
        have ov9 := o8.ext x9 (fun b hb h => by omega)
        have hlk : ps.length + 1 + k = (ps ++ 0 :: List.replicate k 0).length := by simp; omega
        have hmk : List.map (Value.int .i64) (ps ++ [((1 : Nat) : Int) - 1]) ++ List.replicate k (Value.int .i64 0) = (ps ++ 0 :: List.replicate k 0).map (Value.int .i64) := by simp
        rw [hmk, hlk] at ov9
        rw [hlk] at hr oc9
        refine tail _ st2 left _ _ w9 hr (by rw [<- hlk]; omega) hleft (by omega) (by omega) (o67.ext x79 (by omega)) oc9 ov9 (hf7.ext x79 (fun b _ _ => by omega) hlh) (x17.seq (x79.mono fun y _ h => .inr h))
    .have n2 : ((x : Int) - 1 == 0) = false := beq_eq_false_iff_ne.2 (by omega)
     rw [if_neg h1] at hr
     simp (disch := omega) only [n2, aE]
     rw [show ps.length + 1 = (ps ++ [(x : Int) - 1]).length from by simp] at hr ov6 oc6
     exact tail _ st1 _ _ _ w6 hr (by simp; omega) (by omega) b1 (by omega) o66 oc6 ov6 hf6 x16
theorem WA {bv : anV} {l : List UInt8} {most : Int} {sym : Nat} {w : anU} (hb : Bs w bv l) (hl : l.length <= 1000000) (hsym : sym <= 1000000) :
 aP pg BT #[bv, .int .i64 most, .int .i64 sym] w (fun r w' => VB w' w.heap.size (Ff (aQ l) most sym) r /\ aR w w' dH) := by
 refine PM ?_
 obtain ⟨RR, hRR⟩ : ∃ RR : anV -> anU -> Prop, RR = fun r w' => VB w' w.heap.size (Ff (aQ l) most sym) r /\ aR w w' dH := ⟨_, rfl⟩
 rw [<- hRR]
 have hbl := kI l
 unfold QQ CH Cs
 refine tZ fun w1 o1 x1 s1 => ?_
 refine (T4 (hb.ext x1 (aW _)) (by omega)).mono ?_
 rintro r w2 ⟨hi, rfl, hi1, hi2, hf2, x2⟩
 have z1 := x1.size
 have z2 := x2.size
 simp (disch := omega) only [aD, lX, aA]
 refine (Lj (n := 4) hf2 hi1 (by omega) (by omega) hl).mono ?_
 rintro r w3 (⟨hsh, rfl, hf3, x3⟩ | ⟨hsh, rfl, hf3, x3⟩)
 .have n1 : ((10 : Int) != 0) = true := rfl
  have hrl : Ff (aQ l) most sym = .error 10 := by unfold Ff; rw [if_pos (by omega)]
  rw [hrl] at hRR
  simp (disch := omega) only [oH, oF, aA, cO, n1, aF]
  exact HF (RR := RR) (e := 10) ((o1.ext x2 (fun h => h)).ext x3 (fun h => h)) ((x1.seq x2).seq x3) (aiM _) fun w' h => by rw [hRR]; exact ⟨rfl, h⟩
 .have n1 : ((0 : Int) != 0) = false := rfl
  have hnum : tN (((aQ l).drop 0).take 4) = mA (aQ l) 0 4 := rfl
  have hlt := JF (aQ l) 0 4
  have hrl : Ff (aQ l) most sym = (if most < ((mA (aQ l) 0 4 + 5 : Nat) : Int) ∨ 15 < mA (aQ l) 0 4 + 5 then .error 12 else match S9 (aQ l) sym ((aQ l).length + 1) 4 (2 ^ (mA (aQ l) 0 4 + 5)) [] with
   | .error e => .error e
   | .ok (ps, st) => .ok (mA (aQ l) 0 4 + 5, ps, (st + 7) / 8)) := by unfold Ff; rw [if_neg (by omega)] <;> rfl
  rw [hrl] at hRR
  rw [hnum]
  generalize mA (aQ l) 0 4 = x at *
  have e1 : (x : Int) + 5 = ((x + 5 : Nat) : Int) := by omega
  have x03 : aR w w3 dH := (x1.seq x2).trans x3 fun b hb h => by omega
  have o13 := (o1.ext x2 (fun h => h)).ext x3 (by omega)
  simp (disch := omega) only [oH, oF, aA, cO, n1, aE, gT, aT, bQ, e1, MW]
  refine tZ fun w4 o4 x4 s4 => ?_
  refine mI o4 rfl (by simp [one]) (by simp) fun w5 o5 x5 s5 => ?_
  simp only [cG, aiG, aiF] at o5
  have z3 := x3.size
  have z4 := x4.size
  have x05 : aR w w5 dH := (x03.seq x4).new x5 (by omega)
  have x35 : aR w3 w5 dH := x4.new x5 (by omega)
  have o15 := o13.ext x35 (fun h => h)
  have c5 := o5.cell (off := 0)
  simp only [ahZ, aiA] at c5
  by_cases hmo : most < ((x + 5 : Nat) : Int)
  .have d1 : decide (most < ((x + 5 : Nat) : Int)) = true := by simpa using hmo
   rw [if_pos (.inl hmo)] at hRR
   simp (disch := omega) only [cB, aA, bH, c5, aH, dU, d1, jV, bO, if_true, aF, eF]
   exact HF (RR := RR) (e := 12) o15 x05 (aiM _) fun w' h => by rw [hRR]; exact ⟨rfl, h⟩
  have d1 : decide (most < ((x + 5 : Nat) : Int)) = false := by simpa using hmo
  by_cases h15 : 15 < x + 5
  .have d2 : decide ((15 : Int) < ((x + 5 : Nat) : Int)) = true := by simp; omega
   rw [if_pos (.inr h15)] at hRR
   simp (disch := omega) only [cB, aA, bH, c5, aH, dU, d1, dS, bO, aiD, if_false, bW, d2, kM, aiB, aF]
   exact HF (RR := RR) (e := 12) o15 x05 (aiM _) fun w' h => by rw [hRR]; exact ⟨rfl, h⟩
  have d2 : decide ((15 : Int) < ((x + 5 : Nat) : Int)) = false := by simp; omega
  rw [if_neg (by omega)] at hRR
  have hsh := Yt (n := x + 5) (by omega)
  simp (disch := omega) only [cB, aA, bH, c5, aH, dU, d1, dS, bO, aiD, if_false, bW, d2, kM, aiB, hsh, aE]
  have hl5 := o5.lt
  refine Yk (l := l) (w0 := w) (log := x + 5) (res := S9 (aQ l) sym ((aQ l).length + 1) 4 (2 ^ (x + 5)) []) (lo := w1.heap.size) hi1 (aiM _) hl (by omega) (by omega) hsym (by omega) o15 o5 (hf3.ext x35 (fun _ _ _ h => h) hi1) (by omega) x05 rfl ?_ ?_
  .intro e w' he hx
   rw [hRR, he]
   exact ⟨rfl, hx⟩
  .intro ps st v w' he ho hx
   rw [hRR, he]
   exact ⟨⟨v, rfl, ho⟩, hx⟩
structure RdS (w : anU) (p6 pf pc log st : Nat) (bv : anV) (L : List Bool) (ps : List Int) (v : anV) : Prop where
 o6 : cL w p6 [.int .i64 0, .slice none 0 0]
 of : cL w pf [bv, .int .i64 st]
 oc : cL w pc [.int .i64 log, v]
 os : oI w (pc + 1) 1 v ps.length (ps.map (Value.int .i64))
 bl : Bl w bv L
 at' : UH bv 0 pf
 h6 : p6 < pf
 hf : pf < pc
theorem RdS.ext {w w' : anU} {p6 pf pc log st : Nat} {bv : anV} {L : List Bool} {ps : List Int} {v : anV} (h : RdS w p6 pf pc log st bv L ps v) (hx : aR w w' dH) : RdS w' p6 pf pc log st bv L ps v :=
 ⟨h.o6.ext hx (fun h => h), h.of.ext hx (fun h => h), h.oc.ext hx (fun h => h), h.os.ext hx (fun _ _ h => h), h.bl.ext hx (aW _), h.at', h.h6, h.hf⟩
end Go.Proofs.Ytgpimhlgaokobaa
namespace Go.Pu
open Go Go.En
theorem Va {L : List Bool} {most : Int} {sym log used : Nat} {ps : List Int} (h : Ff L most sym = .ok (log, ps, used)) : (ps.length <= 256 -> Vd log ps) /\ (log : Int) <= most /\ ps.length <= sym := by
 unfold Ff at h
 split at h
 .cases h
 .simp only at h
  split at h
  .cases h
  .rename_i h1 h2
   have hpow : ((2 ^ (mA L 0 4 + 5) : Nat) : Int) = (2 : Int) ^ (mA L 0 4 + 5) := by simp
   have hp := aiY (mA L 0 4 + 5)
   cases hr : S9 L sym (L.length + 1) 4 (2 ^ (mA L 0 4 + 5)) [] with
   | error e => rw [hr] at h; cases h
   | ok x =>
     obtain ⟨p, st⟩ := x
     rw [hr] at h
     cases h
     have e0 : Hv [] = 0 := rfl
     obtain ⟨q1, q2, q3, q4, q5⟩ := Qr (tot := (2 : Int) ^ (mA L 0 4 + 5)) hr (by simp) (by rw [e0, hpow]; omega) (fun h => by omega)
     exact ⟨fun hs => ⟨by omega, by omega, q5, hs, q4, q1, q2⟩, by omega, q3⟩
theorem Uk {L : List Bool} {sym : Nat} {e : Int} : ∀ {f st left : Nat} {ps : List Int}, S9 L sym f st left ps = .error e -> e = 10 ∨ e = 11
 | 0, st, left, ps, h => by cases h; exact .inl rfl
 | f + 1, st, left, ps, h => by
   rw [S9] at h
   split at h
   .cases h
   .split at h
    .cases h; exact .inl rfl
    .split at h
     .split at h
      .cases h; exact .inl rfl
      .split at h
       .cases h; exact .inr rfl
       .exact Uk h
     .split at h
      .cases h; exact .inr rfl
      .exact Uk h
theorem TS {L : List Bool} {most : Int} {sym : Nat} {e : Int} (h : Ff L most sym = .error e) : e ≠ 0 := by
 unfold Ff at h
 split at h
 .cases h; decide
 .simp only at h
  split at h
  .cases h; decide
  .split at h
   .rename_i hr
    cases h
    rcases Uk hr with h | h <;> omega
   .cases h
theorem Sh {L : List Bool} {sym : Nat} {out : List Int} {stE : Nat} : ∀ {f st left : Nat} {ps : List Int}, S9 L sym f st left ps = .ok (out, stE) -> st <= L.length -> stE <= L.length
 | 0, st, left, ps, h, _ => by cases h
 | f + 1, st, left, ps, h, hst => by
   rw [S9] at h
   split at h
   .cases h; exact hst
   .rename_i h0
    cases hv : TV L st left with
    | none => rw [hv] at h; cases h
    | some x =>
      obtain ⟨v, st1⟩ := x
      obtain ⟨v1, v2, v3⟩ := UF hv (by omega)
      rw [hv] at h
      simp only at h
      split at h
      .cases hn : UW L (L.length + 1) st1 with
       | none => rw [hn] at h; cases h
       | some y =>
         obtain ⟨k, st2⟩ := y
         rw [hn] at h
         simp only at h
         split at h
         .cases h
         .exact Sh h (W8 hn).2.1
      .split at h
       .cases h
       .exact Sh h v2
theorem WK {L : List Bool} {most : Int} {sym log used : Nat} {ps : List Int} (h : Ff L most sym = .ok (log, ps, used)) : 8 * used <= L.length + 7 := by
 unfold Ff at h
 split at h
 .cases h
 .simp only at h
  split at h
  .cases h
  .cases hr : S9 L sym (L.length + 1) 4 (2 ^ (mA L 0 4 + 5)) [] with
   | error e => rw [hr] at h; cases h
   | ok x =>
     obtain ⟨p, st⟩ := x
     rw [hr] at h
     cases h
     have := Sh hr (by omega)
     omega
def QH (b : List Nat) (i : Nat) : Nat := if i % 2 = 0 then b.getD (i / 2) 0 / 16 else b.getD (i / 2) 0 % 16
def gF (b : List Nat) (n : Nat) : List Nat := (List.range n).map (QH b)
theorem yV (b : List Nat) (n : Nat) : (gF b n).length = n := by simp [gF]
theorem TZ (b : List Nat) (n : Nat) : gF b (n + 1) = gF b n ++ [QH b n] := by
 unfold gF; rw [amX, aiZ] <;> rfl
theorem Vr {b : List Nat} (h : ∀ x ∈ b, x < 256) (i : Nat) : QH b i < 16 := by
 unfold QH
 have : b.getD (i / 2) 0 < 256 := by
  rcases aiS (i / 2) b.length with hi | hi
  .exact h _ (vE hi)
  .rw [aiJ, aiO hi]; decide
 split <;> omega
theorem Wd {b : List Nat} (h : ∀ x ∈ b, x < 256) (n : Nat) : ∀ x ∈ gF b n, x < 16 := fun x hx => by
 obtain ⟨i, _, rfl⟩ := akM.1 hx
 exact Vr h i
def uG (m : List Nat) : List Nat := (List.range ((m.length + 1) / 2)).map fun j => m.getD (2 * j) 0 * 16 + m.getD (2 * j + 1) 0
theorem tQ (m : List Nat) : (uG m).length = (m.length + 1) / 2 := by simp [uG]
theorem PF {m : List Nat} {j : Nat} (h : j < (m.length + 1) / 2) : (uG m).getD j 0 = m.getD (2 * j) 0 * 16 + m.getD (2 * j + 1) 0 := by
 rw [aiJ]
 unfold uG
 rw [ajA, akD h] <;> rfl
theorem Ox {m : List Nat} (h : ∀ x ∈ m, x < 16) (i : Nat) : m.getD i 0 < 16 := by
 rcases aiS i m.length with hi | hi
 .exact h _ (vE hi)
 .rw [aiJ, aiO hi]; decide
theorem V4 {m : List Nat} (h : ∀ x ∈ m, x < 16) : gF (uG m) m.length = m := by
 apply akQ
 intro i
 rcases aiS i m.length with hi | hi
 .unfold gF
  rw [ajA, akD hi]
  have hp := PF (m := m) (j := i / 2) (by omega)
  have e : m[i]? = some (m.getD i 0) := by rw [aiJ, aiH hi] <;> rfl
  rw [e]
  simp only [ajS, Option.some.injEq]
  unfold QH
  rw [hp]
  have h1 := Ox h (2 * (i / 2))
  have h2 := Ox h (2 * (i / 2) + 1)
  split
  .rw [show 2 * (i / 2) = i from by omega] at *; omega
  .rw [show 2 * (i / 2) + 1 = i from by omega] at *; omega
 .rw [aiO (by rw [yV]; exact hi), aiO hi]
theorem RU {m : List Nat} {k d : Nat} (h : dD (m ++ [k]) = d) (hd : d ≠ 0) : pD m = some k := by
 obtain ⟨h1, h2, h3, h4, h5, h6⟩ := pY h hd
 rw [amR] at h5
 have hk0 : k ≠ 0 := fun e => h5 (by rw [e])
 have hkd : k <= d := h1 k (by simp)
 rw [BK, gP] at h6
 have e0 : bN [] = 0 := rfl
 have ek : ES k = 2 ^ (k - 1) := by unfold ES; rw [if_neg hk0]
 rw [e0, ek] at h6
 have hp : 2 ^ (k - 1) <= 2 ^ (d - 1) := aiK (by omega) (by omega)
 obtain ⟨e, rfl⟩ : ∃ e, d = e + 1 := ⟨d - 1, by omega⟩
 rw [akO] at hp
 have hpe : 2 ^ (e + 1) = 2 ^ e + 2 ^ e := by rw [ajU]; omega
 have hpk := aiY (k - 1)
 have hpe0 := aiY e
 have hbl : bl (bN m) = e + 1 := acT (by omega) (by omega)
 have hleft : 2 ^ (e + 1) - bN m = 2 ^ (k - 1) := by omega
 unfold pD
 rw [hbl, hleft, anK, if_pos]
 .congr 1; omega
 .simp at h3 h4
  exact ⟨nP.2 fun w hw => akT (h1 w (akS _ hw)) h2, by omega, by omega, by omega, h2, rfl⟩
end Go.Pu
