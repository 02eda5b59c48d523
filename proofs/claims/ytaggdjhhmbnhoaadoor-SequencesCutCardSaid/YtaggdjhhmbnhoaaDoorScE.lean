/- Parts of the proof of SequencesCut: merged and given short names by a program of ours. -/
import Derived.Test.YtaggdjhhmbnhoaaDoorScD
set_option linter.unusedVariables false
set_option linter.unusedSimpArgs false
open Bool renaming false_eq_true → aHP, not_false → aI7, not_true → aIt
open Int renaming toNat_natCast → aHH, tdiv_eq_ediv_of_nonneg → aId, fdiv_eq_ediv_of_nonneg → aJn
open List renaming getElem_mem → aH1, getElem?_eq_none → aH3, length_cons → aH5, getElem?_map → aH9, take_succ_cons → aHG, getElem?_cons_zero → aHJ, getElem?_cons_succ → aHK, set_cons_zero → aHL, drop_zero → aHM, set_cons_succ → aHN, take_zero → aHO, getElem?_eq_getElem → aHQ, length_append → aHR, length_map → aHU, append_assoc → aHV, getElem?_append_left → aHW, getD_eq_getElem?_getD → aHX, length_take → aHZ, mem_append → aI2, length_singleton → aI3, length_replicate → aI4, replicate_succ → aIH, length_pos_iff → aII, mem_cons_self → aIL, cons_append → aIP, drop_of_length_le → aIQ, getElem?_drop → aIV, mem_singleton → aIW, mem_of_getElem? → aIX, length_drop → aIb, take_of_length_le → aIe, getElem_of_mem → aIf, drop_eq_getElem_cons → aIh, length_eq_zero_iff → aIk, getElem?_take_of_lt → aIl, getElem_map → aIm, getElem?_append_right → aIn, map_append → aIo, take_add_one → aIr, drop_succ_cons → aIs, nil_append → aIv, mem_map → aIx, append_nil → aIy, mem_of_mem_drop → aJ0, count_le_length → aJ1, countP_le_length → aJD, range_succ → aJH, exists_mem_of_ne_nil → aJJ, sum_append → aJK, map_replicate → aJO, drop_left → aJQ, ext_getElem? → aJR, takeWhile_sublist → aJV, take_append_drop → aJb, take_length → aJi, getElem_cons_zero → aJj, map_set → aJl, set_append_right → aJm, getLast?_eq_getElem? → aJq, eq_of_mem_replicate → aJs, getElem?_replicate → aJt, map_take → aJu
open Nat renaming lt_or_ge → aH6, pow_succ → aH8, zero_add → aHI, le_refl → aHS, pow_le_pow_right → aHT, min_eq_left → aIA, add_zero → aIB, add_sub_cancel → aID, le_trans → aIM, eq_zero_or_pos → aIN, zero_le → aIT, mod_eq_of_lt → aIg, two_pow_pos → aIj, mul_le_mul_right → aIp, sub_zero → aJN, sub_self → aJk
open Option renaming isNone_some → aH7, map_some → aIu
open Option.some renaming inj → aH2
open Prod.mk renaming inj → aJU
open UInt8 renaming toNat_lt → aIc
namespace Go.Proofs.YtaggdjhhmbnhoaaDoor
open Go Go.En Go.Pu
set_option maxRecDepth 4000
theorem axQ {w0 w : aJ2} {p6 pf pc log st sym left x : Nat} {bv : aJ3} {L : List Bool} {ps : List Int} {v : aJ3} (h : RdS w p6 pf pc log st bv L ps v) (hl : ps.length <= 1000001) (hL : L.length <= 8000000) (hst : st <= L.length) (hx : aS w0 w cM) (hp : w0.heap.size <= p6) (hsym : sym <= 1000000)
 {kn : aJ3 -> aJ3 -> aJ3 -> aJ3 -> aJ3 -> aJ2 -> Prop} {RR : aJ3 -> aJ2 -> Prop}
 (hE : ∀ w', OC L x st = none -> aS w0 w' cM -> RR (.tuple #[.agg #[.int .i64 0, .slice none 0 0], .int .i64 0, .int .i64 10]) w')
 (hB : ∀ k st2 w', OC L x st = some (k, st2) -> sym < ps.length + k -> aS w0 w' cM -> RR (.tuple #[.agg #[.int .i64 0, .slice none 0 0], .int .i64 0, .int .i64 11]) w')
 (hK : ∀ k st2 w' v', OC L x st = some (k, st2) -> ¬ sym < ps.length + k -> RdS w' p6 pf pc log st2 bv L (ps ++ List.replicate k 0) v' -> aS w0 w' cM -> kn (.int .i64 sym) (.pointer (some ⟨p6, 0, none⟩)) (.pointer (some ⟨pf, 0, none⟩)) (.pointer (some ⟨pc, 0, none⟩)) (.int .i64 left) w') :
 yE kn RR (.int .i64 sym) (.pointer (some ⟨p6, 0, none⟩)) (.pointer (some ⟨pf, 0, none⟩)) (.pointer (some ⟨pc, 0, none⟩)) (.int .i64 left) (.int .i64 x) w := by
 have h6 := h.h6
 have hf := h.hf
 unfold yE JQ
 simp (disch := omega) only [aC, cR, aA]
 unfold Kg Lv JP
 refine cG.rule (fun m (t : aJ3) w' => ∃ (k0 st' : Nat) (bt : Bool) (v' : aJ3), t = .bool bt /\ RdS w' p6 pf pc log st' bv L (ps ++ List.replicate k0 0) v' /\ aS w0 w' cM /\ st' <= L.length /\ k0 <= 3 * st' /\
  (bt = true -> OC L x st = (match noR L m st' with | none => none | some (k, s) => some (k0 + k, s)) /\ L.length < 2 * m + st') /\ (bt = false -> OC L x st = some (k0, st'))) (L.length + 1)
  ⟨0, st, _, v, rfl, by simpa using h, hx, hst, by omega, ?_, ?_⟩ ?_
 .intro hb
  have hx1 : x = 1 := by simp at hb; omega
  subst hx1
  refine ⟨?_, by omega⟩
  unfold OC
  rw [if_pos rfl]
  cases noR L (L.length + 1) st with
  | none => rfl
  | some y => simp
 .intro hb
  have hx1 : x ≠ 1 := by
   intro h; subst h; simp at hb
  unfold OC
  rw [if_neg hx1]
 rintro m t w1 ⟨k0, st', bt, v', rfl, h1, x1, hst', hk0, ht, hfa⟩
 unfold DC Ly
 cases bt with
 | false =>
   have hb := hfa rfl
   obtain ⟨av, cv, hv⟩ := h1.os.len
   have c1 := h1.oc.cell (off := 1)
   subst hv
   simp only [aHJ, aHK, aHR, aI4] at c1
   have hlen : ((ps ++ List.replicate k0 0).length : Int) = ((ps.length + k0 : Nat) : Int) := by simp
   unfold Fy
   by_cases hgt : sym < ps.length + k0
   .have d1 : decide ((sym : Int) < ((ps.length + k0 : Nat) : Int)) = true := by simp only [decide_eq_true_eq]; omega
    simp (disch := omega) only [aC, aY, aHI, jX, aA, cL, c1, aI, eB, dM, d1, jE, bN, if_true, aF, dV, aE]
    exact acQ (RR := RR) (e := 11) h1.o6 x1 hp fun w' h => hB _ _ _ hb hgt h
   .have d1 : decide ((sym : Int) < ((ps.length + k0 : Nat) : Int)) = false := by simp only [decide_eq_false_iff_not]; omega
    have d2 : decide ((left : Int) < 0) = false := by simp
    simp (disch := omega) only [aC, aY, aHI, jX, aA, cL, c1, aI, eB, dM, d1, dB, bN, aHP, if_false, bP, aX, d2, aE]
    exact hK _ _ _ _ hb hgt h1 x1
 | true =>
   obtain ⟨hb, hm⟩ := ht rfl
   obtain ⟨m, rfl⟩ : ∃ m', m = m' + 1 := ⟨m - 1, by omega⟩
   rw [avP] at hb
   have lf := fG (off := 0) h1.of (by simp)
   simp only [aHM, aHG, aHO] at lf
   unfold Li Um Ku
   simp (disch := omega) only [aC, lf, jX, aA, aF]
   refine (U0 (n := 2) h1.bl (by omega) hst' (by omega)).mono ?_
   rintro r w2 ⟨⟨hsh, rfl⟩ | ⟨hsh, rfl⟩, x2⟩
   .have n1 : ((10 : Int) != 0) = true := rfl
    rw [if_pos (by omega)] at hb
    obtain ⟨bn, bc, hbv, _⟩ := Md h1.bl
    simp (disch := omega) only [RQ, Sd, RN, aA, eT]
    refine dC (h1.ext x2).of rfl (by subst hbv; simp [one]) (by simp) fun w3 o3 x3 s3 => ?_
    simp (disch := omega) only [n1, aF]
    exact acQ (RR := RR) (e := 10) ((h1.ext x2).o6.ext x3 (by omega)) ((x1.seq x2).new x3 (by omega)) hp fun w' h => hE _ hb h
   .have n1 : ((0 : Int) != 0) = false := rfl
    rw [if_neg (by omega)] at hb
    obtain ⟨bn, bc, hbv, _⟩ := Md h1.bl
    have hlt := CV L st' 2
    simp (disch := omega) only [RQ, Sd, RN, aA, eT]
    refine dC (h1.ext x2).of rfl (by subst hbv; simp [one]) (by simp) fun w3 o3 x3 s3 => ?_
    simp only [aV, aHL, aHN] at o3
    have h3 := (h1.ext x2).setF x3 o3
    have x03 : aS w0 w3 cM := (x1.seq x2).new x3 (by omega)
    have z03 := x03.size
    simp (disch := omega) only [n1, aE]
    refine aBV h3 (by omega) (by simp; omega) fun w4 v4 h4 x4 => ?_
    have hpc := h3.hf
    have x04 : aS w0 w4 cM := x03.trans x4 fun b hb h => by omega
    rw [aHV, List.replicate_append_replicate] at h4
    refine ⟨m, by omega, k0 + jB L st' 2, st' + 2, _, v4, rfl, h4, x04, hsh, by omega, ?_, ?_⟩
    .intro hq
     have h3' : jB L st' 2 = 3 := by simp at hq; omega
     rw [if_neg (by omega)] at hb
     refine ⟨?_, by omega⟩
     rw [hb, h3']
     cases noR L m (st' + 2) with
     | none => rfl
     | some y =>
       obtain ⟨k, s⟩ := y
       simp; omega
    .intro hq
     have h3' : jB L st' 2 ≠ 3 := by
      intro h; rw [h] at hq; simp at hq
     rw [if_pos (by omega)] at hb
     exact hb
theorem atB {log p6 pf pc sym : Nat} {w0 w : aJ2} {bv v : aJ3} {L : List Bool} {res : Except Int (List Int × Nat)} (hlp : w0.heap.size <= p6) (hl : L.length <= 8000000) (hsym : sym <= 1000000) (hlog : log <= 15)
 (h : RdS w p6 pf pc log 4 bv L [] v) (h4 : 4 <= L.length) (hx : aS w0 w cM)
 (hres : U7 L sym (L.length + 1) 4 (2 ^ log) [] = res)
 {RR : aJ3 -> aJ2 -> Prop} (hE : ∀ e w', res = .error e -> aS w0 w' cM -> RR (.tuple #[.agg #[.int .i64 0, .slice none 0 0], .int .i64 0, .int .i64 e]) w')
 (hO : ∀ ps st v w', res = .ok (ps, st) -> rN w' w0.heap.size 1 v ps.length (ps.map (Value.int .i64)) -> aS w0 w' cM -> RR (.tuple #[.agg #[.int .i64 log, v], .int .i64 (((st + 7) / 8 : Nat)), .int .i64 0]) w') :
 Df RR (.int .i64 sym) (.pointer (some ⟨p6, 0, none⟩)) (.pointer (some ⟨pf, 0, none⟩)) (.pointer (some ⟨pc, 0, none⟩)) (.int .i64 (2 ^ log : Nat)) w := by
 have hp15 : 2 ^ log <= 2 ^ 15 := aHT (by omega) hlog
 have h6 := h.h6
 have hf := h.hf
 unfold Df JV J1
 refine cG.rule (fun m (t : aJ3) w' => ∃ (st left : Nat) (ps : List Int) (v : aJ3), t = .int .i64 left /\ U7 L sym m st left ps = res /\ L.length < m + st /\ st <= L.length /\ left <= 32768 /\ ps.length <= 1000000 /\
  RdS w' p6 pf pc log st bv L ps v /\ aS w0 w' cM) (L.length + 1)
  ⟨4, 2 ^ log, [], v, rfl, hres, by omega, h4, by omega, by simp, h, hx⟩ ?_
 rintro m t w1 ⟨st, left, ps, v, rfl, hr, hm, hst, hleft, hpl, h1, x1⟩
 have hx0 := x1.size
 obtain ⟨m, rfl⟩ : ∃ m', m = m' + 1 := ⟨m - 1, by omega⟩
 obtain ⟨bn, bc, hbv, _⟩ := Md h1.bl
 unfold C4 KG
 by_cases h0 : left = 0
 .have d1 : decide ((0 : Int) < (left : Int)) = false := by simp; omega
  rw [amD, if_pos h0] at hr
  obtain ⟨av, cv, hv⟩ := h1.os.len
  subst hv hbv
  have lc := lO (off := 0) (dN h1.oc) (by simp)
  have lc' := lO (off := 0) h1.oc (by simp)
  have lf := fG (off := 0) (dN h1.of) (by simp)
  have lf' := fG (off := 0) h1.of (by simp)
  simp only [aHM, aHG, aHO] at lc lc' lf lf'
  unfold Fw
  simp (disch := omega) only [aC, dM, d1, eD, and_true, true_and, aA, lc, lf, aE]
  refine (aCx (by omega)).mono ?_
  rintro r w2 ⟨rfl, x2⟩
  have x12 : aS w1 w2 cM := (aS.dr w1 cM).seq x2
  have h2 := h1.ext x12
  have lc2 := lO (off := 0) h2.oc (by simp)
  simp only [aHM, aHG, aHO] at lc2
  simp (disch := omega) only [lc2, true_and]
  refine iN h2.o6 rfl (by simp [one]) (by simp) fun w6 o6 x6 s6 => ?_
  refine nO o6 (by simp [aV]) ?_
  simp only [aV, aHL, aHN, aHM, aHG, aHO]
  have ov6 := h2.os.ext x6 (fun b hb h => by omega)
  refine hO ps st _ w6 hr.symm ⟨ov6.1, ?_⟩ ((x1.seq x12).new x6 (by omega))
  rcases ov6.2 with h | ⟨b, c, rest, q1, q2, q3⟩
  .exact .inl h
  .exact .inr ⟨b, c, rest, q1, by omega, q3⟩
 .have d1 : decide ((0 : Int) < (left : Int)) = true := by simp; omega
  rw [aFb h0] at hr
  have lf := fG (off := 0) h1.of (by simp)
  simp only [aHM, aHG, aHO] at lf
  unfold JK UK Lq
  simp (disch := omega) only [aC, dM, d1, jX, aA, aY, aHI, eA, aT, cL, lf, aF]
  refine (aBQ h1.bl hst (by omega) (by omega) hleft).mono ?_
  rintro r w2 ⟨hv2, x2⟩
  have h2 := h1.ext x2
  cases hval : VB L st left with
  | none =>
    rw [hval] at hr hv2
    obtain ⟨st', rfl⟩ := hv2
    have n1 : ((10 : Int) != 0) = true := rfl
    simp (disch := omega) only [RQ, Sd, RN, aA, eT, eA, aT, cR]
    refine dC h2.of rfl (by subst hbv; simp [one]) (by simp) fun w3 o3 x3 s3 => ?_
    simp (disch := omega) only [n1, aF]
    exact acQ (RR := RR) (e := 10) (h2.o6.ext x3 (by omega)) ((x1.seq x2).new x3 (by omega)) hlp fun w' h => hE _ _ hr.symm h
  | some y =>
    obtain ⟨x, st1⟩ := y
    rw [hval] at hr hv2
    simp only at hr
    obtain rfl := hv2
    obtain ⟨b1, b2, b3⟩ := U1 hval (by omega)
    have n1 : ((0 : Int) != 0) = false := rfl
    simp (disch := omega) only [RQ, Sd, RN, aA, eT, eA, aT, cR]
    refine dC h2.of rfl (by subst hbv; simp [one]) (by simp) fun w3 o3 x3 s3 => ?_
    simp only [aV, aHL, aHN] at o3
    have h3 := h2.setF x3 o3
    have x03 : aS w0 w3 cM := (x1.seq x2).new x3 (by omega)
    have c3 := h3.oc.cell (off := 1)
    simp only [aHJ, aHK] at c3
    simp (disch := omega) only [n1, c3, aI, aA, aE]
    refine aDp h3 ((x : Int) - 1) (by omega) fun w4 v4 h4 x4 => ?_
    have z03 := x03.size
    have hpc := h3.hf
    have x04 : aS w0 w4 cM := x03.trans x4 fun b hb h => by omega
    have hpn := lT (p := (x : Int) - 1) (by omega)
    have hfin : ∀ (left' : Nat), left' = left - (cW ((x : Int) - 1)).toNat -> yE (fun _ _ _ _ aU w'' => ∃ m', m' < m + 1 /\ ∃ (st left : Nat) (ps : List Int) (v : aJ3), aU = .int .i64 left /\ U7 L sym m' st left ps = res /\ L.length < m' + st /\ st <= L.length /\ left <= 32768 /\ ps.length <= 1000000 /\
        RdS w'' p6 pf pc log st bv L ps v /\ aS w0 w'' cM) RR (.int .i64 sym) (.pointer (some ⟨p6, 0, none⟩)) (.pointer (some ⟨pf, 0, none⟩)) (.pointer (some ⟨pc, 0, none⟩)) (.int .i64 left') (.int .i64 x) w4 := by
     intro left' hl'
     have hlen1 : (ps ++ [(x : Int) - 1]).length = ps.length + 1 := by simp
     refine axQ (left := left') h4 (by omega) hl b2 x04 hlp hsym ?_ ?_ ?_
     .intro w' hbe hx
      rw [hbe] at hr
      exact hE _ _ hr.symm hx
     .intro k st2 w' hbe hgt hx
      rw [hbe] at hr
      simp only at hr
      rw [if_pos (by omega)] at hr
      exact hE _ _ hr.symm hx
     .intro k st2 w' v' hbe hgt h5 hx
      rw [hbe] at hr
      simp only at hr
      rw [if_neg (by omega), <- hl'] at hr
      have hb2 : st1 <= st2 /\ st2 <= L.length := by
       unfold OC at hbe
       split at hbe
       .obtain ⟨q1, q2, _⟩ := anC hbe; omega
       .obtain ⟨rfl, rfl⟩ := aJU (aH2 hbe); omega
      rw [aHV, List.singleton_append] at h5
      exact ⟨m, by omega, st2, left', _, v', rfl, hr, by omega, hb2.2, by omega, by simp; omega, h5, hx⟩
    by_cases hx0 : x = 0
    .subst hx0
     have n2 : (((0 : Nat) : Int) == 0) = true := rfl
     have e1 : (left : Int) - 1 = ((left - 1 : Nat) : Int) := by omega
     simp (disch := omega) only [n2, e1, aF]
     exact hfin _ rfl
    .have n2 : ((x : Int) == 0) = false := beq_eq_false_iff_ne.2 (by omega)
     have e0 : (x : Int) - 1 = ((x - 1 : Nat) : Int) := by omega
     have e1 : (left : Int) - ((x : Int) - 1) = ((left - (x - 1) : Nat) : Int) := by omega
     simp (disch := omega) only [n2, e1, aE]
     refine hfin _ ?_
     unfold cW
     rw [if_neg (by omega), e0, aHH]
theorem azJ {s : ByteArray} {most : Int} {sym : Nat} {w : aJ2} (hl : s.size <= 1000000) (hsym : sym <= 1000000) :
 aR pg IM #[.string s, .int .i64 most, .int .i64 sym] w (fun r w' => abO w' w.heap.size (wF (bE (lL s)) most sym) r /\ aS w w' cM) := by
 refine alG ?_
 obtain ⟨RR, hRR⟩ : ∃ RR : aJ3 -> aJ2 -> Prop, RR = fun r w' => abO w' w.heap.size (wF (bE (lL s)) most sym) r /\ aS w w' cM := ⟨_, rfl⟩
 rw [<- hRR]
 have hll := kK s
 have hbl := lV (lL s)
 unfold amE KJ KZ
 refine pA fun w1 o1 x1 s1 => ?_
 refine (apW hl).mono ?_
 rintro r w2 ⟨ob2, x2⟩
 have hbl2 : Bl w2 r (bE (lL s)) := ob2.sl
 have hat := rN.atI ob2
 obtain ⟨bn, bc, rfl, _⟩ := Md hbl2
 have z1 := x1.size
 have z2 := x2.size
 simp (disch := omega) only [aC, uT, jX, aA]
 refine yI fun w3 o3 x3 s3 => ?_
 refine dC o3 rfl (by simp [one]) (by simp) fun w4 o4 x4 s4 => ?_
 simp only [aV, aHL, aHN] at o4
 have z3 := x3.size
 have z4 := x4.size
 have x24 : aS w2 w4 cM := x3.new x4 (by omega)
 have lf := fG (off := 0) o4 (by simp)
 simp only [aHM, aHG, aHO] at lf
 have hbl4 := hbl2.ext x24 (cB _)
 have e0 : (0 : Int) = ((0 : Nat) : Int) := rfl
 rw [e0] at lf
 simp (disch := omega) only [lf, aA]
 refine (U0 (st := 0) (n := 4) hbl4 (by omega) (by omega) (by omega)).mono ?_
 rintro r w5 ⟨⟨hsh, rfl⟩ | ⟨hsh, rfl⟩, x5⟩
 .have n1 : ((10 : Int) != 0) = true := rfl
  have hrl : wF (bE (lL s)) most sym = .error 10 := by unfold wF; rw [if_pos (by omega)]
  rw [hrl] at hRR
  simp (disch := omega) only [RQ, Sd, RN, aA, eT, cZ, aT, bM, pW]
  refine dC (o4.ext x5 (fun h => h)) rfl (by simp [one]) (by simp) fun w6 o6 x6 s6 => ?_
  simp (disch := omega) only [n1, aF]
  exact acQ (RR := RR) (e := 10) ((((o1.ext x2 (fun h => h)).ext x24 (fun h => h)).ext x5 (fun h => h)).ext x6 (by omega)) ((((x1.seq x2).seq x24).seq x5).new x6 (by omega)) (aHS _) fun w' h => by rw [hRR]; exact ⟨rfl, h⟩
 .have n1 : ((0 : Int) != 0) = false := rfl
  have hlt := CV (bE (lL s)) 0 4
  have hrl : wF (bE (lL s)) most sym = (if most < ((jB (bE (lL s)) 0 4 + 5 : Nat) : Int) ∨ 15 < jB (bE (lL s)) 0 4 + 5 then .error 12 else match U7 (bE (lL s)) sym ((bE (lL s)).length + 1) 4 (2 ^ (jB (bE (lL s)) 0 4 + 5)) [] with
   | .error e => .error e
   | .ok (ps, st) => .ok (jB (bE (lL s)) 0 4 + 5, ps, (st + 7) / 8)) := by unfold wF; rw [if_neg (by omega)] <;> rfl
  rw [hrl] at hRR
  generalize jB (bE (lL s)) 0 4 = x at *
  have e1 : (x : Int) + 5 = ((x + 5 : Nat) : Int) := by omega
  have z5 := x5.size
  simp (disch := omega) only [aHI, RQ, Sd, RN, aA, eT, cZ, aT, bM, pW]
  refine dC (o4.ext x5 (fun h => h)) rfl (by simp [one]) (by simp) fun w6 o6 x6 s6 => ?_
  simp only [aV, aHL, aHN] at o6
  have z6 := x6.size
  have x06 : aS w w6 cM := (((x1.seq x2).seq x24).seq x5).new x6 (by omega)
  have o16 := ((((o1.ext x2 (fun h => h)).ext x24 (fun h => h)).ext x5 (fun h => h)).ext x6 (by omega))
  have hbl6 : Bl w6 _ _ := (hbl4.ext x5 (cB _)).ext x6 (hat _ fun b hb hh => by omega)
  simp (disch := omega) only [n1, e1, aE]
  refine pA fun w7 o7 x7 s7 => ?_
  refine iN o7 rfl (by simp [one]) (by simp) fun w8 o8 x8 s8 => ?_
  simp only [aV, aHL, aHN] at o8
  have x68 : aS w6 w8 cM := x7.new x8 (by omega)
  have x08 : aS w w8 cM := x06.seq x68
  have o18 := o16.ext x68 (fun h => h)
  have c8 := o8.cell (off := 0)
  simp only [aHJ, aHK] at c8
  by_cases hmo : most < ((x + 5 : Nat) : Int)
  .have d1 : decide (most < ((x + 5 : Nat) : Int)) = true := by simpa using hmo
   rw [if_pos (.inl hmo)] at hRR
   simp (disch := omega) only [cQ, aA, cA, c8, aI, dM, d1, jE, bN, if_true, aF, dV]
   exact acQ (RR := RR) (e := 12) o18 x08 (aHS _) fun w' h => by rw [hRR]; exact ⟨rfl, h⟩
  have d1 : decide (most < ((x + 5 : Nat) : Int)) = false := by simpa using hmo
  by_cases h15 : 15 < x + 5
  .have d2 : decide ((15 : Int) < ((x + 5 : Nat) : Int)) = true := by simp; omega
   rw [if_pos (.inr h15)] at hRR
   simp (disch := omega) only [cQ, aA, cA, c8, aI, dM, d1, dB, bN, aHP, if_false, bP, d2, aF]
   exact acQ (RR := RR) (e := 12) o18 x08 (aHS _) fun w' h => by rw [hRR]; exact ⟨rfl, h⟩
  have d2 : decide ((15 : Int) < ((x + 5 : Nat) : Int)) = false := by simp; omega
  rw [if_neg (by omega)] at hRR
  simp (disch := omega) only [cQ, aA, cA, c8, aI, dM, d1, dB, bN, aHP, if_false, bP, d2, aE]
  refine (U2 (x + 5) (by omega) _).mono ?_
  rintro r w9 ⟨rfl, rfl⟩
  have hpow : ((2 ^ (x + 5) : Nat) : Int) = (2 : Int) ^ (x + 5) := by simp
  rw [<- hpow]
  have hS : RdS w9 w.heap.size w2.heap.size w6.heap.size (x + 5) 4 (.slice bn (bE (lL s)).length bc) (bE (lL s)) [] (.slice none 0 0) :=
   ⟨o18, o6.ext x68 (fun h => h), o8, rN.nil _ _ _, hbl6.ext x68 (cB _), fun M hM => hat M fun b _ hb => hM b (by omega) (by omega), by omega, by omega⟩
  refine atB (w0 := w) (res := U7 (bE (lL s)) sym ((bE (lL s)).length + 1) 4 (2 ^ (x + 5)) []) (aHS _) (by omega) hsym (by omega) hS (by omega) x08 rfl ?_ ?_
  .intro e w' he hx
   rw [hRR, he]
   exact ⟨rfl, hx⟩
  .intro ps st v w' he ho hx
   rw [hRR, he]
   exact ⟨⟨v, rfl, ho⟩, hx⟩
end Go.Proofs.YtaggdjhhmbnhoaaDoor
namespace Go.Pu
open Go Go.En
theorem aEA {ps : List Int} (hlo : ∀ p ∈ ps, -1 <= p) (hne : ps ≠ []) (hlast : ps.getLast? ≠ some 0) : 0 < rR ps := by
 have h0 := GD hlo
 rcases Int.lt_or_eq_of_le h0 with h | h
 .exact h
 .exfalso
  have hz : ∀ q ∈ ps, q = 0 := fun q hq => by
   have h1 := alT hlo hq
   have h2 := hlo q hq
   unfold cW at h1
   split at h1 <;> omega
  refine hlast ?_
  cases hg : ps.getLast? with
  | none => simp at hg; exact absurd hg hne
  | some y => rw [hz y (List.mem_of_getLast? hg)]
theorem avM {left v : Nat} (h : left <= 32768) : (L5 left v).length <= 17 := by
 have hb := rE (k := left + 1) (n := 17) (by omega)
 unfold L5
 simp only
 split
 .rw [dH]; omega
 .split <;> rw [dH] <;> omega
theorem aER : ∀ k : Nat, (noW k).length <= 2 * k + 2 := by
 intro k
 induction k using Nat.strongRecOn with
 | ind k ih =>
   rw [noW]
   split
   .rw [dH]; omega
   .have := ih (k - 3) (by omega)
    rw [aHR, dH]; omega
theorem asP : ∀ (g left : Nat) (ps : List Int), left <= 32768 -> (Yg g left ps).length <= 20 * ps.length
 | 0, left, ps, h => by simp [Yg]
 | g + 1, left, [], h => by simp [Yg]
 | g + 1, left, p :: ps, h => by
   rw [Yg]
   have hk : (ps.takeWhile (· == 0)).length <= ps.length := (aJV _).length_le
   split
   .have h1 := avM (v := 1) h
    have h2 := aER (ps.takeWhile (· == 0)).length
    have h3 := asP g left (ps.drop (ps.takeWhile (· == 0)).length) h
    rw [aIb] at h3
    simp only [aHR, aH5]
    omega
   .have h1 := avM (v := (p + 1).toNat) h
    have h3 := asP g (left - (cW p).toNat) ps (by omega)
    simp only [aHR, aH5]
    omega
theorem acY {log : Nat} {ps : List Int} (hm : Sk log ps) : (IJ log ps).length <= 6000 := by
 have h15 := hm.log15
 have hp : 2 ^ log <= 2 ^ 15 := aHT (by omega) h15
 have := asP ps.length (2 ^ log) ps (by omega)
 have := hm.len256
 unfold IJ
 rw [aHR, dH]
 omega
theorem amK : ∀ {ps : List Int} {j : Nat}, j < (ps.takeWhile (· == 0)).length -> ps[j]? = some 0
 | [], j, h => by simp at h
 | p :: ps, j, h => by
   rw [List.takeWhile_cons] at h
   by_cases hp : (p == 0) = true
   .rw [if_pos hp] at h
    cases j with
    | zero => simpa using hp
    | succ j => simpa using amK (ps := ps) (j := j) (by simpa using h)
   .rw [if_neg hp] at h; simp at h
theorem aqU : ∀ {ps : List Int} {y : Int}, ps[(ps.takeWhile (· == 0)).length]? = some y -> y ≠ 0
 | [], y, h => by simp at h
 | p :: ps, y, h => by
   rw [List.takeWhile_cons] at h
   by_cases hp : (p == 0) = true
   .rw [if_pos hp] at h
    exact aqU (ps := ps) (by simpa using h)
   .rw [if_neg hp] at h
    simp at h hp
    rw [<- h]; exact hp
theorem aDo {ps : List Int} (hlast : ps.getLast? ≠ some 0) (hne : ps ≠ []) : (ps.takeWhile (· == 0)).length < ps.length := by
 have hk : (ps.takeWhile (· == 0)).length <= ps.length := (aJV _).length_le
 rcases aH6 (ps.takeWhile (· == 0)).length ps.length with h | h
 .exact h
 .exfalso
  have hl : 0 < ps.length := aII.2 hne
  have := amK (ps := ps) (j := ps.length - 1) (by omega)
  apply hlast
  rw [aJq, this]
end Go.Pu
namespace Go.Proofs.YtaggdjhhmbnhoaaDoor
open Go Go.En Go.Pu
set_option maxRecDepth 4000
theorem aGC {lo p : Nat} {B : List Bool} {w : aJ2} (h : Wr w lo p B) (hB : B.length <= 10000000) :
 aR pg xE #[.pointer (some ⟨p, 0, none⟩)] w (fun r w' => ∃ bytes, agF B bytes /\ rN w' w.heap.size 1 r bytes.length (bytes.map GI) /\ aS w w' cM) := by
 refine UL ?_
 obtain ⟨h0, v, bytes, o, os, hh⟩ := h
 have c0 := (dN o).cell (off := 0)
 have c0' := o.cell (off := 0)
 simp only [aHJ, aHK] at c0 c0'
 have hs : Bs w v bytes := by
  have h1 := os.1
  rcases os.2 with ⟨rfl, h2⟩ | ⟨b, c, rest, rfl, h2, h3, h4, h5⟩
  .exact ⟨_, _, _, rfl, by omega, by omega, fun h => by omega⟩
  .refine ⟨_, _, _, rfl, by omega, h5, fun _ => ⟨b, 0, rfl, fun i hi => ?_⟩⟩
   rw [h3.cell, aHI, aHW (by omega)]
 have hl := hh.len
 unfold R2 BV
 simp (disch := omega) only [aC, kM, aH7, rM, aA, iU, gA, c0', aI, aE]
 refine (U6 hs (by omega)).mono ?_
 rintro r w1 ⟨o1, x1⟩
 exact ⟨bytes, hh, o1, x1⟩
structure WrS (w : aJ2) (w0 : aJ2) (pc lo pw log : Nat) (sv : aJ3) (ps : List Int) (B : List Bool) : Prop where
 oc : cJ w pc [.int .i64 log, sv]
 sl : Sl w0 sv (ps.map (Value.int .i64))
 hw : Wr w lo pw B
 hc : pc < lo
 hx : aS w0 w cM
 hlo : w0.heap.size <= lo
theorem WrS.put {w w' w0 : aJ2} {pc lo pw log : Nat} {sv : aJ3} {ps : List Int} {B B' : List Bool} (h : WrS w w0 pc lo pw log sv ps B) (hw : Wr w' lo pw B') (hx : aS w w' (fun y => lo <= y)) : WrS w' w0 pc lo pw log sv ps B' :=
 ⟨h.oc.ext hx (by have := h.hc; omega), h.sl, hw, h.hc, h.hx.trans hx fun b hb hh => by have := h.hlo; omega, h.hlo⟩
theorem aCf {w w0 : aJ2} {pc lo pw log left i : Nat} {sv : aJ3} {ps : List Int} {B : List Bool} {p : Int} (h : WrS w w0 pc lo pw log sv ps B) (hB : B.length <= 1000000) (h0 : 0 < left) (h1 : left <= 32768) (hg : ps[i]? = some p) (hp0 : -1 <= p) (hpl : p <= left)
 {kn : aJ3 -> aJ3 -> aJ3 -> aJ3 -> aJ3 -> aJ2 -> Prop}
 (hK : ∀ w', WrS w' w0 pc lo pw log sv ps (B ++ L5 left (p + 1).toNat) -> kn (.pointer (some ⟨pc, 0, none⟩)) (.pointer (some ⟨pw, 0, none⟩)) (.int .i64 left) (.int .i64 i) (.int .i64 p) w') :
 Ab kn (.pointer (some ⟨pc, 0, none⟩)) (.pointer (some ⟨pw, 0, none⟩)) (.int .i64 left) (.int .i64 i) w := by
 unfold Ab
 have hi : i < ps.length := by
  rcases aH6 i ps.length with h' | h'
  .exact h'
  .rw [aH3 h'] at hg; cases hg
 have hsl := h.sl.ext h.hx (cB _)
 obtain ⟨b', off', c', hv, _, hcell⟩ := hsl.openI (by omega)
 have g1 := hcell i hi
 rw [aHQ hi] at hg
 rw [aH2 hg] at g1
 have hoc := h.oc
 subst hv
 have c1 := hoc.cell (off := 1)
 simp only [aHJ, aHK] at c1
 obtain ⟨m, hm, hm1, hm2, hf1, hf2, hf3⟩ := acV h0 h1
 have e1 : (left : Int) + 1 = ((left + 1 : Nat) : Int) := by omega
 simp (disch := omega) only [aC, bK, aHI, bM, e1, aT, aA, lM, hP, cL, c1, aI, dJ, aHH, cA, g1, fY]
 refine (aCG (x := left + 1) (by omega) w).mono ?_
 rintro r w1 ⟨rfl, rfl⟩
 rw [hm]
 obtain ⟨v, hv⟩ : ∃ v : Nat, p + 1 = (v : Int) := ⟨(p + 1).toNat, by omega⟩
 have hvt : (p + 1).toNat = v := by omega
 rw [hvt] at hK
 have hvl : v <= left + 1 := by omega
 have hsh1 := atZ (n := m + 1) (by omega)
 have hsh0 := atZ (n := m) (by omega)
 have e2 : ((m + 1 : Nat) : Int) - 1 = (m : Int) := by omega
 have hp : 2 ^ m <= 2 ^ 16 := aHT (by omega) hm2
 unfold L5 at hK
 simp only [hm, aID] at hK
 rw [hf3] at *
 generalize hq : 2 ^ m = q at *
 have e3 : ((2 * q : Nat) : Int) - 2 - (left : Int) = ((2 * q - 2 - left : Nat) : Int) := by omega
 by_cases hfr : v < 2 * q - 2 - left
 .have d1 : decide ((v : Int) < ((2 * q - 2 - left : Nat) : Int)) = true := by simp only [decide_eq_true_eq]; omega
  rw [if_pos hfr] at hK
  simp (disch := omega) only [mN, aHH, hsh1, hv, eA, e2, aT, aA, aX, e3, d1, bM, fY, hP, aF]
  refine (Qg (n := m) (x := v) h.hw (by omega) (by omega) (by omega)).mono ?_
  rintro r w2 ⟨rfl, hw2, x2⟩
  exact hK w2 (h.put hw2 x2)
 .have d1 : decide ((v : Int) < ((2 * q - 2 - left : Nat) : Int)) = false := by simp only [decide_eq_false_iff_not]; omega
  rw [if_neg hfr] at hK
  by_cases h2 : v < q
  .have d2 : decide ((v : Int) < (q : Int)) = true := by simp only [decide_eq_true_eq]; omega
   rw [if_pos h2] at hK
   simp (disch := omega) only [mN, aHH, hsh1, hv, eA, e2, aT, aA, hsh0, aX, d2, aF, e3, d1, aE]
   refine (Qg (n := m + 1) (x := v) h.hw (by omega) (by omega) (by omega)).mono ?_
   rintro r w2 ⟨rfl, hw2, x2⟩
   exact hK w2 (h.put hw2 x2)
  .have d2 : decide ((v : Int) < (q : Int)) = false := by simp only [decide_eq_false_iff_not]; omega
   have e4 : (v : Int) + ((2 * q - 2 - left : Nat) : Int) = ((v + (2 * q - 2 - left) : Nat) : Int) := by omega
   rw [if_neg h2] at hK
   simp (disch := omega) only [mN, aHH, hsh1, hv, eA, e2, aT, aA, hsh0, aX, d2, aE, e3, d1, bM, e4, fY, hP]
   refine (Qg (n := m + 1) (x := v + (2 * q - 2 - left)) h.hw (by omega) (by omega) (by omega)).mono ?_
   rintro r w2 ⟨rfl, hw2, x2⟩
   exact hK w2 (h.put hw2 x2)
theorem aBt {w w0 : aJ2} {pc lo pw log left i k : Nat} {sv : aJ3} {ps : List Int} {B : List Bool} (h : WrS w w0 pc lo pw log sv ps B) (hl : ps.length <= 1000000) (hz : ∀ j, j < k -> ps[i + 1 + j]? = some 0) (hy : ∃ y, ps[i + 1 + k]? = some y /\ y ≠ 0)
 {k3 : aJ3 -> aJ3 -> aJ3 -> aJ3 -> aJ3 -> aJ2 -> Prop}
 (hK : k3 (.pointer (some ⟨pc, 0, none⟩)) (.pointer (some ⟨pw, 0, none⟩)) (.int .i64 left) (.int .i64 i) (.int .i64 k) w) :
 zX k3 (.pointer (some ⟨pc, 0, none⟩)) (.pointer (some ⟨pw, 0, none⟩)) (.int .i64 left) (.int .i64 i) (.int .i64 0) w := by
 unfold zX
 have lt : ∀ {j : Nat} {y : Int}, ps[j]? = some y -> j < ps.length := fun {j y} h => by
  rcases aH6 j ps.length with h' | h'
  .exact h'
  .rw [aH3 h'] at h; cases h
 obtain ⟨y, hy, hyn⟩ := hy
 have hyl := lt hy
 have hsl := h.sl.ext h.hx (cB _)
 obtain ⟨b', off', c', hv, _, hcell⟩ := hsl.openI (by omega)
 have hoc := h.oc
 subst hv
 have c1 := hoc.cell (off := 1)
 simp only [aHJ, aHK] at c1
 refine cG.rule (fun m (t : aJ3) w' => ∃ j : Nat, m = k - j /\ t = .int .i64 j /\ j <= k /\ w' = w) k ⟨0, rfl, rfl, by omega, rfl⟩ ?_
 rintro m t w1 ⟨j, rfl, rfl, hj, rfl⟩
 unfold zQ
 have e1 : (i : Int) + 1 + (j : Int) = ((i + 1 + j : Nat) : Int) := by omega
 by_cases hlt : j < k
 .have g0 := hz j hlt
  have hl0 := lt g0
  have g1 := hcell (i + 1 + j) hl0
  rw [aHQ hl0] at g0
  rw [aH2 g0] at g1
  have n1 : ((0 : Int) == 0) = true := rfl
  simp (disch := omega) only [aC, bK, aHI, bM, aT, aA, e1, cL, c1, aI, dJ, aHH, cA, g1, cR, n1, and_true, aF]
  exact ⟨k - (j + 1), by omega, j + 1, rfl, rfl, by omega⟩
 .obtain rfl : j = k := by omega
  have g1 := hcell (i + 1 + j) hyl
  rw [aHQ hyl] at hy
  rw [aH2 hy] at g1
  have n1 : (y == 0) = false := by simpa using hyn
  simp (disch := omega) only [aC, bK, aHI, bM, aT, aA, e1, cL, c1, aI, dJ, aHH, cA, g1, cR, n1, and_true, aE]
  exact hK
theorem aDy {w w0 : aJ2} {pc lo pw log left i k : Nat} {sv : aJ3} {ps : List Int} {B : List Bool} (h : WrS w w0 pc lo pw log sv ps B) (hB : B.length <= 1000000) (hk : k <= 1000000)
 {kn : aJ3 -> aJ3 -> aJ3 -> aJ3 -> aJ2 -> Prop}
 (hK : ∀ w', WrS w' w0 pc lo pw log sv ps (B ++ noW k) -> kn (.pointer (some ⟨pc, 0, none⟩)) (.pointer (some ⟨pw, 0, none⟩)) (.int .i64 left) (.int .i64 i) w') :
 AV kn (.pointer (some ⟨pc, 0, none⟩)) (.pointer (some ⟨pw, 0, none⟩)) (.int .i64 left) (.int .i64 i) (.int .i64 k) w := by
 unfold AV G0 Hb
 refine cG.rule (fun m (t : aJ3) w' => ∃ C : List Bool, t = .int .i64 m /\ m <= k /\ C ++ noW m = B ++ noW k /\ C.length <= 1000000 + 2 * (k - m) /\ WrS w' w0 pc lo pw log sv ps C) k ⟨B, rfl, aHS _, rfl, by omega, h⟩ ?_
 rintro m t w1 ⟨C, rfl, hm, hC, hCl, h1⟩
 unfold Bd
 rw [noW] at hC
 by_cases h3 : m < 3
 .have d1 : decide ((3 : Int) <= (m : Int)) = false := by simp; omega
  rw [dif_pos h3] at hC
  unfold AY
  simp (disch := omega) only [aC, pG, d1, eA, aT, aA, fY, hP, aE]
  refine (Qg (n := 2) (x := m) h1.hw (by omega) (by omega) (by omega)).mono ?_
  rintro r w2 ⟨rfl, hw2, x2⟩
  rw [hC] at hw2
  exact hK w2 (h1.put hw2 x2)
 .have d1 : decide ((3 : Int) <= (m : Int)) = true := by simp; omega
  rw [dif_neg h3] at hC
  simp (disch := omega) only [aC, pG, d1, eA, aT, aA, aF]
  refine (Qg (n := 2) (x := 3) h1.hw (by omega) (by omega) (by omega)).mono ?_
  rintro r w2 ⟨rfl, hw2, x2⟩
  have e1 : (m : Int) - 3 = ((m - 3 : Nat) : Int) := by omega
  simp (disch := omega) only [e1]
  refine ⟨m - 3, by omega, C ++ gD 3 2, rfl, by omega, by rw [aHV]; exact hC, ?_, h1.put hw2 x2⟩
  rw [aHR, dH]; omega
theorem aAh {w w0 : aJ2} {pc lo pw log : Nat} {sv : aJ3} {ps : List Int} (hm : Sk log ps) (h : WrS w w0 pc lo pw log sv ps (gD (log - 5) 4)) {RR : aJ3 -> aJ2 -> Prop}
 (hR : ∀ w' pw, WrS w' w0 pc lo pw log sv ps (IJ log ps) -> wJ RR (.pointer (some ⟨pw, 0, none⟩)) w') :
 zT RR (.pointer (some ⟨pc, 0, none⟩)) (.pointer (some ⟨pw, 0, none⟩)) (.int .i64 (2 ^ log : Nat)) w := by
 have hlen := hm.len256
 have h15 := hm.log15
 have hp15 : 2 ^ log <= 2 ^ 15 := aHT (by omega) h15
 have hD := acY hm
 have hpow : ((2 ^ log : Nat) : Int) = (2 : Int) ^ log := by simp
 generalize hDe : IJ log ps = D at *
 unfold zT Fi EL EI Ev
 refine cG.rule (fun m (t : aJ3 × aJ3) w' => ∃ (i left g : Nat) (B : List Bool), m = ps.length - i /\ t = (.int .i64 left, .int .i64 i) /\ i <= ps.length /\ ps.length - i <= g /\ rR (ps.drop i) = left /\ left <= 32768 /\ B ++ Yg g left (ps.drop i) = D /\ WrS w' w0 pc lo pw log sv ps B) ps.length
  ⟨0, 2 ^ log, ps.length, _, rfl, rfl, by omega, by omega, by rw [aHM, hm.sum, hpow], by omega, by rw [aHM]; exact hDe, h⟩ ?_
 rintro m t w1 ⟨i, left, g, B, rfl, rfl, hi, hg, hs, hleft, hB, h1⟩
 have hBl : B.length <= 6000 := by rw [<- hB, aHR] at hD; omega
 have hoc := h1.oc
 obtain ⟨sa, sc, hsv, _⟩ := h1.sl.lenI
 have hsv' := hsv
 subst hsv'
 have c1 := hoc.cell (off := 1)
 simp only [aHJ, aHK] at c1
 unfold zN EG
 by_cases hlt : i < ps.length
 .have d1 : decide ((i : Int) < (ps.length : Int)) = true := by simp; omega
  have hdrop : ps.drop i = ps[i] :: ps.drop (i + 1) := aIh hlt
  have hlo' : ∀ p ∈ ps.drop i, -1 <= p := fun p hp => hm.low p (aJ0 hp)
  have hlast : ∀ j, j < ps.length -> (ps.drop j).getLast? ≠ some 0 := fun j hj => by
   rw [List.getLast?_drop, if_neg (by omega)]; exact hm.last
  have hpos : 0 < rR (ps.drop i) := aEA hlo' (fun h => by have := List.drop_eq_nil_iff.1 h; omega) (hlast i hlt)
  have hp0 := hm.low _ (aH1 hlt)
  have hpi := aHQ hlt
  generalize ps[i] = p at *
  rw [hdrop, wO] at hs hpos
  have hlo2 : ∀ p ∈ ps.drop (i + 1), -1 <= p := fun p hp => hm.low p (aJ0 hp)
  have hn := GD hlo2
  have hpn := lT hp0
  have hple : p <= cW p := by unfold cW; split <;> omega
  obtain ⟨g, rfl⟩ : ∃ g', g = g' + 1 := ⟨g - 1, by omega⟩
  unfold EN Ey PY
  simp (disch := omega) only [aC, bK, aHI, aA, cL, c1, aI, eB, aX, d1, aF]
  refine aCf (left := left) (i := i) h1 (by omega) (by omega) hleft hpi hp0 (by omega) fun w2 h2 => ?_
  unfold Fp EY
  refine (alY _ _).mono ?_
  rintro r w3 ⟨rfl, rfl⟩
  obtain ⟨pq, hpq⟩ : ∃ pq : Nat, cW p = pq := ⟨(cW p).toNat, by omega⟩
  rw [hpq] at hs hpn hple ⊢
  have e1 : (left : Int) - (pq : Int) = ((left - pq : Nat) : Int) := by omega
  have e2 : (i : Int) + 1 = ((i + 1 : Nat) : Int) := by omega
  by_cases h0 : p = 0
  .subst h0
   have n1 : ((0 : Int) != 0) = false := rfl
   obtain rfl : pq = 0 := by
    have : cW 0 = 0 := rfl
    omega
   have hne : ps.drop (i + 1) ≠ [] := by
    intro he
    rw [he] at hpos
    exact absurd hpos (by decide)
   have hlt2 : i + 1 < ps.length := by
    rcases aH6 (i + 1) ps.length with h | h
    .exact h
    .exact absurd (List.drop_eq_nil_of_le h) hne
   have hz1 := fun j => amK (ps := ps.drop (i + 1)) (j := j)
   have hz2 := fun y => aqU (ps := ps.drop (i + 1)) (y := y)
   have hz3 := aDo (hlast (i + 1) hlt2) hne
   have hrep := V1 (ps.drop (i + 1))
   have hW : Yg (g + 1) left (0 :: ps.drop (i + 1)) = L5 left 1 ++ (noW ((ps.drop (i + 1)).takeWhile (· == 0)).length ++ Yg g left ((ps.drop (i + 1)).drop ((ps.drop (i + 1)).takeWhile (· == 0)).length)) := by rw [Yg, if_pos rfl]
   rw [hdrop, hW] at hB
   generalize ((ps.drop (i + 1)).takeWhile (· == 0)).length = k at *
   rw [aIb] at hz3
   simp only [aIV] at hz1 hz2
   have hsum : rR (ps.drop (i + 1 + k)) = left := by
    have : rR (ps.drop (i + 1)) = rR (List.replicate k 0) + rR ((ps.drop (i + 1)).drop k) := by
     conv => lhs; rw [hrep]
     rw [Gt]
    rw [Rr, List.drop_drop] at this
    have e0 : cW 0 = 0 := rfl
    omega
   have h2' : WrS w3 w0 pc lo pw log (.slice sa ps.length sc) ps (B ++ L5 left 1) := h2
   rw [List.drop_drop] at hB
   have hl1 : (B ++ L5 left 1).length <= 6000 := by
    have := congrArg List.length hB
    simp only [aHR] at this ⊢
    omega
   have e3 : (left : Int) - ((0 : Nat) : Int) = (left : Int) := by omega
   unfold EP EM
   simp (disch := omega) only [aC, eA, e3, aT, eT, n1, aA, aE]
   refine aBt (left := left) (k := k) h2' (by omega) hz1 ⟨_, aHQ (show i + 1 + k < ps.length by omega), hz2 _ (aHQ (by omega))⟩ ?_
   unfold G5 Hw
   have e4 : (i : Int) + (k : Int) = ((i + k : Nat) : Int) := by omega
   simp (disch := omega) only [aC, bM, e4, aT, aA]
   refine aDy (left := left) (i := i + k) h2' (by omega) (by omega) fun w4 h4 => ?_
   unfold wM
   have e5 : ((i + k : Nat) : Int) + 1 = ((i + 1 + k : Nat) : Int) := by omega
   simp (disch := omega) only [aC, bM, e5, aT, aA]
   exact ⟨ps.length - (i + 1 + k), by omega, i + 1 + k, left, g, _, rfl, rfl, by omega, by omega, hsum, hleft, by rw [<- hB]; simp [aHV], h4⟩
  .have n1 : (p != 0) = true := by simpa using h0
   have hW : Yg (g + 1) left (p :: ps.drop (i + 1)) = L5 left (p + 1).toNat ++ Yg g (left - pq) (ps.drop (i + 1)) := by rw [Yg, if_neg h0, hpq, aHH]
   rw [hdrop, hW, <- aHV] at hB
   unfold wM
   simp (disch := omega) only [aC, eA, e1, aT, eT, n1, bM, e2, aA, aF]
   exact ⟨ps.length - (i + 1), by omega, i + 1, left - pq, g, _, rfl, rfl, by omega, by omega, by omega, by omega, hB, h2⟩
 .have d1 : decide ((i : Int) < (ps.length : Int)) = false := by simp; omega
  have hnil : ps.drop i = [] := List.drop_eq_nil_of_le (by omega)
  have hB : B = D := by
   rw [hnil] at hB
   cases g with
   | zero => simpa [Yg] using hB
   | succ g => simpa [Yg] using hB
  rw [hB] at h1
  simp (disch := omega) only [aC, bK, aHI, aA, cL, c1, aI, eB, aX, d1, aE]
  exact hR w1 pw h1
theorem avU {log : Nat} {sv : aJ3} {ps : List Int} {w : aJ2} (hm : Sk log ps) (hs : Sl w sv (ps.map (Value.int .i64))) :
 aR pg DS #[.agg #[.int .i64 log, sv]] w (fun r w' => ∃ bytes v, r = .tuple #[v, .int .i64 0] /\ agF (IJ log ps) bytes /\ rN w' w.heap.size 1 v bytes.length (bytes.map GI) /\ aS w w' cM) := by
 refine YU ?_
 have hlen := hm.len256
 have h15 := hm.log15
 have h5 := hm.log5
 unfold Ym EZ ED
 refine fV fun w1 o1 x1 s1 => ?_
 simp only [Value.cells] at o1
 have l1 := gH o1 (off := 0) (by simp)
 simp only [aHM, aHG, aHO] at l1
 simp (disch := omega) only [aC, l1, dK, aA, cA]
 refine (aFr (hs.ext x1 (cB _)) (by omega)).mono ?_
 rintro r w2 ⟨rfl, x2⟩
 rw [hm.b]
 have z1 := x1.size
 have z2 := x2.size
 simp (disch := omega) only [Gz, aIt, aA, aE]
 refine (avX w2).mono ?_
 rintro r w3 ⟨rfl, hlt, hw3, x3⟩
 have z3 := x3.size
 have o13 := (o1.ext x2 (fun h => h)).ext x3 (fun h => h)
 have c0 := o13.cell (off := 0)
 simp only [aHJ, aHK] at c0
 have e1 : (log : Int) - 5 = ((log - 5 : Nat) : Int) := by omega
 simp (disch := omega) only [c0, aI, aA, eA, e1, aT, fY, hP]
 refine (Qg (n := 4) (x := log - 5) hw3 (by omega) (by omega) (by simp)).mono ?_
 rintro r w4 ⟨rfl, hw4, x4⟩
 have o14 := o13.ext x4 (by omega)
 have c04 := o14.cell (off := 0)
 simp only [aHJ, aHK] at c04
 have hsh := atZ (n := log) (by omega)
 simp (disch := omega) only [c04, aI, aA, mN, aHH, hsh]
 have x04 : aS w w4 cM := ((x1.seq x2).seq x3).trans x4 fun b hb h => by omega
 refine aAh (lo := w2.heap.size) (pw := w2.heap.size) hm ⟨o14, hs, hw4, by omega, x04, by omega⟩ ?_
 intro w5 pw h5
 have hD := acY hm
 unfold wJ
 refine (aGC h5.hw (by omega)).mono ?_
 rintro r w6 ⟨bytes, hh, ho, x6⟩
 refine ⟨bytes, r, rfl, hh, ⟨ho.1, ?_⟩, h5.hx.seq x6⟩
 have := h5.hx.size
 rcases ho.2 with h | ⟨b, c, rest, q1, q2, q3⟩
 .exact .inl h
 .exact .inr ⟨b, c, rest, q1, by omega, q3⟩
def asN (log : Int) (ns : List Nat) : Bool := decide (5 <= log /\ log <= 15 /\ ns.length <= 256 /\ 2 <= ns.countP iW /\ ns.countP iW <= 2 ^ log.toNat /\ ns.sum <= 2147483647)
theorem aDq {ov t4 : aJ3} {log : Int} {ns : List Nat} {w : aJ2} (hs : Sl w ov (ns.map fun (n : Nat) => Value.int .u32 n)) (hn : ∀ n ∈ ns, n <= 4294967295) (hl : ns.length <= 300) {RR : aJ3 -> aJ2 -> Prop}
 (hK : ∀ last, Rx ns ns.length last -> FL RR ov (.int .i64 log) t4 (.int .u64 ns.sum) (.int .i64 (ns.countP iW : Nat)) (.int .i64 last) w) :
 F0 RR ov (.int .i64 log) t4 (.int .u64 0) (.int .i64 0) (.int .i64 0) w := by
 unfold F0 Oj M0
 obtain ⟨a, c, hv, hc⟩ := hs.len
 rw [aHU] at hv
 subst hv
 simp (disch := omega) only [aC, fX, aA]
 unfold On NF
 refine cG.rule (fun m (t : aJ3 × aJ3 × aJ3 × aJ3) w' => ∃ i last : Nat, m = ns.length - i /\ t = (.int .u64 (ns.take i).sum, .int .i64 ((ns.take i).countP iW : Nat), .int .i64 last, .int .i64 i) /\ i <= ns.length /\ Rx ns i last /\ last <= i /\ w' = w) ns.length
  ⟨0, 0, rfl, by simp, by omega, .inl ⟨rfl, fun j h => by omega⟩, by omega, rfl⟩ ?_
 rintro m t w1 ⟨i, last, rfl, rfl, hi, hla, hli, rfl⟩
 unfold FX Nv
 by_cases hlt : i < ns.length
 .have d1 : decide ((i : Int) < (ns.length : Int)) = true := by simp; omega
  obtain ⟨b, off, rfl, hcell⟩ := slA hs (by omega)
  have g1 := hcell i hlt
  rw [aH9, aHQ hlt, <- mL hlt] at g1
  simp only [aIu] at g1
  have hni : ns.getD i 0 <= 4294967295 := by rw [mL hlt]; exact hn _ (aH1 hlt)
  have hsl := azF (B := 4294967295) (l := ns.take i) fun n hn' => hn n (List.mem_of_mem_take hn')
  rw [aHZ, aIA (by omega)] at hsl
  have hsl2 : i * 4294967295 <= 300 * 4294967295 := aIp _ (by omega)
  have hct : (ns.take i).countP iW <= i := by
   have := aJD (l := ns.take i) (p := iW)
   rw [aHZ] at this; omega
  have hsum : (ns.take (i + 1)).sum = (ns.take i).sum + ns.getD i 0 := by rw [Ri hlt, aJK]; simp
  have hcnt : (ns.take (i + 1)).countP iW = (ns.take i).countP iW + (if 0 < ns.getD i 0 then 1 else 0) := by
   rw [Ri hlt, List.countP_append, List.countP_singleton]
   unfold iW; simp only [decide_eq_true_eq]
  have hstep := hla.step
  generalize ns.getD i 0 = n at *
  have e1 : (((ns.take i).sum : Nat) : Int) + (n : Int) = (((ns.take i).sum + n : Nat) : Int) := by omega
  by_cases h0 : 0 < n
  .have d2 : decide ((0 : Int) < (n : Int)) = true := by simp; omega
   rw [if_pos h0] at hcnt hstep
   unfold AR
   simp (disch := omega) only [aC, aX, d1, vX, aHH, bM, aT, aA, rT, g1, aI, nS, hP, dM, d2, aF, e1, and_true]
   exact ⟨ns.length - (i + 1), by omega, i + 1, i, rfl, by rw [hsum, hcnt] <;> rfl, by omega, hstep, by omega⟩
  .have d2 : decide ((0 : Int) < (n : Int)) = false := by simp; omega
   rw [if_neg h0] at hcnt hstep
   unfold AR
   simp (disch := omega) only [aC, aX, d1, vX, aHH, bM, aT, aA, rT, g1, aI, nS, hP, dM, d2, aE, e1, and_true, aF]
   exact ⟨ns.length - (i + 1), by omega, i + 1, last, rfl, by rw [hsum, hcnt] <;> rfl, by omega, hstep, by omega⟩
 .have d1 : decide ((i : Int) < (ns.length : Int)) = false := by simp; omega
  obtain rfl : i = ns.length := by omega
  rw [aIe (aHS _)]
  simp (disch := omega) only [aC, aX, d1, bM, aA, aE]
  exact hK last hla
def acM (R S last i : Nat) (ns : List Nat) : List Nat := (ns.take i).map (qQ R S) ++ List.replicate (last + 1 - i) 0
theorem Ux {R S last i : Nat} {ns : List Nat} (h : i <= last + 1) (hl : last < ns.length) : (acM R S last i ns).length = last + 1 := by
 unfold acM; rw [aHR, aHU, aHZ, aI4]; omega
theorem aaK {R S last i j : Nat} {ns : List Nat} (h : i <= last + 1) (hl : last < ns.length) (hj : j <= last) : (acM R S last i ns)[j]? = some (if j < i then qQ R S (ns.getD j 0) else 0) := by
 unfold acM
 by_cases hji : j < i
 .rw [aHW (by rw [aHU, aHZ]; omega), aH9, aIl hji, aHQ (by omega), if_pos hji, mL (by omega)] <;> rfl
 .rw [aIn (by rw [aHU, aHZ]; omega), aJt, if_pos (by rw [aHU, aHZ]; omega), if_neg hji]
theorem awZ {R S last i : Nat} {ns : List Nat} (h : i <= last) (hl : last < ns.length) : (acM R S last i ns).set i (qQ R S (ns.getD i 0)) = acM R S last (i + 1) ns := by
 unfold acM
 have hm : ((ns.take i).map (qQ R S)).length = i := by rw [aHU, aHZ]; omega
 rw [aJm _ _ (by omega), hm, aJk, show last + 1 - i = (last + 1 - (i + 1)) + 1 from by omega, aIH, aHL, Ri (by omega), aIo, aHV] <;> rfl
theorem aBO {R S last i : Nat} {ns : List Nat} (h : i <= last) (hl : last < ns.length) (h0 : ns.getD i 0 = 0) : acM R S last (i + 1) ns = acM R S last i ns := by
 rw [<- awZ h hl, h0]
 have hp : qQ R S 0 = 0 := by simp [qQ]
 rw [hp]
 apply aJR
 intro j
 rw [List.getElem?_set]
 split
 .rename_i hj
  subst hj
  rw [if_pos (by rw [Ux (by omega) hl]; omega), aaK (by omega) hl h, if_neg (by omega)]
 .rfl
abbrev pnC (R S last i : Nat) (ns : List Nat) : List aJ3 := (acM R S last i ns).map fun (n : Nat) => Value.int .i64 n
theorem aDM {pc pb log there last : Nat} {ov t4 : aJ3} {ns : List Nat} {w : aJ2} (hs : Sl w ov (ns.map fun (n : Nat) => Value.int .u32 n)) (hn : ∀ n ∈ ns, n <= 4294967295) (hl : last < ns.length) (hl2 : ns.length <= 256) (hlog : log <= 15) (hth : there <= 2 ^ log) (hS0 : 0 < ns.sum) (hS : ns.sum <= 2147483647)
 (hlast : 0 < ns.getD last 0) (oc : cJ w pc [.int .i64 log, .slice (some ⟨pb, 0, none⟩) (last + 1) (last + 1)]) (ob : cJ w pb (pnC (2 ^ log - there) ns.sum last 0 ns)) (hne : pc ≠ pb) (hat : ¬ inB ov (fun y => y = pb)) {RR : aJ3 -> aJ2 -> Prop}
 (hK : ∀ (left gr : Nat) w', left + ((ns.take (last + 1)).map (sH (2 ^ log - there) ns.sum)).sum = 2 ^ log - there -> gr <= last -> 0 < ns.getD gr 0 -> cJ w' pb (pnC (2 ^ log - there) ns.sum last (last + 1) ns) -> aS w w' (fun y => y = pb) -> DK RR t4 (.pointer (some ⟨pc, 0, none⟩)) (.int .i64 left) (.int .i64 gr) w') :
 I1 RR ov (.int .i64 log) t4 (.int .u64 ns.sum) (.int .i64 there) (.int .i64 last) (.pointer (some ⟨pc, 0, none⟩)) (.int .i64 (2 ^ log - there : Nat)) (.int .i64 last) w := by
 have hp15 : 2 ^ log <= 2 ^ 15 := aHT (by omega) hlog
 obtain ⟨a, c, hv, hc⟩ := hs.len
 rw [aHU] at hv hc
 subst hv
 obtain ⟨b0, off0, rfl, hcell⟩ := slA hs (by omega)
 have hsub : Sl w (.slice (some ⟨b0, off0, none⟩) (last + 1) c) ((ns.map fun (n : Nat) => Value.int .u32 n).take (last + 1)) := aDH hs (by omega)
 have hshl := atZ (n := log) (by omega)
 generalize hR : 2 ^ log - there = R at *
 have hRl : R <= 32768 := by omega
 generalize hSe : ns.sum = S at *
 unfold I1 Qu QY
 have e1 : (last : Int) + 1 = ((last + 1 : Nat) : Int) := by omega
 have e2 : iH (some ⟨b0, off0, none⟩) c 0 1 = some ⟨b0, off0, none⟩ := by have := aAq (b := b0) (o := off0) (m := c) (l := 0) (by omega); simpa using this
 simp (disch := omega) only [aC, bM, e1, aT, aA, Hk, e2, aHH, aJN, fX]
 unfold Ro Qo
 have hmsum : ∀ i, i <= ns.length -> ((ns.take i).map (sH R S)).sum <= R := fun i hi => by
  refine aiQ ?_ hS0
  have : ns.sum = (ns.take i).sum + (ns.drop i).sum := by rw [<- aJK, aJb]
  omega
 refine cG.rule (fun m (t : aJ3 × aJ3 × aJ3) w' => ∃ left gr i : Nat, m = last + 1 - i /\ t = (.int .i64 left, .int .i64 gr, .int .i64 i) /\ i <= last + 1 /\ left + ((ns.take i).map (sH R S)).sum = R /\ gr <= last /\ 0 < ns.getD gr 0 /\ cJ w' pb (pnC R S last i ns) /\ aS w w' (fun y => y = pb)) (last + 1)
  ⟨R, last, 0, rfl, rfl, by omega, by simp, by omega, hlast, ob, aS.refl _ _⟩ ?_
 rintro m t w1 ⟨left, gr, i, rfl, rfl, hi, hleft, hgr, hgr0, ob1, x1⟩
 unfold IS Qe
 by_cases hlt : i < last + 1
 .have d1 : decide ((i : Int) < ((last + 1 : Nat) : Int)) = true := by simp only [decide_eq_true_eq]; omega
  have hs1 := hs.ext x1 hat
  obtain ⟨b1, off1, he, hcell1⟩ := slA hs1 (by omega)
  cases he
  have g1 := hcell1 i (by omega)
  rw [aH9, aHQ (by omega), <- mL (by omega)] at g1
  simp only [aIu] at g1
  have hni : ns.getD i 0 <= 4294967295 := by rw [mL (by omega)]; exact hn _ (aH1 (by omega))
  have hmore : ((ns.take (i + 1)).map (sH R S)).sum = ((ns.take i).map (sH R S)).sum + sH R S (ns.getD i 0) := by rw [Ri (by omega), aIo, aJK]; simp
  have hml := hmsum (i + 1) (by omega)
  have hset := awZ (R := R) (S := S) (i := i) (by omega) hl
  have hzero := aBO (R := R) (S := S) (i := i) (by omega) hl
  have hgi := aaK (R := R) (S := S) (i := i + 1) (j := i) (by omega) hl (by omega)
  have hgg := aaK (R := R) (S := S) (i := i + 1) (j := gr) (by omega) hl hgr
  have hpl := Ux (R := R) (S := S) (i := i) (by omega) hl
  rw [if_pos (by omega)] at hgi
  unfold I7
  generalize hgrv : (if gr < i + 1 then qQ R S (ns.getD gr 0) else 0) = pv at *
  generalize hnv : ns.getD i 0 = n at *
  by_cases h0 : n = 0
  .subst h0
   have n1 : (((0 : Nat) : Int) == 0) = true := rfl
   have hm0 : sH R S 0 = 0 := by simp [sH]
   rw [hm0] at hmore
   simp (disch := omega) only [aC, aX, d1, vX, aHH, bM, aT, aA, mN, bK, aHI, true_and, cL, eA, fY, hP, rT, g1, aI, cR, n1, nS, pS, Ee, cZ, aF]
   exact ⟨last + 1 - (i + 1), by omega, left, gr, i + 1, rfl, rfl, by omega, by omega, hgr, hgr0, by unfold pnC; rw [hzero rfl]; exact ob1, x1⟩
  .have n1 : ((n : Int) == 0) = false := beq_eq_false_iff_ne.2 (by omega)
   have e3 : ((2 ^ log : Nat) : Int) - (there : Int) = (R : Int) := by omega
   have hnR : n * R <= 4294967295 * 32768 := Nat.mul_le_mul hni hRl
   have e4 : (n : Int) * (R : Int) = ((n * R : Nat) : Int) := by simp
   have e5 : ((n * R : Nat) : Int).tdiv (S : Int) = ((sH R S n : Nat) : Int) := by
    rw [aId (by omega)]; unfold sH; simp
   have n2 : ((S : Int) == 0) = false := beq_eq_false_iff_ne.2 (by omega)
   have hp : qQ R S n = 1 + sH R S n := by unfold qQ sH; rw [if_neg h0]
   have hml2 : sH R S n <= R := by omega
   rw [hp] at hset hgi
   have c1 := (oc.ext x1 hne).cell (off := 1)
   simp only [aHJ, aHK] at c1
   generalize sH R S n = q at *
   have e6 : (1 : Int) + (q : Int) = ((1 + q : Nat) : Int) := by omega
   have e7 : (left : Int) - (q : Int) = ((left - q : Nat) : Int) := by omega
   simp (disch := omega) only [aC, aX, d1, vX, aHH, bM, aT, aA, mN, hshl, bK, aHI, true_and, cL, eA, e3, fY, hP, rT, g1, aI, cR, n1, nS, pS, e4, Ee, e5, cZ, e6, c1, dJ, aE, aF]
   refine tA ob1 rfl (by rw [aHU, hpl]; omega) fun w2 ob2 x2 s2 => ?_
   have hset2 : (pnC R S last i ns).set i (.int .i64 (1 + q : Nat)) = pnC R S last (i + 1) ns := by unfold pnC; rw [<- hset, aJl]
   rw [hset2] at ob2
   have x12 := x1.seq x2
   have c2 := (oc.ext x12 hne).cell (off := 1)
   have c2d := (dN (oc.ext x12 hne)).cell (off := 1)
   simp only [aHJ, aHK] at c2 c2d
   have f1 := (dN ob2).cell (off := i)
   have f2 := (dN ob2).cell (off := gr)
   unfold pnC at f1 f2
   rw [aH9, hgi] at f1
   rw [aH9, hgg] at f2
   simp only [aIu] at f1 f2
   have hpv : pv <= 1 + R := by
    rw [<- hgrv]
    split
    .unfold qQ
     split
     .omega
     .have h1 : sH R S (ns.getD gr 0) <= R := by
       refine aIM ?_ (hmsum ns.length (aHS _))
       rw [aIe (aHS _)]
       have : sH R S (ns.getD gr 0) ∈ ns.map (sH R S) := aIx.2 ⟨_, by rw [mL (by omega)]; exact aH1 _, rfl⟩
       exact atW this
      unfold sH at h1
      omega
    .omega
   have x13 : aS w (dr w2) (fun y => y = pb) := x12.seq (aS.dr _ _)
   by_cases hbig : pv < 1 + q
   .have d2 : decide ((pv : Int) < ((1 + q : Nat) : Int)) = true := by simp only [decide_eq_true_eq]; omega
    simp (disch := omega) only [c2d, aI, e7, aA, dJ, aHH, aHI, cA, f2, true_and, f1, dM, d2, aF]
    exact ⟨last + 1 - (i + 1), by omega, left - q, i, i + 1, rfl, rfl, by omega, by omega, by omega, by omega, dN ob2, x13⟩
   .have d2 : decide ((pv : Int) < ((1 + q : Nat) : Int)) = false := by simp only [decide_eq_false_iff_not]; omega
    simp (disch := omega) only [c2d, aI, e7, aA, dJ, aHH, aHI, cA, f2, true_and, f1, dM, d2, aE]
    exact ⟨last + 1 - (i + 1), by omega, left - q, gr, i + 1, rfl, rfl, by omega, by omega, hgr, hgr0, dN ob2, x13⟩
 .have d1 : decide ((i : Int) < ((last + 1 : Nat) : Int)) = false := by simp only [decide_eq_false_iff_not]; omega
  obtain rfl : i = last + 1 := by omega
  simp (disch := omega) only [aC, aX, d1, mN, aHH, bK, aHI, true_and, aA, cL, eA, aT, fY, hP, aE]
  exact hK left gr w1 hleft hgr hgr0 ob1 x1
theorem anL {p4 : Nat} {w0 w : aJ2} (o4 : cJ w p4 [.int .i64 0, .slice none 0 0]) (hx : aS w0 w cM) (hp : w0.heap.size <= p4) {RR : aJ3 -> aJ2 -> Prop}
 (hR : ∀ w', aS w0 w' cM -> RR (.tuple #[.agg #[.int .i64 0, .slice none 0 0], .int .i64 1]) w') :
 aC pg (aJ 145 (.pointer (some ⟨p4, 0, none⟩)) (.agg #[.int .i64 0, .slice none 0 0])) w fun _u w => kI pg 145 (.pointer (some ⟨p4, 0, none⟩)) w fun r0 => RR (.tuple #[r0, .int .i64 1]) w := by
 refine fB o4 rfl (by simp [one]) (by simp) fun w6 o6 x6 s6 => ?_
 refine lI o6 (by simp [aV]) ?_
 simp only [aV, aHL, aHN, aHM, aHG, aHO]
 exact hR _ (hx.new x6 hp)
def aCE (w : aJ2) (base : Nat) (log : Int) (ns : List Nat) (r : aJ3) : Prop :=
 (asN log ns = false /\ r = .tuple #[.agg #[.int .i64 0, .slice none 0 0], .int .i64 1]) ∨
 (asN log ns = true /\ ∃ (l last pb : Nat) (ps : List Nat), log = l /\ Rx ns ns.length last /\ Sk l (ps.map fun (n : Nat) => (n : Int)) /\ ps.length = last + 1 /\ last < ns.length /\ (∀ i, i < last + 1 -> (0 < ps.getD i 0 ↔ 0 < ns.getD i 0)) /\
  r = .tuple #[.agg #[.int .i64 l, .slice (some ⟨pb, 0, none⟩) (last + 1) (last + 1)], .int .i64 0] /\ base <= pb /\ cJ w pb (ps.map fun (n : Nat) => Value.int .i64 n))
theorem anB {ov : aJ3} {log : Int} {ns : List Nat} {w : aJ2} (hs : Sl w ov (ns.map fun (n : Nat) => Value.int .u32 n)) (hn : ∀ n ∈ ns, n <= 4294967295) (hl : ns.length <= 300) :
 aR pg Cs #[ov, .int .i64 log] w (fun r w' => aCE w' w.heap.size log ns r /\ aS w w' cM) := by
 refine amT ?_
 obtain ⟨RR, hRR⟩ : ∃ RR : aJ3 -> aJ2 -> Prop, RR = fun r w' => aCE w' w.heap.size log ns r /\ aS w w' cM := ⟨_, rfl⟩
 rw [<- hRR]
 have bad : asN log ns = false -> ∀ w', aS w w' cM -> RR (.tuple #[.agg #[.int .i64 0, .slice none 0 0], .int .i64 1]) w' := fun h w' hx => by
  rw [hRR]; exact ⟨.inl ⟨h, rfl⟩, hx⟩
 unfold arD M9 Nu
 refine iT fun w1 o1 x1 s1 => ?_
 have z1 := x1.size
 have hs1 := hs.ext x1 (cB _)
 refine aDq hs1 hn hl fun last hlast => ?_
 unfold FL MV
 obtain ⟨a, c, hv, hc⟩ := hs.len
 rw [aHU] at hv hc
 subst hv
 have no : ¬ (5 <= log /\ log <= 15 /\ ns.length <= 256 /\ 2 <= ns.countP iW /\ ns.countP iW <= 2 ^ log.toNat /\ ns.sum <= 2147483647) -> asN log ns = false := fun h => by unfold asN; exact decide_eq_false h
 have hcl : ns.countP iW <= ns.length := aJD
 have hsl := azF (B := 4294967295) hn
 have hsl2 : ns.length * 4294967295 <= 300 * 4294967295 := aIp _ (by omega)
 by_cases h1 : log < 5
 .have d1 : decide (log < 5) = true := by simpa using h1
  simp (disch := omega) only [aC, aX, d1, dY, aA, bM, jE, bN, if_true, aF, dV]
  exact anL (RR := RR) o1 x1 (aHS _) (bad (no (by omega)))
 have d1 : decide (log < 5) = false := by simpa using h1
 by_cases h2 : 15 < log
 .have d2 : decide (15 < log) = true := by simpa using h2
  simp (disch := omega) only [aC, aX, d1, dY, aA, bM, mN, eA, dB, bN, aHP, if_false, bP, dM, d2, jE, if_true, aF, dV]
  exact anL (RR := RR) o1 x1 (aHS _) (bad (no (by omega)))
 have d2 : decide (15 < log) = false := by simpa using h2
 by_cases h3 : ns.length < 1
 .have d3 : decide ((ns.length : Int) < 1) = true := by simp; omega
  simp (disch := omega) only [aC, aX, d1, dY, aA, bM, mN, eA, dB, bN, aHP, if_false, bP, dM, d2, fX, d3, jE, if_true, aF, dV]
  exact anL (RR := RR) o1 x1 (aHS _) (bad (no (by omega)))
 have d3 : decide ((ns.length : Int) < 1) = false := by simp; omega
 by_cases h4 : 256 < ns.length
 .have d4 : decide ((256 : Int) < (ns.length : Int)) = true := by simp; omega
  simp (disch := omega) only [aC, aX, d1, dY, aA, bM, mN, eA, dB, bN, aHP, if_false, bP, dM, d2, fX, d3, d4, jE, if_true, aF, dV]
  exact anL (RR := RR) o1 x1 (aHS _) (bad (no (by omega)))
 have d4 : decide ((256 : Int) < (ns.length : Int)) = false := by simp; omega
 by_cases h5 : ns.countP iW < 2
 .have d5 : decide (((ns.countP iW : Nat) : Int) < 2) = true := by simp only [decide_eq_true_eq]; omega
  simp (disch := omega) only [aC, aX, d1, dY, aA, bM, mN, eA, dB, bN, aHP, if_false, bP, dM, d2, fX, d3, d4, d5, jE, if_true, aF, dV]
  exact anL (RR := RR) o1 x1 (aHS _) (bad (no (by omega)))
 have d5 : decide (((ns.countP iW : Nat) : Int) < 2) = false := by simp only [decide_eq_false_iff_not]; omega
 obtain ⟨l, rfl⟩ : ∃ l : Nat, log = l := ⟨log.toNat, by omega⟩
 have hshl := atZ (n := l) (by omega)
 have hp15 : 2 ^ l <= 2 ^ 15 := aHT (by omega) (by omega)
 rw [aHH] at no
 by_cases h6 : 2 ^ l < ns.countP iW
 .have d6 : decide (((2 ^ l : Nat) : Int) < ((ns.countP iW : Nat) : Int)) = true := by simp only [decide_eq_true_eq]; omega
  simp (disch := omega) only [aC, aX, d1, dY, aA, bM, mN, aHH, hshl, eA, dB, bN, aHP, if_false, bP, dM, d2, fX, d3, d4, d5, d6, jE, if_true, aF, dV]
  exact anL (RR := RR) o1 x1 (aHS _) (bad (no (by omega)))
 have d6 : decide (((2 ^ l : Nat) : Int) < ((ns.countP iW : Nat) : Int)) = false := by simp only [decide_eq_false_iff_not]; omega
 by_cases h7 : 2147483647 < ns.sum
 .have d7 : decide ((2147483647 : Int) < ((ns.sum : Nat) : Int)) = true := by simp only [decide_eq_true_eq]; omega
  simp (disch := omega) only [aC, aX, d1, dY, aA, bM, mN, aHH, hshl, eA, aT, dB, bN, aHP, if_false, bP, dM, d2, fX, d3, d4, d5, d6, d7, aF]
  exact anL (RR := RR) o1 x1 (aHS _) (bad (no (by omega)))
 have d7 : decide ((2147483647 : Int) < ((ns.sum : Nat) : Int)) = false := by simp only [decide_eq_false_iff_not]; omega
 have hok : asN (l : Int) ns = true := by unfold asN; rw [aHH]; exact decide_eq_true (by omega)
 have hl2 : last < ns.length /\ 0 < ns.getD last 0 := by
  rcases hlast with ⟨rfl, h⟩ | ⟨q1, q2, _⟩
  .exfalso
   have : ns.countP iW = 0 := CD fun n hn => by
    obtain ⟨i, hi, rfl⟩ := aIf hn
    rw [<- mL hi]; exact h i hi
   omega
  .exact ⟨q1, q2⟩
 have hS0 : 0 < ns.sum := by
  have := atW (l := ns) (n := ns.getD last 0) (by rw [mL hl2.1]; exact aH1 _)
  omega
 have e1 : (last : Int) + 1 = ((last + 1 : Nat) : Int) := by omega
 simp (disch := omega) only [aC, aX, d1, dY, aA, bM, e1, aT, mN, aHH, hshl, eA, dB, bN, aHP, if_false, bP, dM, d2, fX, d3, d4, d5, d6, d7, aE]
 refine asD (by omega) (by omega) fun w2 o2 x2 s2 => ?_
 rw [aHH] at o2 ⊢
 simp (disch := omega) only [mH, aA]
 refine iT fun w3 o3 x3 s3 => ?_
 refine fB o3 rfl (by simp [one]) (by simp) fun w4 o4 x4 s4 => ?_
 simp only [aV, aHL, aHN] at o4
 have z2 := x2.size
 have z3 := x3.size
 have x14 : aS w1 w4 cM := (x2.seq x3).new x4 (by omega)
 have e2 : ((2 ^ l : Nat) : Int) - ((ns.countP iW : Nat) : Int) = ((2 ^ l - ns.countP iW : Nat) : Int) := by omega
 have l2 := o2.lt
 have hpb : pnC (2 ^ l - ns.countP iW) ns.sum last 0 ns = List.replicate (last + 1) (Value.int .i64 0) := by
  unfold pnC acM
  simp [aJO]
 have ob4 : cJ w4 w1.heap.size (pnC (2 ^ l - ns.countP iW) ns.sum last 0 ns) := by
  rw [hpb]; exact (o2.ext x3 (fun h => h)).ext x4 (by omega)
 simp (disch := omega) only [e2]
 refine aDM (pc := w2.heap.size) (pb := w1.heap.size) (hs1.ext x14 (cB _)) hn hl2.1 (by omega) (by omega) (by omega) hS0 (by omega) hl2.2 o4 ob4 (by omega) (fun h => hs.old (axV h fun b hb => by omega)) fun left gr w5 hleft hgr hgr0 ob5 x5 => ?_
 unfold DK
 have o45 := o4.ext x5 (by omega)
 have c5 := o45.cell (off := 1)
 simp only [aHJ, aHK] at c5
 have hgg := aaK (R := 2 ^ l - ns.countP iW) (S := ns.sum) (i := last + 1) (j := gr) (by omega) hl2.1 hgr
 rw [if_pos (by omega)] at hgg
 have f1 := ob5.cell (off := gr)
 unfold pnC at f1
 rw [aH9, hgg] at f1
 simp only [aIu] at f1
 obtain ⟨hmay, hofl, _, hiff⟩ := aGg (log := l) (there := ns.countP iW) (left := left) (gr := gr) (by omega) (by omega) (by omega) rfl (by omega) (by omega) hlast hgr hgr0 hleft
 have hpq : acM (2 ^ l - ns.countP iW) ns.sum last (last + 1) ns = (ns.take (last + 1)).map (qQ (2 ^ l - ns.countP iW) ns.sum) := by
  unfold acM; rw [aJk]; simp
 have hgd : ((ns.take (last + 1)).map (qQ (2 ^ l - ns.countP iW) ns.sum)).getD gr 0 = qQ (2 ^ l - ns.countP iW) ns.sum (ns.getD gr 0) := by
  rw [hpq] at hgg
  rw [aHX, hgg] <;> rfl
 have hset : (pnC (2 ^ l - ns.countP iW) ns.sum last (last + 1) ns).set gr (.int .i64 (qQ (2 ^ l - ns.countP iW) ns.sum (ns.getD gr 0) + left : Nat)) = (Bp l (ns.countP iW) ns.sum last gr left ns).map fun (n : Nat) => Value.int .i64 n := by
  unfold pnC Bp
  rw [hpq, hgd, aJl]
 have hpl := Ux (R := 2 ^ l - ns.countP iW) (S := ns.sum) (i := last + 1) (by omega) hl2.1
 have hpb : qQ (2 ^ l - ns.countP iW) ns.sum (ns.getD gr 0) + left <= 70000 := by
  have hq := aiQ (R := 2 ^ l - ns.countP iW) (S := ns.sum) (l := ns) (aHS _) hS0
  have hq2 := atW (n := sH (2 ^ l - ns.countP iW) ns.sum (ns.getD gr 0)) (l := ns.map (sH (2 ^ l - ns.countP iW) ns.sum)) (aIx.2 ⟨_, by rw [mL (by omega)]; exact aH1 _, rfl⟩)
  have hq3 : qQ (2 ^ l - ns.countP iW) ns.sum (ns.getD gr 0) <= 1 + sH (2 ^ l - ns.countP iW) ns.sum (ns.getD gr 0) := by
   unfold qQ sH
   split
   .exact aIT _
   .exact aHS _
  omega
 generalize qQ (2 ^ l - ns.countP iW) ns.sum (ns.getD gr 0) = pv at *
 have e3 : (pv : Int) + (left : Int) = ((pv + left : Nat) : Int) := by omega
 simp (disch := omega) only [aC, bK, aHI, aA, cL, c5, aI, dJ, aHH, cA, f1, bM, e3, aT]
 refine tA ob5 rfl (by rw [aHU, hpl]; omega) fun w6 ob6 x6 s6 => ?_
 rw [hset] at ob6
 have o46 := o45.ext x6 (by omega)
 have lc := gH (off := 0) o46 (by simp)
 simp only [aHM, aHG, aHO] at lc
 have o16 := ((o1.ext x14 (fun h => h)).ext x5 (by omega)).ext x6 (by omega)
 simp (disch := omega) only [lc, aA]
 refine fB o16 rfl (by simp [one]) (by simp) fun w7 o7 x7 s7 => ?_
 refine lI o7 (by simp [aV]) ?_
 simp only [aV, aHL, aHN, aHM, aHG, aHO]
 rw [hRR]
 refine ⟨.inr ⟨hok, l, last, w1.heap.size, _, rfl, hlast, hmay, hofl, hl2.1, hiff, rfl, z1, ob6.ext x7 (by omega)⟩, ?_⟩
 have x06 : aS w w6 cM := ((x1.seq x14).trans x5 fun b hb h => by omega).trans x6 fun b hb h => by omega
 exact x06.new x7 (aHS _)
abbrev cN (S : List Int) : List aJ3 := (LZ S).map fun (n : Nat) => Value.int .u32 n
abbrev aDB : aJ3 := .agg #[.int .i64 0, .slice none 0 0]
theorem aF7 {S : List Int} {c : Nat} (h : c < 256) : (cN S)[c]? = some (.int .u32 (S.count (c : Int) : Nat)) := by
 rw [aH9, aHQ (by rw [qW]; exact h), <- mL, UO h] <;> rfl
theorem aGk {S : List Int} {c : Nat} (h : c < 256) : (cN S).set c (.int .u32 ((S.count (c : Int) + 1 : Nat))) = cN (S ++ [(c : Int)]) := by
 show _ = (LZ (S ++ [(c : Int)])).map _
 rw [axH h, aJl]
theorem asC {p : Nat} {w0 w : aJ2} {x : Int} {a : Option Addr} {k c : Nat} {n e f : aJ3} (o : cJ w p [.int .i64 0, .slice none 0 0]) (hx : aS w0 w cM) (hp : w0.heap.size <= p) {RR : aJ3 -> aJ2 -> Prop}
 (hR : ∀ w', aS w0 w' cM -> aS w w' (fun y => y = p) -> RR (.tuple #[.agg #[.int .i64 x, .slice a k c], n, e, f]) w') :
 aC pg (aJ 27 (.pointer (some ⟨p, 0, none⟩)) (.agg #[.int .i64 x, .slice a k c])) w fun _u w => kI pg 27 (.pointer (some ⟨p, 0, none⟩)) w fun r0 => RR (.tuple #[r0, n, e, f]) w := by
 refine eJ o rfl (by simp [one]) (by simp) fun w6 o6 x6 s6 => ?_
 refine qE o6 (by simp [aV]) ?_
 simp only [aV, aHL, aHN, aHM, aHG, aHO]
 exact hR _ (hx.new x6 hp) x6
theorem aFJ {a : Int} {lv : aJ3} {l : List Int} {p4 po : Nat} {last : Int} {w0 w : aJ2} (hs : Sl w0 lv (l.map (Value.int .i64))) (hx : aS w0 w cM) (hp4 : w0.heap.size <= p4) (hpo : w0.heap.size <= po) (hne : p4 ≠ po)
 (o4 : cJ w p4 [.int .i64 0, .slice none 0 0]) (oo : cJ w po (cN [])) (hl0 : 0 <= last) (hl1 : last <= 60) (hlen : l.length <= 131072) {RR : aJ3 -> aJ2 -> Prop} {kn : aJ3 -> aJ3 -> aJ3 -> aJ3 -> aJ3 -> aJ3 -> aJ2 -> Prop}
 (hbad : (∃ x ∈ l, ¬ (0 <= x /\ x <= last)) -> ∀ w', aS w0 w' cM -> RR (.tuple #[aDB, .int .i64 0, .slice none 0 0, .int .i64 1]) w')
 (hK : (∀ x ∈ l, 0 <= x /\ x <= last) -> ∀ w', cJ w' p4 [.int .i64 0, .slice none 0 0] -> cJ w' po (cN l) -> aS w0 w' cM →
  kn (.int .i64 a) lv (.pointer (some ⟨p4, 0, none⟩)) (.pointer (some ⟨po, 0, none⟩)) (.int .i64 ((LZ l).countP iW : Nat)) (.int .i64 (gmx l)) w') :
 Ac kn RR (.int .i64 a) lv (.pointer (some ⟨p4, 0, none⟩)) (.int .i64 last) (.pointer (some ⟨po, 0, none⟩)) (.int .i64 0) (.int .i64 0) w := by
 unfold Ac EK
 obtain ⟨la, lc, rfl, _⟩ := hs.lenI
 simp (disch := omega) only [aC, eB, aA]
 unfold Fa Fh
 refine cG.rule (fun m (t : aJ3 × aJ3 × aJ3) w' => ∃ i : Nat, m = l.length - i /\ t = (.int .i64 ((LZ (l.take i)).countP iW : Nat), .int .i64 (gmx (l.take i)), .int .i64 i) /\ i <= l.length /\ (∀ x ∈ l.take i, 0 <= x /\ x <= last) /\
  cJ w' po (cN (l.take i)) /\ aS w w' (fun y => y = po)) l.length ⟨0, rfl, ?_, by omega, by simp, by rw [aHO]; exact oo, aS.refl _ _⟩ ?_
 .rw [aHO, atO, CD (fun n hn => aJs hn)] <;> rfl
 rintro m t w1 ⟨i, rfl, rfl, hi, hok, o1, x1⟩
 have x01 : aS w0 w1 cM := hx.new x1 hpo
 have z1 := x01.size
 have o41 := o4.ext x1 (by omega)
 unfold Ae Er
 by_cases hlt : i < l.length
 .have d1 : decide ((i : Int) < (l.length : Int)) = true := by simp; omega
  obtain ⟨lb, off, rfl, hcell⟩ := slA (hs.ext x01 (cB _)) (by omega)
  have g1 := hcell i hlt
  rw [aH9, aHQ hlt] at g1
  simp only [aIu] at g1
  have hmem : l[i] ∈ l := aH1 hlt
  have htk : l.take (i + 1) = l.take i ++ [l[i]] := by rw [aIr, aHQ hlt] <;> rfl
  generalize l[i] = x at *
  unfold EF Ez Pr Fl
  by_cases h0 : x < 0
  .have d2 : decide (x < 0) = true := by simpa using h0
   simp (disch := omega) only [aC, aX, d1, dJ, aHH, fJ, aA, bM, cA, g1, aI, d2, jE, bN, if_true, aF, dV]
   exact asC o41 x01 hp4 fun w' x' _ => hbad ⟨x, hmem, by omega⟩ w' x'
  have d2 : decide (x < 0) = false := by simpa using h0
  by_cases h1 : last < x
  .have d3 : decide (last < x) = true := by simpa using h1
   simp (disch := omega) only [aC, aX, d1, dJ, aHH, fJ, aA, bM, cA, g1, aI, d2, dB, bN, aHP, if_false, bP, dM, d3, aF]
   exact asC o41 x01 hp4 fun w' x' _ => hbad ⟨x, hmem, by omega⟩ w' x'
  have d3 : decide (last < x) = false := by simpa using h1
  obtain ⟨c, rfl⟩ : ∃ c : Nat, x = c := ⟨x.toNat, by omega⟩
  have f1 := o1.cell (off := c)
  rw [aF7 (by omega)] at f1
  have hcnt : (l.take i).count (c : Int) <= i := by
   have := aJ1 (a := (c : Int)) (l := l.take i)
   rw [aHZ] at this; omega
  have hset := aGk (S := l.take i) (c := c) (by omega)
  have hon : (LZ (l.take (i + 1))).countP iW = (LZ (l.take i)).countP iW + if (l.take i).count (c : Int) = 0 then 1 else 0 := by
   rw [htk, axH (by omega), Wm (by rw [qW]; omega) (by omega), UO (by omega)]
  have hgm : gmx (l.take (i + 1)) = max (gmx (l.take i)) (c : Int) := by rw [htk, aCP]
  have hok' : ∀ x ∈ l.take (i + 1), 0 <= x /\ x <= last := by
   rw [htk]; intro x hx'
   rcases aI2.1 hx' with h | h
   .exact hok x h
   .rw [aIW.1 h]; omega
  have hcb : (LZ (l.take i)).countP iW <= 256 := by
   have := aJD (l := LZ (l.take i)) (p := iW)
   rw [qW] at this; exact this
  have hgm2 : max (gmx (l.take i)) (c : Int) = if (c : Int) > gmx (l.take i) then (c : Int) else gmx (l.take i) := by omega
  rw [hgm2] at hgm
  rw [<- htk] at hset
  generalize (l.take i).count (c : Int) = q at *
  generalize hG : gmx (l.take i) = G at *
  generalize hG2 : gmx (l.take (i + 1)) = G2 at *
  have e1 : (q : Int) + 1 = ((q + 1 : Nat) : Int) := by omega
  simp (disch := omega) only [aC, aX, d1, dJ, aHH, fJ, aA, bM, aT, cA, g1, aI, d2, GW, aHI, rT, dB, bN, aHP, if_false, bP, dM, d3, f1, e1, Z2, aE, aF]
  refine EJ o1 rfl (by rw [aHU, qW]; omega) fun w2 o2 x2 s2 => ?_
  rw [hset] at o2
  have f2 := o2.cell (off := c)
  have f2' : (cN (l.take (i + 1)))[c]? = some (.int .u32 ((q + 1 : Nat))) := by
   rw [<- hset, List.getElem?_set_self (by rw [aHU, qW]; omega)]
  rw [f2'] at f2
  have x12 : aS w w2 (fun y => y = po) := x1.seq x2
  unfold zW zP
  by_cases hq : q = 0
  .have n1 : (((q + 1 : Nat) : Int) == 1) = true := by rw [hq] <;> rfl
   rw [if_pos hq] at hon
   simp (disch := omega) only [f2, aI, aC, aoW, bM, aT, aA, cR, n1, aF]
   refine ⟨l.length - (i + 1), by omega, i + 1, rfl, ?_, by omega, hok', o2, x12⟩
   rw [hon, hG2, hgm] <;> rfl
  .have n1 : (((q + 1 : Nat) : Int) == 1) = false := beq_eq_false_iff_ne.2 (by omega)
   rw [if_neg hq] at hon
   simp (disch := omega) only [f2, aI, aC, aoW, bM, aT, aA, cR, n1, aE]
   refine ⟨l.length - (i + 1), by omega, i + 1, rfl, ?_, by omega, hok', o2, x12⟩
   rw [hon, hG2, hgm] <;> rfl
 .have d1 : decide ((i : Int) < (l.length : Int)) = false := by simp; omega
  obtain rfl : i = l.length := by omega
  rw [aIe (aHS _)] at *
  simp (disch := omega) only [aC, aX, d1, aA, aE]
  exact hK hok w1 o41 o1 x01
structure XA (a : Int) (l : List Int) (mode : Int) (lg : Nat) (L : List T3) (bytes : List UInt8) : Prop where
 mode0 : 0 <= mode
 mode2 : mode <= 2
 read : ∀ T more, gG a mode (bytes ++ more) T = .ok ((lg, L), bytes.length)
 has : ∀ x ∈ l, ∃ e ∈ L, e.1 = x
 one : (∀ x ∈ l, ∀ y ∈ l, x = y) -> mode = 1 /\ L.length = 1
 len1 : mode = 1 -> bytes.length = 1
 tab : (∃ ps, Sk lg ps /\ L = kD lg ps) ∨ ∃ c : Int, 0 <= c /\ c <= 60 /\ lg = 0 /\ L = [(c, 0, 0)]
 log9 : lg <= 9
 blen : bytes.length <= 1000
theorem XA.len {a : Int} {l : List Int} {mode : Int} {lg : Nat} {L : List T3} {bytes : List UInt8} (h : XA a l mode lg L bytes) : L.length <= 512 := by
 rcases h.tab with ⟨ps, hm, rfl⟩ | ⟨c, _, _, rfl, rfl⟩
 .rw [jC]; exact aHT (by omega) h.log9
 .simp
theorem aFE {a : Int} (h : 0 <= a /\ a <= 2) : (∀ x ∈ gvP a, x ≠ 0) /\ Za a <= 6 /\ (gvP a).length <= 53 := by
 rcases (show a = 0 ∨ a = 1 ∨ a = 2 by omega) with rfl | rfl | rfl <;> decide
theorem ayE {a : Int} (h : 0 <= a /\ a <= 2) : 8 <= Dg a /\ Dg a <= 9 := by
 rcases (show a = 0 ∨ a = 1 ∨ a = 2 by omega) with rfl | rfl | rfl <;> decide
theorem aDn {a : Int} {l : List Int} {c : Nat} (ha : 0 <= a /\ a <= 2) (hc : (c : Int) <= mW a) (hc2 : c < 256) (h : ∀ x ∈ l, x = (c : Int)) : XA a l 1 0 [((c : Nat), 0, 0)] [UInt8.ofNat c] := by
 have hcc : ((UInt8.ofNat c).toNat : Nat) = c := by simp; omega
 have := KW ha
 refine ⟨by omega, by omega, fun T more => ?_, fun x hx => ⟨_, aIW.2 rfl, (h x hx).symm⟩, fun _ => ⟨rfl, rfl⟩, fun _ => rfl, .inr ⟨_, by omega, by omega, rfl, rfl⟩, by omega, by simp⟩
 unfold gG
 rw [if_neg (by omega), if_neg (by omega), if_pos rfl]
 show (if mW a < ((UInt8.ofNat c).toNat : Int) then _ else _) = _
 rw [hcc, if_neg (by omega)] <;> rfl
theorem aAg {a : Int} {l : List Int} (ha : 0 <= a /\ a <= 2) (h : ∀ x ∈ l, 0 <= x /\ x < ((gvP a).length : Nat)) (h1 : ¬ (∀ x ∈ l, ∀ y ∈ l, x = y)) : XA a l 0 (Za a) (kD (Za a) (gvP a)) [] := by
 obtain ⟨hnz, hl6, _⟩ := aFE ha
 have hm := aoL (a := a) (by omega)
 refine ⟨by omega, by omega, fun T more => ?_, fun x hx => ?_, fun h => absurd h h1, fun h => by omega, .inl ⟨_, hm, rfl⟩, by omega, by simp⟩
 .unfold gG
  rw [if_neg (by omega), if_pos rfl] <;> rfl
 .obtain ⟨h0, h2⟩ := h x hx
  obtain ⟨c, rfl⟩ : ∃ c : Nat, x = c := ⟨x.toNat, by omega⟩
  obtain ⟨i, hi, e⟩ := aoG hm (s := c) (by omega) (hnz _ (aH1 _))
  exact ⟨_, aH1 hi, e⟩
theorem aBW {a : Int} {l : List Int} {lg : Nat} {ps : List Int} {bytes : List UInt8} (ha : 0 <= a /\ a <= 2) (hm : Sk lg ps) (hh : agF (IJ lg ps) bytes) (hlg : (lg : Int) = Dg a) (hps : (ps.length : Int) <= mW a + 1) (h : ∀ x ∈ l, ∃ c : Nat, x = c /\ ∃ h : c < ps.length, ps[c] ≠ 0) (h1 : ¬ (∀ x ∈ l, ∀ y ∈ l, x = y)) :
 XA a l 2 lg (kD lg ps) bytes := by
 have hmo := ayE ha
 have hla := KW ha
 have hD := acY hm
 have hb := hh.len
 refine ⟨by omega, by omega, fun T more => ?_, fun x hx => ?_, fun h => absurd h h1, fun h => by omega, .inl ⟨_, hm, rfl⟩, by omega, by omega⟩
 .unfold gG
  rw [if_neg (by omega), if_neg (by omega), if_neg (by omega), if_neg (by omega), IX, hh.bits, aHV, aEB hm (by omega) (by omega)]
  show Except.ok _ = Except.ok _
  rw [hb]
 .obtain ⟨c, rfl, hc, hn⟩ := h x hx
  obtain ⟨i, hi, e⟩ := aoG hm (s := c) hc hn
  exact ⟨_, aH1 hi, e⟩
def Zl (a : Int) (l : List Int) : Prop := (0 <= a /\ a <= 2) /\ l ≠ [] /\ ∀ x ∈ l, 0 <= x /\ x <= mW a
theorem aF3 {a : Int} {l : List Int} {p4 po : Nat} {g : Nat} {w0 w : aJ2} (hx : aS w0 w cM) (hg : tR w0) (hp4 : w0.heap.size <= p4) (hpo : w0.heap.size <= po) (hne : p4 ≠ po)
 (o4 : cJ w p4 [.int .i64 0, .slice none 0 0]) (oo : cJ w po (cN l)) (ha : 0 <= a /\ a <= 2) (hlen : l.length <= 131072) (hok : ∀ x ∈ l, 0 <= x /\ x <= mW a) (hgm : gmx l = g) (hcnt : 2 <= (LZ l).countP iW) {RR : aJ3 -> aJ2 -> Prop}
 (hK : ∀ w' mode lg L bytes t v, GF w' w0.heap.size (lg, L) t -> rN w' w0.heap.size 1 v bytes.length (bytes.map GI) -> XA a l mode lg L bytes -> aS w0 w' cM -> RR (.tuple #[t, .int .i64 mode, v, .int .i64 0]) w') :
 wA RR (.int .i64 a) (.pointer (some ⟨p4, 0, none⟩)) (.pointer (some ⟨po, 0, none⟩)) (.int .i64 g) w := by
 have hmo := ayE ha
 have hla := KW ha
 obtain ⟨last, hlast⟩ : ∃ n : Nat, mW a = n := ⟨(mW a).toNat, by omega⟩
 obtain ⟨g', hg', hgl, hnl, hget, hle, hct⟩ := aAZ (S := l) (n := last) (by omega) (fun x hx => by have := hok x hx; omega)
 obtain rfl : g = g' := by omega
 obtain ⟨ns, hns⟩ : ∃ ns, ns = (LZ l).take (g + 1) := ⟨_, rfl⟩
 rw [<- hns] at hnl hget hct
 have hsum : ns.sum <= 131072 := by rw [hns]; have := atS l (g + 1) (by omega); omega
 have hmem : ∀ n ∈ ns, n <= 4294967295 := fun n hn => by
  rw [hns] at hn
  have := aGa l n (List.mem_of_mem_take hn); omega
 have hc53 : ns.countP iW <= 256 := by have := aJD (l := ns) (p := iW); omega
 have hp8 : 2 ^ 8 <= 2 ^ (Dg a).toNat := aHT (by omega) (by omega)
 have hofOk : asN (Dg a) ns = true := by
  unfold asN
  exact decide_eq_true ⟨by omega, by omega, by omega, by omega, by omega, by omega⟩
 have hno1 : ¬ (∀ x ∈ l, ∀ y ∈ l, x = y) := fun h => by
  cases l with
  | nil => rw [atO, CD (fun n hn => aJs hn)] at hcnt; omega
  | cons y l =>
    have hy := hok y (aIL ..)
    have := aA7 (S := y :: l) (c := y.toNat) (by omega) (fun x hx => by have := h x hx y (aIL ..); omega) (by simp)
    omega
 have hsh : uX ⟨po, 0, none⟩ 256 0 1 = ⟨po, 0, none⟩ := EB (by decide)
 have e1 : (g : Int) + 1 = ((g + 1 : Nat) : Int) := by omega
 have hsl : ∀ w', cJ w' po (cN l) -> Sl w' (.slice (some ⟨po, 0, none⟩) (g + 1) 256) (ns.map fun (n : Nat) => Value.int .u32 n) := fun w' o => by
  refine ⟨_, _, _, rfl, by rw [aHU]; exact hnl.symm, by omega, fun _ => ⟨_, _, rfl, fun i hi => ?_⟩⟩
  rw [o.cell, aHI, hns, aJu, aIl hi]
 unfold wA
 have fin : ∀ (w' : aJ2) (pc pb : Nat) (lg last : Nat) (ps : List Nat), aS w0 w' cM -> w0.heap.size <= pc -> pc ≠ p4 -> w0.heap.size <= pb -> cJ w' p4 [.int .i64 0, .slice none 0 0] -> (lg : Int) = Dg a -> Rx ns ns.length last -> Sk lg (ps.map fun (n : Nat) => (n : Int)) -> ps.length = last + 1 -> last < ns.length →
     (∀ i, i < last + 1 -> (0 < ps.getD i 0 ↔ 0 < ns.getD i 0)) -> cJ w' pc [.int .i64 lg, .slice (some ⟨pb, 0, none⟩) (last + 1) (last + 1)] -> cJ w' pb (ps.map fun (n : Nat) => Value.int .i64 n) →
     wG RR (.pointer (some ⟨p4, 0, none⟩)) (.pointer (some ⟨pc, 0, none⟩)) (.int .i64 0) w' := by
  intro w1 pc pb lg la ps x1 hpc hpc4 hpb o41 hlg hlast' hmay hpl hlan hiff oc ob
  unfold wG
  have n1 : ((0 : Int) != 0) = false := rfl
  have l1 := gH (off := 0) oc (by simp)
  simp only [aHM, aHG, aHO] at l1
  have hs1 : Sl w1 (.slice (some ⟨pb, 0, none⟩) (la + 1) (la + 1)) ((ps.map fun (n : Nat) => (n : Int)).map (Value.int .i64)) := by
   rw [List.map_map]
   exact ⟨_, _, _, rfl, by rw [aHU, hpl], aHS _, fun _ => ⟨_, _, rfl, fun i hi => by rw [ob.cell, aHI] <;> rfl⟩⟩
  simp (disch := omega) only [aC, eT, n1, fJ, aA, l1, aE]
  refine (avU hmay hs1).mono ?_
  rintro r w2 ⟨bytes, v, rfl, hh, ho, x2⟩
  have z1 := x1.size
  have z2 := x2.size
  obtain ⟨va, vc, rfl⟩ := ho.len
  have l1 := gH (off := 0) (oc.ext x2 (fun h => h)) (by simp)
  simp only [aHM, aHG, aHO] at l1
  simp (disch := omega) only [B9, B7, aA, eT, n1, aE, l1]
  refine (alW hmay (hs1.ext x2 (cB _))).mono ?_
  rintro r w3 ⟨b, t, rfl, ⟨rfl, hb1, ob3⟩, x3⟩
  have z3 := x3.size
  have hbl := ob3.lt
  simp (disch := omega) only [B9, B7, aA]
  refine iP fun w8 o8 x8 s8 => ?_
  refine eJ o8 rfl (by simp [one]) (by simp) fun w9 o9 x9 s9 => ?_
  have l2 := gL (off := 0) o9 (by simp [aV])
  simp only [aV, aHL, aHN, aHM, aHG, aHO] at l2
  have x39 : aS w3 w9 cM := x8.new x9 (aHS _)
  have x29 : aS w2 w9 cM := x3.seq x39
  simp (disch := omega) only [l2, aA]
  refine asC ((o41.ext x2 (fun h => h)).ext x29 (fun h => h)) ((x1.seq x2).seq x29) hp4 fun w' x xx => ?_
  have h4 := o41.lt
  refine hK w' 2 lg (kD lg (ps.map fun (n : Nat) => (n : Int))) bytes _ _ (.inr ⟨b, rfl, by omega, ?_⟩) ?_ ?_ x
  .exact ((ob3.ext x8 (fun h => h)).ext x9 (by omega)).ext xx (by omega)
  .have h1 := (ho.ext x29 (fun b hb h => h)).ext xx (fun b hb => by omega)
   refine ⟨h1.1, ?_⟩
   rcases h1.2 with h | ⟨b, c, rest, q1, q2, q3⟩
   .exact .inl h
   .exact .inr ⟨b, c, rest, q1, by omega, q3⟩
  .refine aBW ha hmay hh hlg (by rw [aHU]; omega) (fun x hx => ?_) hno1
   have hx1 := hok x hx
   have hx2 := hle x hx
   obtain ⟨c, rfl⟩ : ∃ c : Nat, x = c := ⟨x.toNat, by omega⟩
   have hon : 0 < ns.getD c 0 := by rw [hget c (by omega)]; exact afO hx
   have hcl : c < la + 1 := by
    rcases aH6 c (la + 1) with h | h
    .exact h
    .exfalso
     rcases hlast' with ⟨rfl, h0⟩ | ⟨_, _, h0⟩
     .have := h0 c (by omega); omega
     .have := h0 c (by omega) (by omega); omega
   have hp := (hiff c hcl).2 hon
   refine ⟨c, rfl, by rw [aHU]; omega, ?_⟩
   rw [mL (by omega)] at hp
   rw [aIm]; omega
 have res : ∀ {w1 : aJ2} {b1 : Nat} {r : aJ3}, aCE w1 b1 (Dg a) ns r -> ∃ (lg last pb : Nat) (ps : List Nat), (lg : Int) = Dg a /\ Rx ns ns.length last /\ Sk lg (ps.map fun (n : Nat) => (n : Int)) /\ ps.length = last + 1 /\ last < ns.length /\ (∀ i, i < last + 1 -> (0 < ps.getD i 0 ↔ 0 < ns.getD i 0)) /\
     r = .tuple #[.agg #[.int .i64 lg, .slice (some ⟨pb, 0, none⟩) (last + 1) (last + 1)], .int .i64 0] /\ b1 <= pb /\ cJ w1 pb (ps.map fun (n : Nat) => Value.int .i64 n) := fun h => by
  rcases h with ⟨h, _⟩ | ⟨_, l, la, pb, ps, h1, h2⟩
  .rw [hofOk] at h; cases h
  .exact ⟨l, la, pb, ps, h1.symm, h2⟩
 have z0 := hx.size
 have l4 := o4.lt
 have lo := oo.lt
 unfold Hp
 refine Ki (Ki ?_ ?_) ?_
 have hds : (dr w).heap.size = w.heap.size := rfl
 .simp (disch := omega) only [aC, bM, e1, aT, eD, Result.ok.injEq, Next.value.injEq, and_true, true_and, aA, qP, hsh, aHH, aJN]
  refine (auA a _).mono ?_
  rintro r w1 ⟨rfl, hw⟩
  rw [hw]; clear hw w1
  refine (anB (hsl _ (dN oo)) hmem (by omega)).mono ?_
  rintro r w1 ⟨hr, x1⟩
  have x1 : aS w w1 cM := (aS.dr _ _).seq x1
  obtain ⟨lg, la, pb, ps, q1, q2, q3, q4, q5, q6, rfl, q7, q8⟩ := res hr
  have z1 := x1.size
  have lp := q8.lt
  simp (disch := omega) only [B9, B7, Result.ok.injEq, Next.value.injEq, and_true, aA, true_and]
  refine iT fun w2 o2 x2 s2 => ?_
  refine fB o2 rfl (by simp [one]) (by simp) fun w3 o3 x3 s3 => ?_
  simp only [aV, aHL, aHN] at o3
  have x13 : aS w1 w3 cM := x2.new x3 (aHS _)
  exact fin w3 _ pb lg la ps ((hx.seq x1).seq x13) (by omega) (by omega) (by omega) ((o4.ext x1 (fun h => h)).ext x13 (fun h => h)) q1 q2 q3 q4 q5 q6 o3 ((q8.ext x2 (fun h => h)).ext x3 (by omega))
 .simp (disch := omega) only [aC, bM, e1, aT, eD, Result.ok.injEq, Next.value.injEq, and_true, true_and, aA, qP, hsh, aHH, aJN]
  refine (auA a _).mono ?_
  rintro r w1 ⟨rfl, hw⟩
  rw [hw]; clear hw w1
  refine iT fun w2 o2 x2 s2 => ?_
  have x2 : aS w w2 cM := (aS.dr _ _).seq x2
  refine (anB (hsl _ (oo.ext x2 (fun h => h))) hmem (by omega)).mono ?_
  rintro r w1 ⟨hr, x1⟩
  obtain ⟨lg, la, pb, ps, q1, q2, q3, q4, q5, q6, rfl, q7, q8⟩ := res hr
  have z2 := x2.size
  have lp := q8.lt
  simp (disch := omega) only [B9, B7, Result.ok.injEq, Next.value.injEq, and_true, aA, true_and]
  refine fB (o2.ext x1 (fun h => h)) rfl (by simp [one]) (by simp) fun w3 o3 x3 s3 => ?_
  simp only [aV, aHL, aHN] at o3
  have x13 : aS w w3 cM := (x2.seq x1).new x3 (aHS _)
  exact fin w3 w.heap.size pb lg la ps (hx.seq x13) (by omega) (by omega) (by omega) (o4.ext x13 (fun h => h)) q1 q2 q3 q4 q5 q6 o3 (q8.ext x3 (by omega))
 .simp (disch := omega) only [aC, bM, e1, aT, eD, Result.ok.injEq, Next.value.injEq, and_true, true_and, aA, qP, hsh, aHH, aJN]
  refine iT fun w2 o2 x2 s2 => ?_
  have x2 : aS w w2 cM := (aS.dr _ _).seq x2
  refine (auA a _).mono ?_
  rintro r w1 ⟨rfl, hw⟩
  rw [hw]; clear hw w1
  refine (anB (hsl _ (oo.ext x2 (fun h => h))) hmem (by omega)).mono ?_
  rintro r w1 ⟨hr, x1⟩
  obtain ⟨lg, la, pb, ps, q1, q2, q3, q4, q5, q6, rfl, q7, q8⟩ := res hr
  have z2 := x2.size
  have lp := q8.lt
  simp (disch := omega) only [B9, B7, Result.ok.injEq, Next.value.injEq, and_true, aA, true_and]
  refine fB (o2.ext x1 (fun h => h)) rfl (by simp [one]) (by simp) fun w3 o3 x3 s3 => ?_
  simp only [aV, aHL, aHN] at o3
  have x13 : aS w w3 cM := (x2.seq x1).new x3 (aHS _)
  exact fin w3 w.heap.size pb lg la ps (hx.seq x13) (by omega) (by omega) (by omega) (o4.ext x13 (fun h => h)) q1 q2 q3 q4 q5 q6 o3 (q8.ext x3 (by omega))
theorem aGG {a : Int} {lv : aJ3} {l : List Int} {p4 : Nat} {w0 w : aJ2} (hs : Sl w0 lv (l.map (Value.int .i64))) (hx : aS w0 w cM) (hp4 : w0.heap.size <= p4)
 (o4 : cJ w p4 [.int .i64 0, .slice none 0 0]) (ha : 0 <= a /\ a <= 2) (hne : l ≠ []) (hok : ∀ x ∈ l, 0 <= x /\ x <= mW a) (hall : ∀ x ∈ l, ∀ y ∈ l, x = y) {RR : aJ3 -> aJ2 -> Prop}
 (hK : ∀ w' mode lg L bytes t v, GF w' w0.heap.size (lg, L) t -> rN w' w0.heap.size 1 v bytes.length (bytes.map GI) -> XA a l mode lg L bytes -> aS w0 w' cM -> RR (.tuple #[t, .int .i64 mode, v, .int .i64 0]) w') :
 Il RR lv (.pointer (some ⟨p4, 0, none⟩)) w := by
 have hla := KW ha
 have hl0 : 0 < l.length := aII.2 hne
 obtain ⟨la, lc, rfl, _⟩ := hs.lenI
 have hsx := hs.ext hx (cB _)
 obtain ⟨lb, off, rfl, hcell⟩ := slA hsx (by omega)
 have g1 := hcell 0 hl0
 rw [aH9, aHQ hl0] at g1
 simp only [aIu, aIB] at g1
 have hmem : l[0] ∈ l := aH1 hl0
 have hc := hok _ hmem
 have hall' : ∀ x ∈ l, x = l[0] := fun x hx => hall x hx _ hmem
 generalize l[0] = x at *
 obtain ⟨c, rfl⟩ : ∃ c : Nat, x = c := ⟨x.toNat, by omega⟩
 have t0 : (0 : Int).toNat = 0 := rfl
 have hpos : (0 : Int) < (l.length : Nat) := by omega
 have hW := aDn (l := l) ha hc.2 (by omega) hall'
 have hcc : ((UInt8.ofNat c).toNat : Nat) = c := by simp; omega
 have z0 := hx.size
 have l4 := o4.lt
 have g2 : (dr w).cell? ⟨lb, off, none⟩ = some (.int .i64 (c : Nat)) := g1
 have far : ∀ {w' : aJ2} {M : Nat -> Prop}, aS w w' M -> (¬ inB (.slice (some ⟨lb, off, none⟩) l.length lc) M) -> w'.cell? ⟨lb, off, none⟩ = some (.int .i64 (c : Nat)) := fun x hM => by
  have h := slA (hsx.ext x hM) (by omega)
  obtain ⟨b', o', e, h'⟩ := h
  cases e
  have := h' 0 hl0
  rw [aIB, hcell 0 hl0 |>.symm, aIB, g1] at this
  exact this
 have fin : ∀ (w2 : aJ2) (b bs : Nat), aS w0 w2 cM -> w0.heap.size <= b -> w0.heap.size <= bs -> cJ w2 b (fe .u8 [((c : Nat), 0, 0)]) -> cJ w2 bs [.int .u8 (c : Nat)] -> cJ w2 p4 [.int .i64 0, .slice (some ⟨b, 0, none⟩) 1 1] →
     wD RR (.pointer (some ⟨p4, 0, none⟩)) (.int .i64 1) (.slice (some ⟨bs, 0, none⟩) 1 1) (.int .i64 0) w2 := by
  intro w2 b bs x2 hb hbs ob obs o42
  unfold wD
  refine qE o42 (by simp) ?_
  simp only [aHM, aHG, aHO]
  refine hK w2 1 0 [((c : Nat), 0, 0)] [UInt8.ofNat c] _ _ (.inr ⟨b, rfl, hb, ob⟩) ?_ hW x2
  refine ⟨rfl, .inr ⟨bs, 1, [], rfl, hbs, ?_, rfl, aHS _⟩⟩
  have e : [UInt8.ofNat c].map GI ++ [] = [.int .u8 (c : Nat)] := by
   rw [aIy]
   show [Value.int .u8 ((UInt8.ofNat c).toNat : Nat)] = _
   rw [hcc]
  rw [e]; exact obs
 have hds : (dr w).heap.size = w.heap.size := rfl
 unfold Il HQ
 refine Ki (Ki ?_ ?_) ?_
 .simp (disch := omega) only [aC, dJ, t0, aIB, eD, Result.ok.injEq, Next.value.injEq, and_true, true_and, aA, cA, g2, aI, kW, QN]
  refine (aAN (c : Nat) _).mono ?_
  rintro r w1 ⟨b, ⟨rfl, hb1, ob⟩, x1⟩
  have x1 : aS w w1 cM := (aS.dr _ _).seq x1
  have z1 := x1.size
  have lb1 := ob.lt
  have g3 := far x1 (cB _)
  have g4 : (dr w1).cell? ⟨lb, off, none⟩ = some (.int .i64 (c : Nat)) := g3
  simp (disch := omega) only [g3, aI, aA, kW, QN, Result.ok.injEq, Next.value.injEq, and_true, true_and]
  refine uM (cells := #[.int .u8 (c : Nat)]) (by decide) (by decide) (by kernel_rfl) fun w2 o2 x2 s2 => ?_
  have hds1 : (dr w1).heap.size = w1.heap.size := rfl
  have z2 := x2.size
  refine eJ ((o4.ext x1 (fun h => h)).ext x2 (fun h => h)) rfl (by simp [one]) (by simp) fun w3 o3 x3 s3 => ?_
  simp only [aV, aHL, aHN] at o3
  exact fin w3 b w1.heap.size (((hx.seq x1).seq x2).new x3 hp4) (by omega) (by omega) ((ob.ext x2 (fun h => h)).ext x3 (by omega)) (o2.ext x3 (by omega)) o3
 .simp (disch := omega) only [aC, dJ, t0, aIB, eD, Result.ok.injEq, Next.value.injEq, and_true, true_and, aA, cA, g2, aI, kW, QN]
  refine (aAN (c : Nat) _).mono ?_
  rintro r w1 ⟨b, ⟨rfl, hb1, ob⟩, x1⟩
  have x1 : aS w w1 cM := (aS.dr _ _).seq x1
  have z1 := x1.size
  have lb1 := ob.lt
  have g3 := far x1 (cB _)
  have g4 : (dr w1).cell? ⟨lb, off, none⟩ = some (.int .i64 (c : Nat)) := g3
  simp (disch := omega) only [g3, aI, aA, kW, QN, Result.ok.injEq, Next.value.injEq, and_true, true_and]
  refine eJ (o4.ext x1 (fun h => h)) rfl (by simp [one]) (by simp) fun w2 o2 x2 s2 => ?_
  simp only [aV, aHL, aHN] at o2
  have hds1 : (dr w1).heap.size = w1.heap.size := rfl
  have z2 := x2.size
  have x02 := (hx.seq x1).new x2 hp4
  have g5 : w2.cell? ⟨lb, off, none⟩ = some (.int .i64 (c : Nat)) := far ((x1.mono (N := fun y => y = p4) fun _ _ h => h.elim).seq x2) (by
   intro h
   exact hs.old (axV h fun y hy => by omega))
  simp (disch := omega) only [g5, aI, true_and]
  refine uM (cells := #[.int .u8 (c : Nat)]) (by decide) (by decide) (by kernel_rfl) fun w3 o3 x3 s3 => ?_
  exact fin w3 b w2.heap.size (x02.seq x3) (by omega) (by omega) ((ob.ext x2 (by omega)).ext x3 (fun h => h)) o3 (o2.ext x3 (fun h => h))
 .simp (disch := omega) only [aC, dJ, t0, aIB, eD, Result.ok.injEq, Next.value.injEq, and_true, true_and, aA, cA, g2, aI, kW, QN]
  refine uM (cells := #[.int .u8 (c : Nat)]) (by decide) (by decide) (by kernel_rfl) fun w2 o2 x2 s2 => ?_
  have x2 : aS w w2 cM := (aS.dr _ _).seq x2
  have z2 := x2.size
  have g3 := far x2 (cB _)
  have g4 : (dr w2).cell? ⟨lb, off, none⟩ = some (.int .i64 (c : Nat)) := g3
  simp (disch := omega) only [g3, aI, true_and]
  refine (aAN (c : Nat) _).mono ?_
  rintro r w1 ⟨b, ⟨rfl, hb1, ob⟩, x1⟩
  have hds1 : (dr w2).heap.size = w2.heap.size := rfl
  have z1 := x1.size
  have lb1 := ob.lt
  refine eJ ((o4.ext x2 (fun h => h)).ext x1 (fun h => h)) rfl (by simp [one]) (by simp) fun w3 o3 x3 s3 => ?_
  simp only [aV, aHL, aHN] at o3
  exact fin w3 b w.heap.size (((hx.seq x2).seq x1).new x3 hp4) (by omega) (by omega) (ob.ext x3 (by omega)) ((o2.ext x1 (fun h => h)).ext x3 (by omega)) o3
def WrR (w : aJ2) (base : Nat) (a : Int) (l : List Int) (r : aJ3) : Prop :=
 (¬ Zl a l /\ r = .tuple #[aDB, .int .i64 0, .slice none 0 0, .int .i64 1]) ∨
 (Zl a l /\ ∃ (mode : Int) (lg : Nat) (L : List T3) (bytes : List UInt8) (t v : aJ3), r = .tuple #[t, .int .i64 mode, v, .int .i64 0] /\ GF w base (lg, L) t /\ rN w base 1 v bytes.length (bytes.map GI) /\ XA a l mode lg L bytes)
theorem aDz {a : Int} {lv : aJ3} {l : List Int} {w : aJ2} (hg : tR w) (hs : Sl w lv (l.map (Value.int .i64))) (hlen : l.length <= 131072) :
 aR pg oB #[.int .i64 a, lv] w (fun r w' => WrR w' w.heap.size a l r /\ aS w w' cM) := by
 refine YE ?_
 obtain ⟨RR, hRR⟩ : ∃ RR : aJ3 -> aJ2 -> Prop, RR = fun r w' => WrR w' w.heap.size a l r /\ aS w w' cM := ⟨_, rfl⟩
 rw [<- hRR]
 have bad : ¬ Zl a l -> ∀ w', aS w w' cM -> RR (.tuple #[aDB, .int .i64 0, .slice none 0 0, .int .i64 1]) w' := fun h w' x => by
  rw [hRR]; exact ⟨.inl ⟨h, rfl⟩, x⟩
 have good : Zl a l -> ∀ w' mode lg L bytes t v, GF w' w.heap.size (lg, L) t -> rN w' w.heap.size 1 v bytes.length (bytes.map GI) -> XA a l mode lg L bytes -> aS w w' cM -> RR (.tuple #[t, .int .i64 mode, v, .int .i64 0]) w' := fun h w' mode lg L bytes t v h1 h2 h3 x => by
  rw [hRR]; exact ⟨.inr ⟨h, mode, lg, L, bytes, t, v, rfl, h1, h2, h3⟩, x⟩
 unfold Zp EX Ff
 refine iP fun w1 o1 x1 s1 => ?_
 refine (atU (hg.ext x1)).mono ?_
 rintro r w2 ⟨rfl, x2⟩
 have x02 := x1.seq x2
 have o12 := o1.ext x2 (fun h => h)
 have z1 := x1.size
 have z2 := x2.size
 by_cases ha : 0 <= a /\ a <= 2
 rotate_left
 .have d1 : decide (mW a < 0) = true := by rw [aoD ha] <;> rfl
  simp (disch := omega) only [aC, aX, d1, fJ, aA, jE, bN, if_true, aF, dV]
  exact asC o12 x02 (aHS _) fun w' x _ => bad (fun h => ha h.1) w' x
 have hla := KW ha
 have d1 : decide (mW a < 0) = false := by simp; omega
 have hs0 := hs
 obtain ⟨la, lc, rfl, _⟩ := hs.lenI
 by_cases hl0 : l = []
 .have n1 : (((l.length : Nat) : Int) == 0) = true := by rw [hl0] <;> rfl
  simp (disch := omega) only [aC, aX, d1, fJ, aA, dB, bN, aHP, if_false, bP, eB, cR, n1, jE, if_true, aF, dV]
  exact asC o12 x02 (aHS _) fun w' x _ => bad (fun h => h.2.1 hl0) w' x
 have hlp : 0 < l.length := aII.2 hl0
 have n1 : (((l.length : Nat) : Int) == 0) = false := beq_eq_false_iff_ne.2 (by omega)
 have d2 : decide ((131072 : Int) < ((l.length : Nat) : Int)) = false := by simp; omega
 have hcs : cN [] = List.replicate 256 (Value.int .u32 0) := by
  show (LZ []).map _ = _
  rw [atO, aJO] <;> rfl
 simp (disch := omega) only [aC, aX, d1, fJ, aA, dB, bN, aHP, if_false, bP, eB, cR, n1, dM, d2, aE]
 refine akH fun w3 o3 x3 s3 => ?_
 have o3 : cJ w3 w2.heap.size (cN []) := by rw [hcs]; exact o3
 have z3 := x3.size
 unfold Fe
 refine aFJ (w0 := w) hs0 (x02.seq x3) (aHS _) (by omega) (by omega) (o12.ext x3 (fun h => h)) o3 (by omega) (by omega) hlen (fun ⟨x, hx, hn⟩ => bad fun h => hn (h.2.2 x hx)) fun hok w4 o4 oo x4 => ?_
 have hcok : Zl a l := ⟨ha, hl0, hok⟩
 unfold Ew Ep
 have z4 := x4.size
 refine (aAL (hg.ext x4)).mono ?_
 rintro r w5 ⟨gv, rfl, hsg, x5⟩
 have z5 := x5.size
 obtain ⟨ga, gc, rfl, _⟩ := hsg.lenI
 refine iT fun w6 o6 x6 s6 => ?_
 refine fB o6 rfl (by simp [one]) (by simp) fun w7 o7 x7 s7 => ?_
 simp only [aV, aHL, aHN] at o7
 have x57 : aS w5 w7 cM := x6.new x7 (aHS _)
 have x47 := x5.seq x57
 have x07 := x4.seq x47
 have z7 := x57.size
 have l4 := o4.lt
 have o47 := o4.ext x47 (fun h => h)
 have oo7 := oo.ext x47 (fun h => h)
 unfold Eu EU PU GV GM
 have hb255 : ∀ x ∈ l, 0 <= x /\ x <= 255 := fun x hx => by have := hok x hx; omega
 have hcp := aEF hb255 hl0
 by_cases h1 : (LZ l).countP iW = 1
 .have n2 : ((((LZ l).countP iW : Nat) : Int) == 1) = true := by rw [h1] <;> rfl
  simp (disch := omega) only [aC, cR, n2, aA, aF]
  exact aGG hs0 x07 (aHS _) o47 ha hl0 hok (aFf hb255 h1) (good hcok)
 have n2 : ((((LZ l).countP iW : Nat) : Int) == 1) = false := beq_eq_false_iff_ne.2 (by omega)
 obtain ⟨last, hlast⟩ : ∃ n : Nat, mW a = n := ⟨(mW a).toNat, by omega⟩
 obtain ⟨g, hg', hgl, hnl, hget, hle, hct⟩ := aAZ (S := l) (n := last) (by omega) (fun x hx => by have := hok x hx; omega)
 have told : wA RR (.int .i64 a) (.pointer (some ⟨w.heap.size, 0, none⟩)) (.pointer (some ⟨w2.heap.size, 0, none⟩)) (.int .i64 g) w7 :=
  aF3 x07 hg (aHS _) (by omega) (by omega) o47 oo7 ha hlen hok hg' (by omega) (good hcok)
 rw [hg']
 unfold HY
 by_cases h64 : l.length < 64
 .have d3 : decide (((l.length : Nat) : Int) < 64) = true := by simp; omega
  have c1 := o7.cell (off := 1)
  simp only [aHJ, aHK] at c1
  by_cases hgv : g < (gvP a).length
  .have d4 : decide (((g : Nat) : Int) < (((gvP a).length : Nat) : Int)) = true := by simp; omega
   have l1 := gH (off := 0) o7 (by simp)
   simp only [aHM, aHG, aHO] at l1
   have hm := aoL (a := a) (by omega)
   simp (disch := omega) only [aC, cR, n2, eB, bK, aHI, aA, aX, d3, sX, bN, if_true, bP, cL, c1, aI, d4, l1, aF, aE]
   refine (alW hm (hsg.ext x57 (cB _))).mono ?_
   rintro r w8 ⟨b, t, rfl, ⟨rfl, hb1, ob⟩, x8⟩
   have z8 := x8.size
   have hbl := ob.lt
   simp (disch := omega) only [B9, B7, aA]
   refine iP fun w9 o9 x9 s9 => ?_
   refine eJ o9 rfl (by simp [one]) (by simp) fun wa oa xa sa => ?_
   have l2 := gL (off := 0) oa (by simp [aV])
   simp only [aV, aHL, aHN, aHM, aHG, aHO] at l2
   have x8a : aS w8 wa cM := x9.new xa (aHS _)
   have x7a := x8.seq x8a
   simp (disch := omega) only [l2, aA]
   refine asC (o47.ext x7a (fun h => h)) (x07.seq x7a) (aHS _) fun w' x xx => ?_
   refine good hcok w' 0 (Za a) (kD (Za a) (gvP a)) [] _ _ (.inr ⟨b, rfl, by omega, ?_⟩) (rN.nil _ _ _) ?_ x
   .exact ((ob.ext x9 (fun h => h)).ext xa (by omega)).ext xx (by omega)
   .refine aAg ha (fun x hx => ?_) fun h => ?_
    .have h1 := hok x hx
     have h2 := hle x hx
     omega
    .obtain ⟨y, hy⟩ := aJJ _ hl0
     have hyb := hb255 y hy
     exact h1 (aA7 (S := l) (c := y.toNat) (by omega) (fun x hx => by have := h x hx y hy; omega) hl0)
  .have d4 : decide (((g : Nat) : Int) < (((gvP a).length : Nat) : Int)) = false := by simp; omega
   simp (disch := omega) only [aC, cR, n2, eB, bK, aHI, aA, aX, d3, sX, bN, if_true, bP, cL, c1, aI, d4, aE]
   exact told
 .have d3 : decide (((l.length : Nat) : Int) < 64) = false := by simp; omega
  simp (disch := omega) only [aC, cR, n2, eB, bK, aHI, aA, aX, d3, Fm, bN, aHP, if_false, aE, dV]
  exact told
def aoP (L : List T3) : Prop := ∀ sy : Int, (∃ e ∈ L, e.1 = sy) -> ∀ s : Nat, s < L.length -> ∃ (i : Nat) (e : T3), L[i]? = some e /\ inE sy s e = true
theorem aCh (c : Int) : aoP [(c, 0, 0)] := by
 rintro sy ⟨e, he, rfl⟩ s hs
 obtain rfl := aIW.1 he
 have : s = 0 := by simp at hs; omega
 subst this
 exact ⟨0, _, rfl, by unfold inE; simp⟩
theorem awC {log : Nat} {ps : List Int} (hm : Sk log ps) : aoP (kD log ps) := by
 rintro sy ⟨e, he, rfl⟩ s hs
 rw [jC] at hs
 obtain ⟨i, hi, rfl⟩ := aIf he
 have h2 : i < 2 ^ log := by rw [jC] at hi; exact hi
 obtain ⟨sy, hsy, e, hp, _⟩ := XG hm (vF hm 0) h2
 have hn : ps[sy] ≠ 0 := fun h => by rw [h] at hp; revert hp; decide
 rw [WM log ps h2, e]
 obtain ⟨i', hi', h1, _⟩ := aE7 hm hsy hn hs
 exact ⟨i', _, ahB hi', h1⟩
theorem aAd {a : Int} {l : List Int} {mode : Int} {lg : Nat} {L : List T3} {bytes : List UInt8} (h : XA a l mode lg L bytes) : aoP L := by
 rcases h.tab with ⟨ps, hm, rfl⟩ | ⟨c, _, _, _, rfl⟩
 .exact awC hm
 .exact aCh c
theorem adT {k : Nat} {l : List Int} {mode : Int} {lg : Nat} {L : List T3} {bytes : List UInt8} (hk : k < 3) (h : XA (k : Int) l mode lg L bytes) : yD k (lg, L) := by
 have h1 := h.read (0, []) []
 have h0 := h.mode0
 have h2 := h.mode2
 obtain ⟨m, rfl⟩ : ∃ m : Nat, mode = m := ⟨mode.toNat, by omega⟩
 exact (anF hk (fun h3 => by omega) h1).1
def axI (last : Bool) (L : List T3) (c s t : Nat) (u : List Bool) : Prop := (∃ e, L[s]? = some e /\ e.1 = (c : Int)) /\ (if last then u = [] else StB L s t u)
def ayH (r : Nat) : Nat := if r = 0 then 1 else if r = 1 then 2 else 0
def aCa (k : Nat) : Nat := if k = 1 then 0 else if k = 2 then 1 else 2
def aAa (us : Nat -> List Bool) (r : Nat) : List Bool := if r = 0 then [] else if r = 1 then us 1 else if r = 2 then us 1 ++ us 2 else us 1 ++ us 2 ++ us 0
def upU (us : Nat -> List Bool) (k : Nat) (x : List Bool) : Nat -> List Bool := fun i => if i = k then x else us i
theorem UQ (us : Nat -> List Bool) {r : Nat} (h : r < 3) (x : List Bool) : aAa (upU us (ayH r) x) (r + 1) = aAa us r ++ x := by
 rcases (show r = 0 ∨ r = 1 ∨ r = 2 by omega) with rfl | rfl | rfl <;> simp [aAa, upU, ayH]
theorem aEK (r : Nat) : ayH r < 3 := by unfold ayH; split <;> (try split) <;> omega
theorem ZJ {r k : Nat} (hr : r < 3) (hk : k < 3) : (aCa k < r + 1) ↔ (aCa k < r ∨ k = ayH r) := by
 rcases (show r = 0 ∨ r = 1 ∨ r = 2 by omega) with rfl | rfl | rfl <;> rcases (show k = 0 ∨ k = 1 ∨ k = 2 by omega) with rfl | rfl | rfl <;> decide
theorem aCw {r : Nat} (hr : r < 3) : aCa (ayH r) = r := by
 rcases (show r = 0 ∨ r = 1 ∨ r = 2 by omega) with rfl | rfl | rfl <;> rfl
theorem aDv {w : aJ2} {base : Nat} {L : Nat -> List Nat} {v : Nat -> aJ3} {D : Nat -> Nat -> Prop} (h : C3 w base L v D) {k i c : Nat} (hk : k < 3) (hc : (L k)[i]? = some c) :
 ∃ b off cc, v k = .slice (some ⟨b, off, none⟩) (L k).length cc /\ w.cell? ⟨b, off + i, none⟩ = some (.int .i64 c) := by
 have hi : i < (L k).length := by
  rcases aH6 i (L k).length with h | h
  .exact h
  .rw [aH3 h] at hc; cases hc
 have o := h.row k hk
 rcases o.2 with ⟨_, hz⟩ | ⟨b, c', rest, h1, h2, h3, h4, h5⟩
 .omega
 .refine ⟨b, 0, c', h1, ?_⟩
  rw [h3.cell, aHI, aHW (by rw [aHU]; exact hi), aH9, hc]
  rfl
theorem awU {k2 : K6} {RR : K1} {la : Option Addr} {n lc pe pt p ps i : Nat} {t : Nat -> TT} {a : Nat -> Option Addr} {L : Nat -> List Nat} {v : Nat -> aJ3} {D : Nat -> Nat -> Prop} {st cc : Nat -> Nat} {B : List Bool} {wc w : aJ2}
 (hTc : OO wc t a) (hCc : C3 wc 0 L v D) (xc : aS wc w cM) (hge : wc.heap.size <= pe /\ pe < pt /\ pt < p /\ p < ps) (oE : cJ w pe (vL v)) (oT : cJ w pt (c6 t a)) (oS : cJ w ps (s3L st)) (hW : Ws w (fun b => ps < b) p B)
 (hi : i < n) (hn : n <= 1000000) (hcc : ∀ k, k < 3 -> (L k)[i]? = some (cc k) /\ cc k < lC k) (hG : ∀ k, k < 3 -> yD k (t k) /\ aoP (t k).2 /\ ∃ e ∈ (t k).2, e.1 = (cc k : Int)) (hst : i + 1 < n -> ∀ k, k < 3 -> st k < (t k).2.length) (hB : B.length <= 90000000)
 (hk : ∀ (w' : aJ2) (st' : Nat -> Nat) (us : Nat -> List Bool), cJ w' ps (s3L st') -> (∀ k, k < 3 -> axI (decide (i + 1 = n)) (t k).2 (cc k) (st' k) (st k) (us k)) -> Ws w' (fun b => ps < b) p (B ++ (us 1 ++ us 2 ++ us 0)) -> aS w w' (fun y => y = p ∨ y = ps ∨ ps < y) -> k2 (.slice la n lc) (.pointer (some ⟨pe, 0, none⟩)) (.pointer (some ⟨pt, 0, none⟩)) (.pointer (some ⟨p, 0, none⟩)) (.pointer (some ⟨ps, 0, none⟩)) (.int .i64 i) w') :
 rY k2 RR (.slice la n lc) (.pointer (some ⟨pe, 0, none⟩)) (.pointer (some ⟨pt, 0, none⟩)) (.pointer (some ⟨p, 0, none⟩)) (.pointer (some ⟨ps, 0, none⟩)) (.int .i64 i) (.agg #[.int .i64 1, .int .i64 2, .int .i64 0]) (.int .i64 0) w := by
 have hps := oS.lt
 unfold rY
 refine cG.rule (fun m (x : aJ3) w' => ∃ (j : Nat) (st' : Nat -> Nat) (us : Nat -> List Bool), m = j /\ j <= 3 /\ x = .int .i64 (3 - j : Nat) /\ cJ w' ps (s3L st') /\ (∀ k, k < 3 -> aCa k < 3 - j -> axI (decide (i + 1 = n)) (t k).2 (cc k) (st' k) (st k) (us k)) /\ (∀ k, k < 3 -> ¬ aCa k < 3 - j -> st' k = st k) /\
  Ws w' (fun b => ps < b) p (B ++ aAa us (3 - j)) /\ (aAa us (3 - j)).length <= 20 * (3 - j) /\ aS w w' (fun y => y = p ∨ y = ps ∨ ps < y)) 3
  ⟨3, st, fun _ => [], rfl, aHS _, rfl, oS, fun k _ h => by omega, fun _ _ _ => rfl, by simpa [aAa] using hW, by simp [aAa], aS.refl _ _⟩ ?_
 rintro j x w1 ⟨m, st', us, rfl, hj, rfl, oS1, hD, hU, hW1, hlen, x1⟩
 unfold sO yY
 rcases j with _ | j
 .have d1 : decide (((3 - 0 : Nat) : Int) < 3) = false := rfl
  simp (disch := omega) only [aC, aX, d1, dO, true_and, aA, eA, aT, cR, aE]
  exact hk _ st' us oS1 (fun k hk => hD k hk (by unfold aCa; split <;> (try split) <;> omega)) hW1 x1
 obtain ⟨r, hr⟩ : ∃ r, r = 2 - j := ⟨_, rfl⟩
 have hr3 : r < 3 := by omega
 have ek : ((3 - (j + 1) : Nat) : Int) = (r : Int) := by omega
 have ek2 : 3 - (j + 1) = r := by omega
 have ek3 : 3 - j = r + 1 := by omega
 have d1 : decide ((r : Int) < 3) = true := by simp; omega
 have hx : (#[Value.int .i64 1, .int .i64 2, .int .i64 0] : Array aJ3)[r]? = some (.int .i64 (ayH r : Nat)) := by
  rcases (show r = 0 ∨ r = 1 ∨ r = 2 by omega) with rfl | rfl | rfl <;> rfl
 have hk3 := aEK r
 have hpo := aCw hr3
 obtain ⟨k, hkk⟩ : ∃ k, k = ayH r := ⟨_, rfl⟩
 rw [ek]
 rw [ek2] at hD hU hW1 hlen
 rw [<- hkk] at hx hk3 hpo
 obtain ⟨hck, hcl⟩ := hcc k hk3
 obtain ⟨hGk, hRk, hEk⟩ := hG k hk3
 have xc1 : aS wc w1 cM := xc.trans x1 fun b hb h => by have := xc.size; omega
 have hT1 := hTc.ext xc1
 have hC1 := hCc.ext xc1 (fun _ _ _ h => h)
 have oE1 := oE.ext x1 (by omega)
 have oT1 := oT.ext x1 (by omega)
 obtain ⟨b, off, c', ev, hcell⟩ := aDv hC1 hk3 hck
 have cE := oE1.cell (off := k)
 rw [aAS _ hk3, ev] at cE
 have hc53 : lC k <= 53 := by rcases (show k = 0 ∨ k = 1 ∨ k = 2 by omega) with rfl | rfl | rfl <;> decide
 have hiL : i < (L k).length := by
  rcases aH6 i (L k).length with h | h
  .exact h
  .rw [aH3 h] at hck; cases hck
 have ew : IntKind.u8.wrap ((cc k : Nat) : Int) = ((cc k : Nat) : Int) := QN (by omega) (by omega)
 have l1 := gL (off := k * 2) oT1 (by simp [c6]; omega)
 rw [aqR _ _ hk3] at l1
 have hlt512 : (t k).2.length <= 512 := by rw [hGk.len]; exact aHT (by omega) hGk.lg
 have hlpos : 0 < (t k).2.length := by rw [hGk.len]; exact aIj _
 obtain ⟨tb, htb⟩ := (hT1 k hk3).tbl hlpos
 have n0 : ((0 : Int) != 0) = false := rfl
 by_cases hlast : i + 1 = n
 .have n1 : ((i : Int) == (n : Int) - 1) = true := by simp; omega
  simp (disch := omega) only [aC, aX, d1, BO, aHH, hx, aI, dO, true_and, aA, eA, aT, cR, n1, aF, sZ, aHI, eL, yF, cL, cE, dJ, cA, hcell, kW, ew, l1]
  refine (aEV htb (by omega) (cc k : Nat)).mono ?_
  rintro rr w2 ⟨hF, x2⟩
  rcases hF with ⟨s', hs', rfl, hsy, _⟩ | ⟨_, hno⟩
  rotate_left
  .obtain ⟨e, he, hes⟩ := hEk
   obtain ⟨y, hy, rfl⟩ := aIf he
   exact absurd hes (hno y hy)
  have oS2 := oS1.ext x2 (fun h => h)
  simp (disch := omega) only [B9, B7, aA, eT, n0, aE]
  refine tA oS2 rfl (by simp [s3L]; omega) fun w3 o3 x3 s3 => ?_
  rw [asY _ hk3] at o3
  have e1 : (r : Int) + 1 = ((3 - j : Nat) : Int) := by omega
  unfold oQ
  simp (disch := omega) only [aC, bM, e1, aT, aA]
  refine ⟨j, by omega, j, upS st' k s', upU us k [], rfl, by omega, rfl, o3, fun q hq hqp => ?_, fun q hq hqp => ?_, ?_, ?_, ?_⟩
  .rw [ek3, ZJ hr3 hq, <- hkk] at hqp
   unfold upS upU
   by_cases hqk : q = k
   .subst hqk
    rw [if_pos rfl, if_pos rfl]
    refine ⟨⟨_, aHQ hs', hsy⟩, ?_⟩
    rw [decide_eq_true hlast] <;> rfl
   .rw [if_neg hqk, if_neg hqk]
    exact hD q hq (by rcases hqp with h | h
                      .exact h
                      .exact absurd h hqk)
  .rw [ek3, ZJ hr3 hq, <- hkk] at hqp
   unfold upS
   rw [if_neg (fun h => hqp (.inr h))]
   exact hU q hq (fun h => hqp (.inl h))
  .rw [ek3, hkk, UQ us hr3, aIy]
   exact (hW1.ext x2 (fun h => h) (fun _ _ h => h)).ext x3 (by omega) (fun b hb h => by omega)
  .rw [ek3, hkk, UQ us hr3, aIy]; omega
  .exact (x1.more x2).seq (x3.mono fun _ _ h => .inr (.inl h))
 .have n1 : ((i : Int) == (n : Int) - 1) = false := by simp; omega
  have hstk := hst (by omega) k hk3
  have hUk := hU k hk3 (by rw [hpo]; omega)
  have l1d := gL (off := k * 2) (dN oT1) (by simp [c6]; omega)
  rw [aqR _ _ hk3] at l1d
  have c1d := (dN oS1).cell (off := k)
  rw [aqQ _ hk3, hUk] at c1d
  simp (disch := omega) only [aC, aX, d1, BO, aHH, hx, aI, dO, true_and, aA, eA, aT, cR, n1, aE, sZ, aHI, eL, yF, cA, cL, cE, dJ, hcell, kW, ew, l1d, c1d, aF]
  obtain ⟨tb, htb⟩ := (hT1.ext (aS.dr w1 cM) k hk3).tbl hlpos
  refine (aCU htb hGk.low (by omega) (st k) hstk (cc k : Nat)).mono ?_
  rintro rr w2 ⟨hF, x2⟩
  have x12 : aS w1 w2 cM := (aS.dr _ _).seq x2
  rcases hF with ⟨s', e, hs', hin, rfl⟩ | ⟨hno, _⟩
  rotate_left
  .obtain ⟨y, e, hy, hin⟩ := hRk (cc k : Nat) hEk (st k) hstk
   rw [hno y e hy] at hin; cases hin
  obtain ⟨nb, hnb1, hnb2, hnb3, hnb4⟩ := hGk.low _ (aIX hs')
  obtain ⟨e0, e1', e2⟩ := e
  simp only at hnb1 hnb3 hnb4
  subst hnb1
  unfold inE at hin
  simp only [decide_eq_true_eq, aHH] at hin
  obtain ⟨g0, g1, g2⟩ := hin
  obtain ⟨xx, hxx⟩ : ∃ xx : Nat, (st k : Int) - e2 = xx := ⟨((st k : Int) - e2).toNat, by omega⟩
  have hp2 : (2 : Int) ^ nb = ((2 ^ nb : Nat) : Int) := by simp
  rw [hp2] at g2
  have hxl : xx < 2 ^ nb := by omega
  have hp20 : 2 ^ nb <= 2 ^ 20 := aHT (by omega) hnb2
  have hs's : s' < (t k).2.length := by
   rcases aH6 s' (t k).2.length with h | h
   .exact h
   .rw [aH3 h] at hs'; cases hs'
  simp (disch := omega) only [hxx, x40, x41, x42, x43, aA, eT, n0, aE, true_and]
  have hW2 := hW1.ext x12 (fun h => h) (fun _ _ h => h)
  refine (apT (x := xx) (n := nb) hW2 (fun b hb => by have := x12.size; have := x1.size; omega) (by omega) (by omega) (by rw [aHR]; omega)).mono ?_
  rintro rr w3 ⟨rfl, hW3, x3⟩
  have oS3 := (oS1.ext x12 (fun h => h)).ext x3 (by omega)
  refine tA oS3 rfl (by simp [s3L]; omega) fun w4 o4 x4 s4 => ?_
  rw [asY _ hk3] at o4
  have e1 : (r : Int) + 1 = ((3 - j : Nat) : Int) := by omega
  unfold oQ
  simp (disch := omega) only [aC, bM, e1, aT, aA]
  refine ⟨j, by omega, j, upS st' k s', upU us k (gD xx nb), rfl, by omega, rfl, o4, fun q hq hqp => ?_, fun q hq hqp => ?_, ?_, ?_, ?_⟩
  .rw [ek3, ZJ hr3 hq, <- hkk] at hqp
   unfold upS upU
   by_cases hqk : q = k
   .subst hqk
    rw [if_pos rfl, if_pos rfl]
    refine ⟨⟨_, hs', g0⟩, ?_⟩
    rw [decide_eq_false hlast]
    exact ⟨_, nb, xx, hs', rfl, hxl, by simp only; omega, rfl⟩
   .rw [if_neg hqk, if_neg hqk]
    exact hD q hq (by rcases hqp with h | h
                      .exact h
                      .exact absurd h hqk)
  .rw [ek3, ZJ hr3 hq, <- hkk] at hqp
   unfold upS
   rw [if_neg (fun h => hqp (.inr h))]
   exact hU q hq (fun h => hqp (.inl h))
  .rw [ek3, hkk, UQ us hr3, <- aHV]
   exact hW3.ext x4 (by omega) (fun b hb h => by omega)
  .rw [ek3, hkk, UQ us hr3, aHR, dH]; omega
  .exact ((x1.more x12).seq (x3.mono fun _ _ h => by rcases h with h | h; exact .inl h; exact .inr (.inr h))).seq (x4.mono fun _ _ h => .inr (.inl h))
def vb (q : Sq) (cc : Nat -> Nat) (k : Nat) : List Bool := gD (kv q k - (rO k).getD (cc k) 0) ((kQ k).getD (cc k) 0)
def aAm (us : Nat -> List Bool) (r : Nat) : List Bool := if r = 0 then [] else if r = 1 then us 0 else if r = 2 then us 0 ++ us 2 else us 0 ++ us 2 ++ us 1
theorem aBy (us : Nat -> List Bool) {r : Nat} (h : r < 3) : aAm us (r + 1) = aAm us r ++ us (Lw r) := by
 rcases (show r = 0 ∨ r = 1 ∨ r = 2 by omega) with rfl | rfl | rfl <;> simp [aAm, Lw]
theorem aCs {k4 : K6} {lv : aJ3} {pe pt p ps pv i : Nat} {L : Nat -> List Nat} {v : Nat -> aJ3} {D : Nat -> Nat -> Prop} {cc : Nat -> Nat} {q : Sq} {B : List Bool} {wc w : aJ2}
 (hg : tR wc) (hCc : C3 wc 0 L v D) (xc : aS wc w cM) (hge : wc.heap.size <= pe /\ pe < pt /\ pt < p /\ p < ps /\ ps < pv) (oE : cJ w pe (vL v)) (oV : cJ w pv (kvL q)) (hW : Ws w (fun b => ps < b /\ b ≠ pv) p B)
 (hcc : ∀ k, k < 3 -> (L k)[i]? = some (cc k) /\ uK k (kv q k) (cc k)) (hB : B.length <= 90000000)
 (hk : ∀ (w' : aJ2), Ws w' (fun b => ps < b /\ b ≠ pv) p (B ++ (vb q cc 0 ++ vb q cc 2 ++ vb q cc 1)) -> aS w w' (fun y => y = p ∨ (ps < y /\ y ≠ pv)) -> k4 lv (.pointer (some ⟨pe, 0, none⟩)) (.pointer (some ⟨pt, 0, none⟩)) (.pointer (some ⟨p, 0, none⟩)) (.pointer (some ⟨ps, 0, none⟩)) (.int .i64 i) w') :
 sM k4 lv (.pointer (some ⟨pe, 0, none⟩)) (.pointer (some ⟨pt, 0, none⟩)) (.pointer (some ⟨p, 0, none⟩)) (.pointer (some ⟨ps, 0, none⟩)) (.int .i64 i) (.pointer (some ⟨pv, 0, none⟩)) (.agg #[.int .i64 0, .int .i64 2, .int .i64 1]) (.int .i64 0) w := by
 have hpv := oV.lt
 unfold sM
 refine cG.rule (fun m (x : aJ3) w' => ∃ (j : Nat), m = j /\ j <= 3 /\ x = .int .i64 (3 - j : Nat) /\ Ws w' (fun b => ps < b /\ b ≠ pv) p (B ++ aAm (vb q cc) (3 - j)) /\ (aAm (vb q cc) (3 - j)).length <= 31 * (3 - j) /\ aS w w' (fun y => y = p ∨ (ps < y /\ y ≠ pv))) 3
  ⟨3, rfl, aHS _, rfl, by simpa [aAm] using hW, by simp [aAm], aS.refl _ _⟩ ?_
 rintro j x w1 ⟨m, rfl, hj, rfl, hW1, hlen, x1⟩
 unfold tK
 rcases j with _ | j
 .have d1 : decide (((3 - 0 : Nat) : Int) < 3) = false := rfl
  simp (disch := omega) only [aC, aX, d1, bM, aT, aA, aE]
  exact hk _ hW1 x1
 obtain ⟨r, hr⟩ : ∃ r, r = 2 - j := ⟨_, rfl⟩
 have hr3 : r < 3 := by omega
 have ek : ((3 - (j + 1) : Nat) : Int) = (r : Int) := by omega
 have ek2 : 3 - (j + 1) = r := by omega
 have ek3 : 3 - j = r + 1 := by omega
 have d1 : decide ((r : Int) < 3) = true := by simp; omega
 have hx : (#[Value.int .i64 0, .int .i64 2, .int .i64 1] : Array aJ3)[r]? = some (.int .i64 (Lw r : Nat)) := by
  rcases (show r = 0 ∨ r = 1 ∨ r = 2 by omega) with rfl | rfl | rfl <;> rfl
 have hk3 := Z4 r
 obtain ⟨k, hkk⟩ : ∃ k, k = Lw r := ⟨_, rfl⟩
 rw [ek]
 rw [ek2] at hW1 hlen
 have hOS := aBy (vb q cc) hr3
 rw [<- hkk] at hx hk3 hOS
 obtain ⟨hck, hcv⟩ := hcc k hk3
 have xc1 : aS wc w1 cM := xc.trans x1 fun b hb h => by have := xc.size; omega
 have hC1 := hCc.ext xc1 (fun _ _ _ h => h)
 have oE1 := oE.ext x1 (by omega)
 have oV1 := oV.ext x1 (by omega)
 obtain ⟨b, off, c', ev, hcell⟩ := aDv hC1 hk3 hck
 have cE := oE1.cell (off := k)
 rw [aAS _ hk3, ev] at cE
 have hiL : i < (L k).length := by
  rcases aH6 i (L k).length with h | h
  .exact h
  .rw [aH3 h] at hck; cases hck
 simp (disch := omega) only [aC, aX, d1, BO, aHH, hx, aI, bM, aT, aA, sZ, aHI, Of, rT, cL, cE, dJ, cA, hcell, aF]
 refine (aEo (hg.ext xc1) hk3 hcv.1).mono ?_
 rintro rr w2 ⟨rfl, x2⟩
 have cV := (oV1.ext x2 (fun h => h)).cell (off := k)
 have hkv : (kvL q)[k]? = some (.int .u32 (kv q k : Nat)) := by
  rcases (show k = 0 ∨ k = 1 ∨ k = 2 by omega) with rfl | rfl | rfl <;> rfl
 rw [hkv] at cV
 have hcl := hcv.lt hk3
 have hc1 := hcv.2.1
 have ha := ZF hk3 (cc k)
 have hvb : vb q cc k = gD (kv q k - (rO k).getD (cc k) 0) ((kQ k).getD (cc k) 0) := rfl
 have e1 : (r : Int) + 1 = ((3 - j : Nat) : Int) := by omega
 generalize (rO k).getD (cc k) 0 = bg at *
 generalize (kQ k).getD (cc k) 0 = ad at *
 obtain ⟨y, hy⟩ : ∃ y, y = kv q k - bg := ⟨_, rfl⟩
 rw [<- hy] at hvb
 have es : IntKind.u32.wrap (((kv q k : Nat) : Int) - (bg : Int)) = (y : Int) := by rw [w32 (by omega) (by omega)]; omega
 have ey : IntKind.u64.wrap (y : Int) = (y : Int) := hP (by omega) (by omega)
 simp (disch := omega) only [RQ, Sd, RN, aA, cV, aI, eA, es, nS, ey]
 refine (apT (x := y) (n := ad) (hW1.ext x2 (fun h => h) (fun _ _ h => h)) (fun b hb => by have := x2.size; have := x1.size; omega) (by omega) (by omega) (by rw [aHR]; omega)).mono ?_
 rintro rr w3 ⟨rfl, hW3, x3⟩
 simp (disch := omega) only [e1]
 rw [aHV, <- hvb, <- hOS, <- ek3] at hW3
 refine ⟨j, by omega, j, rfl, by omega, rfl, hW3, ?_, (x1.more x2).seq x3⟩
 rw [ek3, hOS, aHR, hvb, dH]; omega
theorem aC0 {k6 : K1} {pt p ps : Nat} {t : Nat -> TT} {a : Nat -> Option Addr} {st : Nat -> Nat} {B : List Bool} {w : aJ2} (hge : pt < p /\ p < ps) (oT : cJ w pt (c6 t a)) (oS : cJ w ps (s3L st)) (hW : Ws w (fun b => ps < b) p B) (hlg : ∀ k, k < 3 -> (t k).1 <= 9) (hst : ∀ k, k < 3 -> st k < 1000) (hB : B.length <= 90000000)
 (hk : ∀ (w' : aJ2), Ws w' (fun b => ps < b) p (B ++ gD (st 2) (t 2).1 ++ gD (st 1) (t 1).1 ++ gD (st 0) (t 0).1) -> aS w w' (fun y => y = p ∨ ps < y) -> k6 (.pointer (some ⟨p, 0, none⟩)) w') :
 tN k6 (.pointer (some ⟨pt, 0, none⟩)) (.pointer (some ⟨p, 0, none⟩)) (.pointer (some ⟨ps, 0, none⟩)) (.agg #[.int .i64 2, .int .i64 1, .int .i64 0]) (.int .i64 0) w := by
 have hps := oS.lt
 have hsum : ∃ f : Nat -> List Bool, f 0 = B /\ f 1 = B ++ gD (st 2) (t 2).1 /\ f 2 = B ++ gD (st 2) (t 2).1 ++ gD (st 1) (t 1).1 /\ f 3 = B ++ gD (st 2) (t 2).1 ++ gD (st 1) (t 1).1 ++ gD (st 0) (t 0).1 := by
  exact ⟨fun r => if r = 0 then B else if r = 1 then B ++ gD (st 2) (t 2).1 else if r = 2 then B ++ gD (st 2) (t 2).1 ++ gD (st 1) (t 1).1 else B ++ gD (st 2) (t 2).1 ++ gD (st 1) (t 1).1 ++ gD (st 0) (t 0).1, rfl, rfl, rfl, rfl⟩
 obtain ⟨f, f0, f1, f2, f3⟩ := hsum
 have hf : ∀ r, r < 3 -> f (r + 1) = f r ++ gD (st (2 - r)) (t (2 - r)).1 := fun r hr => by
  rcases (show r = 0 ∨ r = 1 ∨ r = 2 by omega) with rfl | rfl | rfl
  .rw [f1, f0]
  .rw [f2, f1]
  .rw [f3, f2]
 rw [<- f3] at hk
 unfold tN
 refine cG.rule (fun m (x : aJ3) w' => ∃ (j : Nat), m = j /\ j <= 3 /\ x = .int .i64 (3 - j : Nat) /\ Ws w' (fun b => ps < b) p (f (3 - j)) /\ (f (3 - j)).length <= B.length + 9 * (3 - j) /\ aS w w' (fun y => y = p ∨ ps < y)) 3
  ⟨3, rfl, aHS _, rfl, by rw [show 3 - 3 = 0 from rfl, f0]; exact hW, by rw [show 3 - 3 = 0 from rfl, f0]; omega, aS.refl _ _⟩ ?_
 rintro j x w1 ⟨m, rfl, hj, rfl, hW1, hlen, x1⟩
 unfold tF
 rcases j with _ | j
 .have d1 : decide (((3 - 0 : Nat) : Int) < 3) = false := rfl
  simp (disch := omega) only [aC, aX, d1, bM, aT, aA, true_and, aE]
  exact hk _ hW1 x1
 obtain ⟨r, hr⟩ : ∃ r, r = 2 - j := ⟨_, rfl⟩
 have hr3 : r < 3 := by omega
 have ek : ((3 - (j + 1) : Nat) : Int) = (r : Int) := by omega
 have ek2 : 3 - (j + 1) = r := by omega
 have ek3 : 3 - j = r + 1 := by omega
 have d1 : decide ((r : Int) < 3) = true := by simp; omega
 have hx : (#[Value.int .i64 2, .int .i64 1, .int .i64 0] : Array aJ3)[r]? = some (.int .i64 (2 - r : Nat)) := by
  rcases (show r = 0 ∨ r = 1 ∨ r = 2 by omega) with rfl | rfl | rfl <;> rfl
 have hfr := hf r hr3
 obtain ⟨k, hkk⟩ : ∃ k, k = 2 - r := ⟨_, rfl⟩
 have hk3 : k < 3 := by omega
 rw [ek]
 rw [ek2] at hW1 hlen
 rw [<- hkk] at hx hfr
 have hlgk := hlg k hk3
 have hstk := hst k hk3
 have oT1 := dN (oT.ext x1 (by omega))
 have oS1 := dN (oS.ext x1 (by omega))
 have cS := oS1.cell (off := k)
 rw [aqQ _ hk3] at cS
 have cT := oT1.cell (off := k * 2)
 have hcT : (c6 t a)[k * 2]? = some (.int .i64 (t k).1) := by
  rcases (show k = 0 ∨ k = 1 ∨ k = 2 by omega) with rfl | rfl | rfl <;> rfl
 rw [hcT] at cT
 have ey : IntKind.u64.wrap ((st k : Nat) : Int) = ((st k : Nat) : Int) := hP (by omega) (by omega)
 have e1 : (r : Int) + 1 = ((3 - j : Nat) : Int) := by omega
 simp (disch := omega) only [aC, aX, d1, BO, aHH, hx, aI, bM, aT, aA, true_and, yF, aHI, eL, Aa, cA, cS, cT, fY, ey, aF]
 refine (apT (x := st k) (n := (t k).1) (hW1.ext (aS.dr w1 cM) (fun h => h) (fun _ _ h => h)) (fun b hb => by have h1 : (dr w1).heap.size = w1.heap.size := rfl
                                                                                                              have := x1.size; omega) (by omega) (by omega) (by omega)).mono ?_
 rintro rr w3 ⟨rfl, hW3, x3⟩
 simp (disch := omega) only [e1]
 rw [<- hfr, <- ek3] at hW3
 refine ⟨j, by omega, j, rfl, by omega, rfl, hW3, ?_, x1.seq ((aS.dr _ _).seq x3)⟩
 rw [ek3, hfr, aHR, dH]; omega
def auG (t : Nat -> TT) (st : Nat -> Nat) (X : List Bool) : List Bool := X ++ gD (st 2) (t 2).1 ++ gD (st 1) (t 1).1 ++ gD (st 0) (t 0).1
def aG5 (w : aJ2) (base : Nat) (l : List Sq) (t : Nat -> TT) (r : aJ3) : Prop :=
 ∃ bv bytes X st, r = .tuple #[bv, .int .i64 0] /\ Bs w bv bytes /\ AtI bv base w.heap.size /\ agF (auG t st X ++ [true]) bytes /\ Enc (t 0).2 (t 1).2 (t 2).2 l (st 0) (st 1) (st 2) X /\ (∀ k, k < 3 -> st k < (t k).2.length) /\ X.length <= 200 * l.length
theorem Ws.wr {w : aJ2} {S : Nat -> Prop} {p : Nat} {B : List Bool} (h : Ws w S p B) : Wr w 0 p B := by
 have h1 := h.turn (T := fun b => 0 <= b /\ b ≠ p) (fun h => h.2 rfl) (fun b hb _ => ⟨aIT _, fun e => h.1 (e ▸ hb)⟩)
 obtain ⟨h0, v, bytes, a, b, c⟩ := h1
 exact ⟨aIT _, v, bytes, a, b, c⟩
theorem auU (w : aJ2) : aR pg qI #[] w (fun r w' => r = .pointer (some ⟨w.heap.size, 0, none⟩) /\ w'.heap.size = w.heap.size + 1 /\ Ws w' (fun _ => False) w.heap.size [] /\ aS w w' cM) := by
 refine IG ?_
 unfold Jr xN
 simp (disch := omega) only [aC, Bm, aA]
 refine fV fun w1 o1 x1 s1 => ?_
 simp only [Value.cells] at o1
 exact ⟨rfl, by omega, ⟨fun h => h, _, [], o1, ⟨rfl, .inl ⟨rfl, rfl⟩⟩, avQ⟩, x1⟩
theorem azB {q : Sq} {k s t : Nat} {L : List T3} {cc : Nat -> Nat} {u : List Bool} {last : Bool} (hc : uK k (kv q k) (cc k)) (h : axI last L (cc k) s t u) : ValB k L s (kv q k) (vb q cc k) := by
 obtain ⟨⟨e, he, hes⟩, _⟩ := h
 exact ⟨cc k, e, hc, he, hes, rfl⟩
theorem aDT (q : Sq) (cc : Nat -> Nat) {k : Nat} (hk : k < 3) : (vb q cc k).length <= 31 := by
 unfold vb; rw [dH]; exact ZF hk _
theorem Jo {last : Bool} {L : List T3} {c s t : Nat} {u : List Bool} (hL : Low L) (h : axI last L c s t u) : u.length <= 20 := by
 obtain ⟨_, h2⟩ := h
 split at h2
 .rw [h2]; simp
 .obtain ⟨e, n, x, he, hn, _, _, rfl⟩ := h2
  obtain ⟨m, h3, h4, _⟩ := hL _ (aIX he)
  rw [dH]; omega
theorem aC7 {last : Bool} {L : List T3} {c s t : Nat} {u : List Bool} (h : axI last L c s t u) : s < L.length := by
 obtain ⟨⟨e, he, _⟩, _⟩ := h
 rcases aH6 s L.length with h | h
 .exact h
 .rw [aH3 h] at he; cases he
theorem aCV {lv : aJ3} {l : List Sq} {L : Nat -> List Nat} {v : Nat -> aJ3} {D : Nat -> Nat -> Prop} {t : Nat -> TT} {a : Nat -> Option Addr} {w : aJ2} (hg : tR w) (h : Cl w 3 lv l.length (Tb l)) (h0 : 0 < l.length) (hl : l.length <= 10000) (hC : C3 w 0 L v D) (hK : ∀ k, k < 3 -> XB k l (L k)) (hT : OO w t a)
 (hG : ∀ k, k < 3 -> yD k (t k) /\ aoP (t k).2 /\ ∀ c ∈ L k, ∃ e ∈ (t k).2, e.1 = (c : Int)) :
 aR pg vJ #[lv, .agg (vL v).toArray, .agg (c6 t a).toArray] w (fun r w' => aG5 w' w.heap.size l t r /\ aS w w' cM) := by
 refine Si ?_
 obtain ⟨RR, hRR⟩ : ∃ RR : aJ3 -> aJ2 -> Prop, RR = fun r w' => aG5 w' w.heap.size l t r /\ aS w w' cM := ⟨_, rfl⟩
 rw [<- hRR]
 have hf := h
 obtain ⟨la, lc, rfl, _⟩ := hf
 unfold O2 xV yA
 refine fV fun w1 o1 x1 s1 => ?_
 refine fV fun w2 o2 x2 s2 => ?_
 obtain ⟨y0, y1, y2, f0, f1, f2⟩ := hC.form
 have o1 : cJ w1 w.heap.size (vL v) := by
  have e : (Value.agg (vL v).toArray).cells.toList = vL v := by unfold vL; rw [f0, f1, f2] <;> rfl
  rw [e] at o1
  exact o1
 have o2 : cJ w2 w1.heap.size (c6 t a) := o2
 refine (auU w2).mono ?_
 rintro r w3 ⟨rfl, hlt3, hW3, x3⟩
 refine anZ fun w4 o4 x4 s4 => ?_
 have o4 : cJ w4 w3.heap.size (s3L (fun _ => 0)) := o4
 have x04 : aS w w4 cM := ((x1.seq x2).seq x3).seq x4
 obtain ⟨pe, hpe⟩ : ∃ pe, pe = w.heap.size := ⟨_, rfl⟩
 obtain ⟨pt, hpt⟩ : ∃ pt, pt = w1.heap.size := ⟨_, rfl⟩
 obtain ⟨p, hp⟩ : ∃ p, p = w2.heap.size := ⟨_, rfl⟩
 obtain ⟨ps, hps⟩ : ∃ ps, ps = w3.heap.size := ⟨_, rfl⟩
 have oE : cJ w4 pe (vL v) := by rw [hpe]; exact ((o1.ext x2 (fun h => h)).ext x3 (fun h => h)).ext x4 (fun h => h)
 have oT : cJ w4 pt (c6 t a) := by rw [hpt]; exact (o2.ext x3 (fun h => h)).ext x4 (fun h => h)
 have hW4 : Ws w4 (fun b => ps < b) p [] := by
  have h1 := hW3.ext x4 (fun h => h) (fun _ h => h.elim)
  rw [hp]
  exact h1.turn (by omega) (fun b h => h.elim)
 rw [<- hpe, <- hpt, <- hp, <- hps]
 rw [<- hps] at o4
 have hge : w.heap.size <= pe /\ pe < pt /\ pt < p /\ p < ps := ⟨by omega, by omega, by omega, by omega⟩
 have hlg : ∀ k, k < 3 -> (t k).1 <= 9 := fun k hk => (hG k hk).1.lg
 unfold yR zG zL
 simp (disch := omega) only [aC, dO, aA, eA, aT]
 unfold zA yS
 refine cG.rule (fun k (x : aJ3) w' => ∃ (m : Nat) (st : Nat -> Nat) (B : List Bool), k = m /\ m <= l.length /\ x = .int .i64 ((m : Int) - 1) /\ cJ w' ps (s3L st) /\ Ws w' (fun b => ps < b) p B /\ (m < l.length -> Enc (t 0).2 (t 1).2 (t 2).2 (l.drop m) (st 0) (st 1) (st 2) B /\ ∀ k, k < 3 -> st k < (t k).2.length) /\ (m = l.length -> B = []) /\ B.length <= 200 * (l.length - m) /\ aS w4 w' (fun y => y = p ∨ y = ps ∨ ps < y)) l.length
  ⟨l.length, fun _ => 0, [], rfl, aHS _, rfl, o4, hW4, fun h => by omega, fun _ => rfl, by simp, aS.refl _ _⟩ ?_
 rintro k x w5 ⟨m, st, B, rfl, hm, rfl, o5, hW5, hEn, hE0, hBl, x5⟩
 unfold sB zE
 have z04 := x04.size
 have x05 : aS w w5 cM := x04.trans x5 fun b hb h => by omega
 have oE5 := oE.ext x5 (by omega)
 have oT5 := oT.ext x5 (by omega)
 rcases k with _ | i
 .obtain ⟨hEn, hst⟩ := hEn h0
  rw [aHM] at hEn
  have d1 : decide ((0 : Int) <= ((0 : Nat) : Int) - 1) = false := rfl
  simp (disch := omega) only [aC, pG, d1, aA, aE]
  unfold Ar AD AA
  simp (disch := omega) only [aC, qK, aA]
  unfold Aj
  have hst' : ∀ k, k < 3 -> st k < 1000 := fun k hk => by
   have h1 := hst k hk
   have h2 : (t k).2.length <= 512 := by rw [(hG k hk).1.len]; exact aHT (by omega) (hlg k hk)
   omega
  refine aC0 ⟨hge.2.2.1, hge.2.2.2⟩ oT5 o5 hW5 hlg hst' (by omega) fun w6 hW6 x6 => ?_
  unfold tJ
  have hlen : (B ++ gD (st 2) (t 2).1 ++ gD (st 1) (t 1).1 ++ gD (st 0) (t 0).1).length <= 10000000 := by
   simp only [aHR, dH]
   have := hlg 0 (by omega); have := hlg 1 (by omega); have := hlg 2 (by omega)
   omega
  refine (aDX hW6.wr hlen).mono ?_
  rintro r w7 ⟨bytes, hb7, hh, hat, x7⟩
  rw [hRR]
  have x06 : aS w w6 cM := x05.trans x6 fun b hb h => by omega
  have z6 := x06.size
  refine ⟨⟨r, bytes, B, st, rfl, hb7, fun M hM => hat M fun b h1 h2 => hM b (by omega) h2, hh, hEn, hst, by omega⟩, x06.seq x7⟩
 .have d1 : decide ((0 : Int) <= ((i + 1 : Nat) : Int) - 1) = true := by simp
  have e1 : ((i + 1 : Nat) : Int) - 1 = (i : Int) := by omega
  have d2 : decide ((0 : Int) <= (i : Int)) = true := by simp
  rw [e1]
  simp (disch := omega) only [aC, pG, d2, aA, aF]
  unfold yO yU GA yL yK
  simp (disch := omega) only [aC, qK, aA]
  unfold yM
  obtain ⟨q, hq⟩ : ∃ q, l[i]? = some q := ⟨_, aHQ hm⟩
  have hcx : ∃ cc : Nat -> Nat, ∀ k, k < 3 -> (L k)[i]? = some (cc k) := by
   have hj : ∀ k, k < 3 -> ∃ c, (L k)[i]? = some c := fun k hk => ⟨_, aHQ (by rw [(hK k hk).1]; exact hm)⟩
   obtain ⟨c0, h0⟩ := hj 0 (by omega)
   obtain ⟨c1, h1⟩ := hj 1 (by omega)
   obtain ⟨c2, h2⟩ := hj 2 (by omega)
   refine ⟨fun k => if k = 0 then c0 else if k = 1 then c1 else c2, fun k hk => ?_⟩
   rcases (show k = 0 ∨ k = 1 ∨ k = 2 by omega) with rfl | rfl | rfl
   .exact h0
   .exact h1
   .exact h2
  obtain ⟨cc, hcc⟩ := hcx
  have hcv : ∀ k, k < 3 -> uK k (kv q k) (cc k) := fun k hk => (hK k hk).2 i q _ hq (hcc k hk)
  refine awU (n := l.length) (cc := cc) hT hC x05 hge oE5 oT5 o5 hW5 hm (by omega) (fun k hk => ⟨hcc k hk, (hcv k hk).1⟩) (fun k hk => ⟨(hG k hk).1, (hG k hk).2.1, (hG k hk).2.2 _ (aIX (hcc k hk))⟩) (fun h => (hEn h).2) (by omega) fun w6 st' us o6 hS hW6 x6 => ?_
  have z5 := x5.size
  have x06 : aS w w6 cM := x05.trans x6 fun b hb h => by omega
  unfold yV yB
  obtain ⟨b, off, c', e, lq⟩ := alS (Om h x06 (cB _) (by omega)) hq
  cases e
  have lq6 := lq w6 (fun _ => rfl)
  simp only [Tc] at lq6
  simp (disch := omega) only [aC, lY, aHH, qK, aA, lq6]
  refine (avR q _).mono ?_
  rintro r w7 ⟨rfl, x7⟩
  refine V5 fun w8 o8 x8 s8 => ?_
  refine Tk o8 rfl (by simp [one, kvL]) (by simp) fun w9 o9 x9 s9 => ?_
  obtain ⟨pv, hpv⟩ : ∃ pv, pv = w7.heap.size := ⟨_, rfl⟩
  rw [<- hpv] at o9 ⊢
  have o9 : cJ w9 pv (kvL q) := o9
  have x69 : aS w6 w9 cM := x7.seq (x8.new x9 (aHS _))
  have z7 := x7.size
  have hps6 := o6.lt
  have x09 := x06.seq x69
  have hW9 : Ws w9 (fun b => ps < b /\ b ≠ pv) p (B ++ (us 1 ++ us 2 ++ us 0)) := by
   have h1 := hW6.turn (T := fun b => ps < b /\ b < w6.heap.size) (by omega) (fun b hb hl => ⟨hb, hl⟩)
   have h2 := h1.ext x69 (fun h => h) (fun _ _ h => h)
   exact h2.turn (by omega) (fun b hb _ => ⟨hb.1, by omega⟩)
  unfold zJ
  have oE9 := (oE5.ext x6 (by omega)).ext x69 (fun h => h)
  refine aCs (q := q) (cc := cc) (i := i) hg hC x09 ⟨hge.1, hge.2.1, hge.2.2.1, hge.2.2.2, by omega⟩ oE9 o9 hW9 (fun k hk => ⟨hcc k hk, hcv k hk⟩) ?_ fun w10 hW10 x10 => ?_
  .have u0 := Jo (hG 0 (by omega)).1.low (hS 0 (by omega))
   have u1 := Jo (hG 1 (by omega)).1.low (hS 1 (by omega))
   have u2 := Jo (hG 2 (by omega)).1.low (hS 2 (by omega))
   simp only [aHR]; omega
  unfold tL
  simp (disch := omega) only [aC, eA, aT, aA]
  have u0 := Jo (hG 0 (by omega)).1.low (hS 0 (by omega))
  have u1 := Jo (hG 1 (by omega)).1.low (hS 1 (by omega))
  have u2 := Jo (hG 2 (by omega)).1.low (hS 2 (by omega))
  have v0 := aDT q cc (k := 0) (by omega)
  have v1 := aDT q cc (k := 1) (by omega)
  have v2 := aDT q cc (k := 2) (by omega)
  have hdr : l.drop i = q :: l.drop (i + 1) := by
   rw [aIh hm]
   congr 1
   rw [aHQ hm] at hq
   exact aH2 hq
  have xz6 := x69.size
  have x6z : aS w4 w10 (fun y => y = p ∨ y = ps ∨ ps < y) := ((x5.seq x6).more x69).seq (x10.mono fun _ _ h => by
   rcases h with h | h
   .exact .inl h
   .exact .inr (.inr h.1))
  have o10 : cJ w10 ps (s3L st') := (o6.ext x69 (fun h => h)).ext x10 (by omega)
  refine ⟨i, by omega, i, st', _, rfl, by omega, rfl, o10, hW10.turn (by omega) (fun b hb _ => hb.1), fun _ => ⟨?_, fun k hk => aC7 (hS k hk)⟩, fun h => by omega, ?_, x6z⟩
  .have a0 := azB (hcv 0 (by omega)) (hS 0 (by omega))
   have a1 := azB (hcv 1 (by omega)) (hS 1 (by omega))
   have a2 := azB (hcv 2 (by omega)) (hS 2 (by omega))
   rw [hdr]
   by_cases hlast : i + 1 = l.length
   .have hB0 := hE0 hlast
    have hd0 : l.drop (i + 1) = [] := aIQ (by omega)
    have hus : ∀ k, k < 3 -> us k = [] := fun k hk => by
     have := (hS k hk).2
     rw [decide_eq_true hlast] at this
     exact this
    rw [hB0, hd0, hus 0 (by omega), hus 1 (by omega), hus 2 (by omega)]
    simp only [aIv, aIy]
    exact Enc.one a0 a1 a2
   .obtain ⟨hEn1, _⟩ := hEn (by omega)
    have hst : ∀ k, k < 3 -> StB (t k).2 (st' k) (st k) (us k) := fun k hk => by
     have := (hS k hk).2
     rw [decide_eq_false hlast] at this
     exact this
    cases hdd : l.drop (i + 1) with
    | nil =>
      have := congrArg List.length hdd
      rw [aIb] at this
      simp at this; omega
    | cons p' r' =>
      rw [hdd] at hEn1
      have := Enc.cons hEn1 (hst 1 (by omega)) (hst 2 (by omega)) (hst 0 (by omega)) a0 a1 a2
      simp only [aHV] at this ⊢
      exact this
  .simp only [aHR]; omega
theorem aEi {t : Nat -> TT} {st : Nat -> Nat} {X T : List Bool} {l : List Sq} (hE : Enc (t 0).2 (t 1).2 (t 2).2 l (st 0) (st 1) (st 2) X) (hst : ∀ k, k < 3 -> st k < 2 ^ (t k).1) (hT : T.take (auG t st X).length = auG t st X) : runT t T l.length ((auG t st X).length : Nat) = (l, 0) := by
 unfold auG at hT ⊢
 obtain ⟨a1, a2, a3⟩ := apJ (B := []) hT rfl (hst 0 (by omega))
 obtain ⟨b1, b2, b3⟩ := apJ (B := []) a3 rfl (hst 1 (by omega))
 obtain ⟨c1, c2, c3⟩ := apJ (B := []) b3 rfl (hst 2 (by omega))
 have := aEa hE c3
 unfold runT
 rw [a1, a2, b1, b2, c1, c2]
 exact this
theorem aCc {t : Nat -> TT} {st : Nat -> Nat} {X : List Bool} {l : List Sq} {bytes : List UInt8} (hE : Enc (t 0).2 (t 1).2 (t 2).2 l (st 0) (st 1) (st 2) X) (hst : ∀ k, k < 3 -> st k < 2 ^ (t k).1) (hh : agF (auG t st X ++ [true]) bytes) : Dd t l.length bytes = .ok (l, t) := by
 obtain ⟨h1, h2⟩ := aD2 hh
 have h3 := aEi hE hst h2
 unfold Dd
 rw [h1]
 simp only
 rw [h3]
 rfl
def Ub (m : Nat -> Nat) : Nat := m 0 * 64 + m 1 * 16 + m 2 * 4
theorem asU {m : Nat -> Nat} (hm : ∀ k, k < 3 -> m k <= 3) {k : Nat} (hk : k < 3) : Ta (Ub m) k = m k := by
 have h0 := hm 0 (by omega); have h1 := hm 1 (by omega); have h2 := hm 2 (by omega)
 unfold Ta Ub
 rcases (show k = 0 ∨ k = 1 ∨ k = 2 by omega) with rfl | rfl | rfl
 .show (m 0 * 64 + m 1 * 16 + m 2 * 4) / 64 % 4 = m 0; omega
 .show (m 0 * 64 + m 1 * 16 + m 2 * 4) / 16 % 4 = m 1; omega
 .show (m 0 * 64 + m 1 * 16 + m 2 * 4) / 4 % 4 = m 2; omega
theorem aCv {m : Nat -> Nat} {c : Nat -> List Int} {t : Nat -> TT} {bs : Nat -> List UInt8} (h : ∀ k : Nat, k < 3 -> XA (k : Int) (c k) (m k : Nat) (t k).1 (t k).2 (bs k)) (o : Nat -> TT) (s : List UInt8) :
 D4 (Ub m) o 3 o (bs 0 ++ (bs 1 ++ (bs 2 ++ s))) = .ok (SD (SD (SD o 0 (t 0)) 1 (t 1)) 2 (t 2), s) := by
 have hm : ∀ k, k < 3 -> m k <= 3 := fun k hk => by have := (h k hk).mode2; omega
 have e0 := asU hm (k := 0) (by omega)
 have e1 := asU hm (k := 1) (by omega)
 have e2 := asU hm (k := 2) (by omega)
 have r0 := (h 0 (by omega)).read (o 0) (bs 1 ++ (bs 2 ++ s))
 have r1 := (h 1 (by omega)).read (o 1) (bs 2 ++ s)
 have r2 := (h 2 (by omega)).read (o 2) s
 rw [D4]
 simp only [show 2 - 2 = 0 from rfl, e0]
 rw [r0]
 simp only [aJQ]
 rw [D4]
 simp only [show 2 - 1 = 1 from rfl, e1]
 rw [r1]
 simp only [aJQ]
 rw [D4]
 simp only [show 2 - 0 = 2 from rfl, e2]
 rw [r2]
 simp only [aJQ]
 rfl
def aCg (n : Nat) (m : Nat -> Nat) (bs : Nat -> List UInt8) (s : List UInt8) : List UInt8 := akB n ++ (UInt8.ofNat (Ub m) :: (bs 0 ++ (bs 1 ++ (bs 2 ++ s))))
theorem aDZ {l : List Sq} {m : Nat -> Nat} {c : Nat -> List Int} {t : Nat -> TT} {bs : Nat -> List UInt8} {st : Nat -> Nat} {X : List Bool} {s : List UInt8} (h0 : 0 < l.length) (hl : l.length <= 98047) (h : ∀ k : Nat, k < 3 -> XA (k : Int) (c k) (m k : Nat) (t k).1 (t k).2 (bs k))
 (hE : Enc (t 0).2 (t 1).2 (t 2).2 l (st 0) (st 1) (st 2) X) (hst : ∀ k, k < 3 -> st k < (t k).2.length) (hh : agF (auG t st X ++ [true]) s) (o : Nat -> TT) :
 ∃ t', tC (aCg l.length m bs s) o = .ok (l, t') /\ ∀ k, k < 3 -> t' k = t k := by
 have hg : ∀ k, k < 3 -> yD k (t k) := fun k hk => adT hk (h k hk)
 have hst' : ∀ k, k < 3 -> st k < 2 ^ (t k).1 := fun k hk => by rw [<- (hg k hk).len]; exact hst k hk
 have hm : ∀ k, k < 3 -> m k <= 2 := fun k hk => by have := (h k hk).mode2; omega
 have m0 := hm 0 (by omega); have m1 := hm 1 (by omega); have m2 := hm 2 (by omega)
 have hmod : Ub m < 256 := by unfold Ub; omega
 refine ⟨SD (SD (SD o 0 (t 0)) 1 (t 1)) 2 (t 2), ?_, fun k hk => ?_⟩
 .unfold tC aCg
  rw [aBz hl]
  simp only
  rw [if_neg (by omega)]
  unfold aqZ
  simp only
  rw [Qj hmod, if_neg (by unfold Ub; omega), aCv h]
  simp only
  have e0 : SD (SD (SD o 0 (t 0)) 1 (t 1)) 2 (t 2) 0 = t 0 := rfl
  have e1 : SD (SD (SD o 0 (t 0)) 1 (t 1)) 2 (t 2) 1 = t 1 := rfl
  have e2 : SD (SD (SD o 0 (t 0)) 1 (t 1)) 2 (t 2) 2 = t 2 := rfl
  refine aCc (st := st) (X := X) (by rw [e0, e1, e2]; exact hE) (fun k hk => ?_) (by unfold auG at hh ⊢; rw [e0, e1, e2]; exact hh)
  rcases (show k = 0 ∨ k = 1 ∨ k = 2 by omega) with rfl | rfl | rfl
  .rw [e0]; exact hst' 0 hk
  .rw [e1]; exact hst' 1 hk
  .rw [e2]; exact hst' 2 hk
 .rcases (show k = 0 ∨ k = 1 ∨ k = 2 by omega) with rfl | rfl | rfl <;> rfl
def Cw (w : aJ2) (p : Nat) (S : Nat -> Prop) (l : List UInt8) : Prop := ¬ S p /\ ∃ v, cJ w p [v] /\ OSS w S 1 v l.length (l.map GI)
theorem Cw.ext {w w' : aJ2} {p : Nat} {S M : Nat -> Prop} {l : List UInt8} (h : Cw w p S l) (x : aS w w' M) (hp : ¬ M p) (hM : ∀ b, S b -> ¬ M b) : Cw w' p S l := by
 obtain ⟨h0, v, h1, h2⟩ := h
 exact ⟨h0, v, h1.ext x hp, ND h2 x hM⟩
theorem Cw.lt {w : aJ2} {p : Nat} {S : Nat -> Prop} {l : List UInt8} (h : Cw w p S l) : p < w.heap.size := by
 obtain ⟨_, v, h1, _⟩ := h; exact h1.lt
theorem Cw.turn {w : aJ2} {p : Nat} {S T : Nat -> Prop} {l : List UInt8} (h : Cw w p S l) (hT : ∀ b, S b -> b < w.heap.size -> T b) (hp : ¬ T p) : Cw w p T l := by
 obtain ⟨h0, v, h1, h2, h3⟩ := h
 refine ⟨hp, v, h1, h2, ?_⟩
 rcases h3 with h3 | ⟨b, c, rest, g1, g2, g3, g4, g5⟩
 .exact .inl h3
 .exact .inr ⟨b, c, rest, g1, hT b g2 g3.lt, g3, g4, g5⟩
theorem UN {w : aJ2} {S : Nat -> Prop} {sz n : Nat} {v : aJ3} {l : List aJ3} (o3 : OSS w S sz v n l) : ∃ a c, v = .slice a n c := by
 rcases o3.2 with ⟨rfl, rfl⟩ | ⟨b, c, rest, rfl, _⟩
 .exact ⟨_, _, rfl⟩
 .exact ⟨_, _, rfl⟩
theorem auB {w : aJ2} {S : Nat -> Prop} {n : Nat} {v : aJ3} {l : List aJ3} (o3 : OSS w S 1 v n l) : Sl w v l := by
 have : rN w 0 1 v n l := ⟨o3.1, by
  rcases o3.2 with h | ⟨b, c, rest, g1, g2, g3⟩
  .exact .inl h
  .exact .inr ⟨b, c, rest, g1, by omega, g3⟩⟩
 exact this.sl
theorem azX (w : aJ2) : aR pg uZ #[] w (fun r w' => r = .pointer (some ⟨w.heap.size, 0, none⟩) /\ w.heap.size < w'.heap.size /\ Cw w' w.heap.size (fun b => w.heap.size < b) [] /\ aS w w' cM) := by
 refine S5 ?_
 unfold Pc AB
 simp (disch := omega) only [aC, DV, aA]
 refine fV fun w1 o1 x1 s1 => ?_
 simp only [Value.cells] at o1
 exact ⟨rfl, by omega, ⟨by omega, _, o1, ⟨rfl, .inl ⟨rfl, rfl⟩⟩⟩, x1⟩
theorem apI {p : Nat} {S : Nat -> Prop} {l m : List UInt8} {v : aJ3} {w : aJ2} (h : Cw w p S l) (hS : ∀ b, w.heap.size <= b -> S b) (hv : Bs w v m) (hl : l.length + m.length <= 1000000000) :
 aR pg nK #[.pointer (some ⟨p, 0, none⟩), v] w (fun r w' => r = .tuple #[] /\ Cw w' p S (l ++ m) /\ aS w w' (fun y => y = p ∨ S y)) := by
 refine Np ?_
 unfold ID vO
 obtain ⟨h0, v0, o, os⟩ := h
 obtain ⟨va, vc, rfl⟩ := UN os
 have c0 := o.cell (off := 0)
 simp only [aHJ, aHK] at c0
 have lp := o.lt
 simp (disch := omega) only [aC, xY, aH7, aI7, rM, true_and, aA, nU, gA, c0, aI, aF]
 have hcl := hv.cl
 rw [aHU] at hcl
 refine uL (m := m.length) (news := m.map GI) (i := Tryd.t5) Tryd.underlying22 Tryd.underlying22 U9 rfl rfl rfl os hcl (azN _) (fun b hb => hS b hb) (by omega) (by rw [show Tryd.t5.bytes = 1 from rfl]; omega) (by decide) fun v3 w3 o3 x3 => ?_
 have op3 := o.ext x3 h0
 obtain ⟨a3, c3, rfl⟩ := UN o3
 refine Gu op3 rfl (by simp) fun w4 o4 x4 s4 => ?_
 simp only [aHL, aHN] at o4
 refine ⟨⟨h0, _, o4, ?_⟩, (x3.mono fun y _ h => .inr h).seq (x4.mono fun y _ h => .inl h)⟩
 have := ND o3 x4 (fun b hb h => h0 (h ▸ hb))
 rw [aHR, aIo]
 exact this
theorem Mw {p x n : Nat} {S : Nat -> Prop} {l : List UInt8} {w : aJ2} (h : Cw w p S l) (hS : ∀ b, w.heap.size <= b -> S b) (hx : x < 2 ^ 64) (hn : 1 <= n /\ n <= 8) (hl : l.length <= 100000000) :
 aR pg gQ #[.pointer (some ⟨p, 0, none⟩), .int .u64 x, .int .i64 n] w (fun r w' => r = .tuple #[] /\ Cw w' p S (l ++ PI x n) /\ aS w w' (fun y => y = p ∨ S y)) := by
 refine L8 ?_
 unfold Gp tT tU
 have d1 : decide ((n : Int) < 1) = false := by simp; omega
 have d2 : decide ((8 : Int) < (n : Int)) = false := by simp; omega
 simp (disch := omega) only [aC, rZ, aH7, true_and, aA, dB, bN, aHP, if_false, bP, aX, d1, dM, d2, aE]
 unfold tZ uB
 refine cG.rule (fun m (t : aJ3) w' => ∃ i : Nat, m = n - i /\ t = .int .i64 i /\ i <= n /\ Cw w' p S (l ++ PI x i) /\ aS w w' (fun y => y = p ∨ S y)) n
  ⟨0, rfl, rfl, by omega, by rw [PI, aIy]; exact h, aS.refl _ _⟩ ?_
 rintro m t w1 ⟨i, rfl, rfl, hi, hw, x1⟩
 unfold pL
 by_cases hlt : i < n
 .have d3 : decide ((i : Int) < (n : Int)) = true := by simp; omega
  have e0 : ((8 : Int) * (i : Int)) = ((8 * i : Nat) : Int) := by omega
  have e1 : (x : Int).fdiv (2 ^ (min (8 * i) IntKind.u64.bits)) = ((x / 256 ^ i : Nat) : Int) := by
   rw [azC]; exact UX x (8 * i) (by omega)
  have e2 : IntKind.u8.wrap ((x / 256 ^ i : Nat) : Int) = (((UInt8.ofNat (x / 256 ^ i % 256)).toNat : Nat) : Int) := by
   rw [UInt8.toNat_ofNat']
   generalize x / 256 ^ i = y
   rw [show IntKind.u8.wrap (y : Int) = (y : Int) % 256 from rfl]
   omega
  obtain ⟨c, hc⟩ : ∃ c, c = UInt8.ofNat (x / 256 ^ i % 256) := ⟨_, rfl⟩
  rw [<- hc] at e2
  obtain ⟨h0, v0, o, os⟩ := hw
  obtain ⟨va, vc, rfl⟩ := UN os
  have c0 := o.cell (off := 0)
  simp only [aHJ, aHK] at c0
  have lp := o.lt
  have hsz := x1.size
  have hpl := Cm i x
  rw [aHR, hpl] at os
  rw [aHR, hpl] at c0
  simp (disch := omega) only [aC, aX, d3, rM, pS, e0, aT, bM, aA, nU, lM, hP, xL, aHH, e1, pP, e2, gA, c0, aI, aF]
  refine uM (cells := #[.int .u8 c.toNat]) (by decide) (by decide) (by kernel_rfl) fun w2 o2 x2 s2 => ?_
  refine uL (m := 1) (news := [GI c]) (i := Tryd.t5) Tryd.underlying22 Tryd.underlying22 U9 rfl rfl rfl (ND os x2 (fun _ _ h => h)) (o2.cl (off := 0) (l := [GI c]) (n := 1) rfl (fun i hi => by rw [aHI] <;> rfl)) (by simp [one, GI]) (fun b hb => hS b (by omega)) (by omega) (by rw [show Tryd.t5.bytes = 1 from rfl]; omega) (by decide) fun v3 w3 o3 x3 => ?_
  have x13 : aS w1 w3 S := (x2.mono fun _ _ h => h.elim).seq x3
  have op3 := o.ext x13 h0
  obtain ⟨a3, c3, rfl⟩ := UN o3
  refine Gu op3 rfl (by simp) fun w4 o4 x4 s4 => ?_
  simp only [aHL, aHN] at o4
  have x14 : aS w1 w4 (fun y => y = p ∨ S y) := (x13.mono fun y _ h => .inr h).seq (x4.mono fun y _ h => .inl h)
  refine ⟨n - (i + 1), by omega, i + 1, rfl, rfl, by omega, ⟨h0, _, o4, ?_⟩, x1.seq x14⟩
  have := ND o3 x4 (fun b hb h => h0 (h ▸ hb))
  rw [asI, <- hc, <- aHV, aIo, aHR, aHR, Cm]
  exact this
 .have d3 : decide ((i : Int) < (n : Int)) = false := by simp; omega
  obtain rfl : i = n := by omega
  simp (disch := omega) only [aC, aX, d3, rM, pS, aT, bM, aA, nU, lM, hP, xL, pP, gA, aE]
  exact ⟨hw, x1⟩
theorem aDQ {p : Nat} {S : Nat -> Prop} {l : List UInt8} {w : aJ2} (h : Cw w p S l) (hl : l.length <= 1000000000) :
 aR pg tM #[.pointer (some ⟨p, 0, none⟩)] w (fun r w' => rN w' w.heap.size 1 r l.length (l.map GI) /\ aS w w' cM) := by
 refine Q3 ?_
 unfold Mt zK
 obtain ⟨h0, v0, o, os⟩ := h
 obtain ⟨va, vc, rfl⟩ := UN os
 have c0 := o.cell (off := 0)
 simp only [aHJ, aHK] at c0
 simp (disch := omega) only [aC, rZ, aH7, rM, aA, nU, gA, c0, aI, aE]
 exact U6 (auB os) hl
def aBK (m : Nat -> Nat) (k : Nat) : Nat := if k = 0 then 0 else if k = 1 then m 0 * 64 else if k = 2 then m 0 * 64 + m 1 * 16 else m 0 * 64 + m 1 * 16 + m 2 * 4
theorem aBJ {m : Nat -> Nat} {k x : Nat} (hk : k < 3) (hm : ∀ i, i < k -> m i <= 2) (hx : x <= 2) : aBK m k ||| (x * 2 ^ (6 - 2 * k)) = aBK (upS m k x) (k + 1) /\ aBK m k < 256 := by
 have h1 : ∀ x, x < 3 -> 0 ||| (x * 64) = x * 64 := by decide
 have h2 : ∀ a, a < 3 -> ∀ x, x < 3 -> (a * 64) ||| (x * 16) = a * 64 + x * 16 := by decide
 have h3 : ∀ a, a < 3 -> ∀ b, b < 3 -> ∀ x, x < 3 -> (a * 64 + b * 16) ||| (x * 4) = a * 64 + b * 16 + x * 4 := by decide
 rcases (show k = 0 ∨ k = 1 ∨ k = 2 by omega) with rfl | rfl | rfl
 .exact ⟨h1 x (by omega), by unfold aBK; simp⟩
 .have a := hm 0 (by omega)
  exact ⟨h2 (m 0) (by omega) x (by omega), by show m 0 * 64 < 256; omega⟩
 .have a := hm 0 (by omega)
  have b := hm 1 (by omega)
  exact ⟨h3 (m 0) (by omega) (m 1) (by omega) x (by omega), by show m 0 * 64 + m 1 * 16 < 256; omega⟩
def aqI (bs : Nat -> List UInt8) (k : Nat) : List UInt8 := if k = 0 then [] else if k = 1 then bs 0 else if k = 2 then bs 0 ++ bs 1 else bs 0 ++ bs 1 ++ bs 2
def upB (bs : Nat -> List UInt8) (k : Nat) (x : List UInt8) : Nat -> List UInt8 := fun i => if i = k then x else bs i
theorem aCo {bs : Nat -> List UInt8} {k : Nat} (hk : k < 3) (x : List UInt8) : aqI (upB bs k x) (k + 1) = aqI bs k ++ x := by
 rcases (show k = 0 ∨ k = 1 ∨ k = 2 by omega) with rfl | rfl | rfl <;> simp [aqI, upB]
def TbE (w : aJ2) (E : Nat -> Prop) (o : Nat -> TT) (a : Nat -> Option Addr) : Prop := ∀ k, k < 3 -> (o k = (0, []) /\ a k = none) ∨ ∃ b, E b /\ Tbl w 0 b (o k).1 (o k).2 (tvL (o k) (a k))
theorem TbE.tb {w : aJ2} {E : Nat -> Prop} {o : Nat -> TT} {a : Nat -> Option Addr} (h : TbE w E o a) : OO w o a := fun k hk => by
 rcases h k hk with ⟨h1, h2⟩ | ⟨b, _, h⟩
 .left; rw [h1, h2]; exact ⟨rfl, rfl⟩
 .exact .inr ⟨b, h⟩
theorem TbE.ext {w w' : aJ2} {E M : Nat -> Prop} {o : Nat -> TT} {a : Nat -> Option Addr} (h : TbE w E o a) (x : aS w w' M) (hM : ∀ b, E b -> ¬ M b) : TbE w' E o a := fun k hk => by
 rcases h k hk with h | ⟨b, hb, h1, h2, h3⟩
 .exact .inl h
 .exact .inr ⟨b, hb, h1, h2, h3.ext x (hM b hb)⟩
theorem C3.extD {w w' : aJ2} {base : Nat} {L : Nat -> List Nat} {v : Nat -> aJ3} {D : Nat -> Nat -> Prop} {M : Nat -> Prop} (h : C3 w base L v D) (x : aS w w' M) (hM : ∀ k, k < 3 -> ∀ b, D k b -> ¬ M b) : C3 w' base L v D :=
 ⟨fun k hk => (h.row k hk).ext x fun b hb => hM k hk b hb, fun k hk b hb => ⟨(h.bd k hk b hb).1, by have := (h.bd k hk b hb).2; have := x.size; omega⟩, h.sep⟩
def iL (L : List Nat) : List Int := L.map fun (n : Nat) => (n : Int)
theorem aCT {k1 : K6} {RR : K1} {lv wv : aJ3} {pe pt : Nat} {L : Nat -> List Nat} {v : Nat -> aJ3} {D : Nat -> Nat -> Prop} {w : aJ2} (hg : tR w) (oE : cJ w pe (vL v)) (hC : C3 w 0 L v D) (oT : cJ w pt (c6 (fun _ => (0, [])) (fun _ => none))) (hpe : pe ≠ pt) (hD : ∀ k, k < 3 -> ∀ b, D k b -> b ≠ pt) (x0 : ∀ w', aS w w' (fun y => y = pt) -> tR w')
 (hL : ∀ k, k < 3 -> L k ≠ [] /\ (L k).length <= 10000 /\ ∀ c ∈ L k, c < lC k)
 (hk : ∀ (w' : aJ2) (t : Nat -> TT) (a : Nat -> Option Addr) (m : Nat -> Nat) (bs : Nat -> List UInt8) (tv : aJ3), (∀ k : Nat, k < 3 -> XA (k : Int) (iL (L k)) (m k : Nat) (t k).1 (t k).2 (bs k)) -> cJ w' pt (c6 t a) -> OO w' t a -> Bs w' tv (bs 0 ++ bs 1 ++ bs 2) -> AtI tv w.heap.size w'.heap.size -> aS w w' (fun y => y = pt) -> k1 lv wv (.pointer (some ⟨pe, 0, none⟩)) (.pointer (some ⟨pt, 0, none⟩)) (.int .i64 (Ub m)) tv w') :
 vT k1 RR lv wv (.pointer (some ⟨pe, 0, none⟩)) (.pointer (some ⟨pt, 0, none⟩)) (.int .i64 0) (.slice none 0 0) (.int .i64 0) w := by
 have hpt := oT.lt
 unfold vT
 refine cG.rule (fun n (x : aJ3 × aJ3 × aJ3) w' => ∃ (j : Nat) (t : Nat -> TT) (a : Nat -> Option Addr) (m : Nat -> Nat) (bs : Nat -> List UInt8) (tv : aJ3) (E Dt : Nat -> Prop), n = j /\ j <= 3 /\ x = (.int .i64 (aBK m (3 - j) : Nat), tv, .int .i64 (3 - j : Nat)) /\
  (∀ k : Nat, k < 3 - j -> XA (k : Int) (iL (L k)) (m k : Nat) (t k).1 (t k).2 (bs k)) /\ (∀ k, k < 3 -> ¬ k < 3 - j -> t k = (0, []) /\ a k = none) /\ cJ w' pt (c6 t a) /\ TbE w' E t a /\ OSS w' Dt 1 tv (aqI bs (3 - j)).length ((aqI bs (3 - j)).map GI) /\ (aqI bs (3 - j)).length <= 1000 * (3 - j) /\
  (∀ b, E b -> w.heap.size <= b /\ b < w'.heap.size) /\ (∀ b, Dt b -> w.heap.size <= b /\ b < w'.heap.size) /\ (∀ b, Dt b -> ¬ E b) /\ aS w w' (fun y => y = pt)) 3
  ⟨3, fun _ => (0, []), fun _ => none, fun _ => 0, fun _ => [], _, fun _ => False, fun _ => False, rfl, aHS _, rfl, fun k h => by omega, fun _ _ _ => ⟨rfl, rfl⟩, oT, fun _ _ => .inl ⟨rfl, rfl⟩, ⟨rfl, .inl ⟨rfl, rfl⟩⟩, aHS _, fun _ h => h.elim, fun _ h => h.elim, fun _ h => h.elim, aS.refl _ _⟩ ?_
 rintro j x w1 ⟨n, t, a, m, bs, tv, E, Dt, rfl, hj, rfl, hW, hU, o1, hE, hos, hlen, hEb, hDb, hsep, x1⟩
 have z1 := x1.size
 unfold vH
 rcases j with _ | j
 .have d1 : decide (((3 - 0 : Nat) : Int) < 3) = false := rfl
  simp (disch := omega) only [aC, aX, d1, pS, aT, bM, aA, eA, aE]
  refine hk _ t a m bs tv (fun k hk => hW k hk) o1 hE.tb (auB hos) (fun M hM => ?_) x1
  rcases hos.2 with ⟨rfl, _⟩ | ⟨b, c, rest, rfl, h2, h3, _⟩
  .exact fun h => h
  .exact At.at b 0 _ c M (hM b (hDb b h2).1 h3.lt)
 obtain ⟨k, hkk⟩ : ∃ k, k = 2 - j := ⟨_, rfl⟩
 have hk3 : k < 3 := by omega
 have ek : ((3 - (j + 1) : Nat) : Int) = (k : Int) := by omega
 have ek2 : 3 - (j + 1) = k := by omega
 have ek3 : 3 - j = k + 1 := by omega
 have d1 : decide ((k : Int) < 3) = true := by simp; omega
 rw [ek]
 rw [ek2] at hW hU hos hlen ⊢
 obtain ⟨hL1, hL2, hL3⟩ := hL k hk3
 have oE1 := oE.ext x1 hpe
 have hC1 := hC.extD x1 (fun k hk b hb => hD k hk b hb)
 have cE := oE1.cell (off := k)
 rw [aAS _ hk3] at cE
 simp (disch := omega) only [aC, aX, d1, sZ, aHH, aHI, eL, pS, aT, bM, aA, eA, cL, cE, aI, aF]
 have hsl : Sl w1 (v k) ((iL (L k)).map (Value.int .i64)) := by
  have := auB (hC1.row k hk3)
  unfold iL
  rw [List.map_map]
  exact this
 refine (aDz (x0 w1 x1) hsl (by unfold iL; rw [aHU]; omega)).mono ?_
 rintro r w2 ⟨hr, x2⟩
 rcases hr with ⟨hno, _⟩ | ⟨_, mode, lg, T, bytes, tt, bv, rfl, hV, hob, hWr⟩
 .exfalso
  refine hno ⟨by omega, by unfold iL; intro h; exact hL1 (List.map_eq_nil_iff.1 h), fun x hx => ?_⟩
  unfold iL at hx
  obtain ⟨c, hc, rfl⟩ := aIx.1 hx
  have := hL3 c hc
  rw [aBl hk3]
  omega
 have h0 := hWr.mode0
 have h2 := hWr.mode2
 obtain ⟨md, rfl⟩ : ∃ md : Nat, mode = md := ⟨mode.toNat, by omega⟩
 have hbl := hWr.blen
 obtain ⟨ta, rfl⟩ := hV.form
 have z2 := x2.size
 have n0 : ((0 : Int) != 0) = false := rfl
 simp (disch := omega) only [x40, x41, x42, x43, aA, eT, mN, auM]
 refine iP fun w3 o3 x3 s3 => ?_
 refine eJ o3 rfl (by simp [one]) (by simp) fun w4 o4 x4 s4 => ?_
 have o4 : cJ w4 w2.heap.size [.int .i64 lg, .slice ta T.length T.length] := o4
 have x24 : aS w2 w4 cM := x3.new x4 (aHS _)
 have z4 := x24.size
 have x14 := x2.seq x24
 have l4 := gL (off := 0) o4 (by simp)
 simp only [aHM, aHG, aHO] at l4
 simp (disch := omega) only [n0, l4, aA, aE]
 refine eJ (o1.ext x14 (fun h => h)) rfl (by simp [one]) (by simp [c6]; omega) fun w5 o5 x5 s5 => ?_
 have o5 : cJ w5 pt (c6 (SD t k (lg, T)) (upA a k ta)) := by rw [<- aAp _ _ hk3]; exact o5
 have e2 : (2 : Int) * (k : Int) = ((2 * k : Nat) : Int) := by omega
 have e6 : (6 : Int) - ((2 * k : Nat) : Int) = ((6 - 2 * k : Nat) : Int) := by omega
 have hm2 : ∀ i, i < k -> m i <= 2 := fun i hi => by have := (hW i hi).mode2; omega
 obtain ⟨hst, hp8⟩ := aBJ (m := m) hk3 hm2 (x := md) (by omega)
 have hb64 : IntKind.i64.bits = 64 := rfl
 have hpw : (md : Int) * 2 ^ min (6 - 2 * k) IntKind.i64.bits = ((md * 2 ^ (6 - 2 * k) : Nat) : Int) := by
  rw [hb64, aIA (by omega)]; simp
 have hpl : 2 ^ (6 - 2 * k) <= 2 ^ 6 := aHT (by omega) (by omega)
 have hml : md * 2 ^ (6 - 2 * k) <= 2 * 2 ^ 6 := Nat.mul_le_mul (by omega) hpl
 have eor := asQ (a := aBK m k) (b := md * 2 ^ (6 - 2 * k)) (by omega) (by omega)
 rw [hst] at eor
 have ew : IntKind.i64.wrap ((md * 2 ^ (6 - 2 * k) : Nat) : Int) = ((md * 2 ^ (6 - 2 * k) : Nat) : Int) := aT (by omega) (by omega)
 simp (disch := omega) only [e2, e6, aHH, hpw, ew, eor]
 have x15 : aS w1 w5 (fun y => y = pt) := (x14.mono fun _ _ h => h.elim).seq x5
 have z5 := x15.size
 have hDpt : ∀ b, Dt b -> b ≠ pt := fun b hb => by have := (hDb b hb).1; omega
 have hos5 : OSS w5 (fun b => Dt b ∨ w5.heap.size <= b) 1 tv (aqI bs k).length ((aqI bs k).map GI) := by
  have := (hos.ext x15 (fun b hb => hDpt b hb))
  refine ⟨this.1, ?_⟩
  rcases this.2 with h | ⟨b, c, rest, e, hb, r⟩
  .exact .inl h
  .exact .inr ⟨b, c, rest, e, .inl hb, r⟩
 have hob5 := (hob.ext x24 (fun _ _ h => h)).ext x5 (fun b hb h => by omega)
 refine uL (m := bytes.length) (news := bytes.map GI) (i := Tryd.t5) Tryd.underlying22 Tryd.underlying22 U9 rfl rfl rfl hos5 hob5.cl (azN _) (fun b hb => .inr hb) (by omega) (by rw [show Tryd.t5.bytes = 1 from rfl]; omega) (by decide) fun v6 w6 o6 x6 => ?_
 have z6 := x6.size
 have e1 : (k : Int) + 1 = ((3 - j : Nat) : Int) := by omega
 have hcs := aCo (bs := bs) hk3 bytes
 have hW6 : OSS w6 (fun b => (Dt b ∨ w5.heap.size <= b) /\ b < w6.heap.size) 1 v6 (aqI (upB bs k bytes) (k + 1)).length ((aqI (upB bs k bytes) (k + 1)).map GI) := by
  rw [hcs, aHR, aIo]
  refine ⟨o6.1, ?_⟩
  rcases o6.2 with h | ⟨b, c, rest, e, hb, ho, r⟩
  .exact .inl h
  .exact .inr ⟨b, c, rest, e, ⟨hb, ho.lt⟩, ho, r⟩
 have hS6 : ∀ b, (Dt b ∨ w5.heap.size <= b) -> b < w5.heap.size -> Dt b := fun b hb hl => by
  rcases hb with h | h
  .exact h
  .omega
 simp (disch := omega) only [e1]
 refine ⟨j, by omega, j, SD t k (lg, T), upA a k ta, upS m k md, upB bs k bytes, v6, fun b => E b ∨ (w1.heap.size <= b /\ b < w2.heap.size), fun b => (Dt b ∨ w5.heap.size <= b) /\ b < w6.heap.size, rfl, by omega, by rw [ek3], fun i hi => ?_, fun i hi hni => ?_, ?_, ?_, by rw [ek3]; exact hW6, ?_, ?_, ?_, ?_, ?_⟩
 .rw [ek3] at hi
  unfold SD upS upB
  by_cases he : i = k
  .subst he; simp only [if_pos rfl]; exact hWr
  .simp only [if_neg he]; exact hW i (by omega)
 .rw [ek3] at hni
  unfold SD upA
  rw [if_neg (by omega), if_neg (by omega)]
  exact hU i hi (by omega)
 .refine o5.ext x6 fun h => ?_
  rcases h with h | h
  .exact hDpt pt h rfl
  .omega
 .intro i hi
  by_cases he : i = k
  .subst he
   rcases hV with ⟨e, e'⟩ | ⟨b, hb1, hb2, hb3⟩
   .have := hWr.has
    rw [Prod.mk.injEq] at e
    obtain ⟨c, hc⟩ := aJJ _ hL1
    obtain ⟨x, hx, _⟩ := hWr.has (c : Int) (aIx.2 ⟨c, hc, rfl⟩)
    rw [e.2] at hx; cases hx
   .have hbl2 := hb3.lt
    have e1 : SD t i (lg, T) i = (lg, T) := by unfold SD; rw [if_pos rfl]
    have e2 : upA a i ta i = ta := by unfold upA; rw [if_pos rfl]
    rw [e1, e2]
    refine .inr ⟨b, .inr ⟨hb2, hbl2⟩, hb1, aIT _, ?_⟩
    refine ((hb3.ext x24 (fun h => h)).ext x5 (by omega)).ext x6 fun h => ?_
    rcases h with h | h
    .have := (hDb b h).2; omega
    .omega
  .have e1 : SD t k (lg, T) i = t i := by unfold SD; rw [if_neg he]
   have e2 : upA a k ta i = a i := by unfold upA; rw [if_neg he]
   rw [e1, e2]
   rcases hE i hi with h | ⟨b, hb, h1, h2, h3⟩
   .exact .inl h
   .have hbE := hEb b hb
    refine .inr ⟨b, .inl hb, h1, h2, (h3.ext x15 (by omega)).ext x6 fun h => ?_⟩
    rcases h with h | h
    .exact hsep b h hb
    .omega
 .rw [ek3, hcs, aHR]; omega
 .intro b hb
  rcases hb with hb | hb
  .have := hEb b hb; omega
  .omega
 .intro b hb
  rcases hb.1 with h | h
  .have := (hDb b h).1; omega
  .omega
 .intro b hb hb2
  rcases hb.1 with h | h
  .rcases hb2 with h2 | h2
   .exact hsep b h h2
   .have := (hDb b h).2; omega
  .rcases hb2 with h2 | h2
   .have := hEb b h2; omega
   .omega
 .refine (x1.seq x15).trans x6 fun b hb h => ?_
  rcases h with h | h
  .have := (hDb b h).1; omega
  .omega
def avC (l : List Sq) : Prop := ∀ q ∈ l, ∀ k, k < 3 -> ∃ c, uK k (kv q k) c
def aEc (w : aJ2) (base : Nat) (l : List Sq) (r : aJ3) : Prop :=
 (¬ avC l /\ r = .tuple #[.slice none 0 0, .int .i64 1]) ∨
 (avC l /\ ∃ (bv : aJ3) (bytes : List UInt8), r = .tuple #[bv, .int .i64 0] /\ rN w base 1 bv bytes.length (bytes.map GI) /\ bytes.length <= 500000 /\ 0 < bytes.length /\ (l = [] -> bytes = [0]) /\
  ∀ o, ∃ t', tC bytes o = .ok (l, t') /\ (l ≠ [] -> ∀ k, k < 3 -> (∀ p ∈ l, ∀ q ∈ l, p = q) -> (t' k).2.length = 1))
theorem aHl {n : Nat} (h : n < 65536) : ((n : Int).fdiv (2 ^ min (8 : Int).toNat IntKind.i64.bits)) = ((n / 256 : Nat) : Int) := by
 have h8 : min (8 : Int).toNat IntKind.i64.bits = 8 := rfl
 rw [h8, aJn _ (by decide)]
 rfl
theorem aAl {x : Nat} (h : x < 2 ^ 62) : aoM .i64 (x : Int) 255 = ((x % 256 : Nat) : Int) := by
 unfold aoM
 have e : IntKind.i64.bits = 64 := rfl
 have h1 : (BitVec.ofInt 64 (x : Int) &&& BitVec.ofInt 64 255).toNat = x % 256 := by
  rw [BitVec.toNat_and, BitVec.ofInt_natCast, show (255 : Int) = ((255 : Nat) : Int) from rfl, BitVec.ofInt_natCast, BitVec.toNat_ofNat, BitVec.toNat_ofNat, aIg (by omega), aIg (by omega)]
  exact Nat.and_two_pow_sub_one_eq_mod x 8
 rw [e, h1]
 exact aT (by omega) (by omega)
theorem X1 {lv : aJ3} {l : List Sq} {w : aJ2} (hg : tR w) (h : Cl w 3 lv l.length (Tb l)) (hu : ∀ q ∈ l, ∀ k, kv q k < 4294967296) (hl : l.length <= 10000) :
 aR pg mP #[lv] w (fun r w' => aEc w' w.heap.size l r /\ aS w w' cM) := by
 refine TC ?_
 obtain ⟨RR, hRR⟩ : ∃ RR : aJ3 -> aJ2 -> Prop, RR = fun r w' => aEc w' w.heap.size l r /\ aS w w' cM := ⟨_, rfl⟩
 rw [<- hRR]
 have hf := h
 obtain ⟨la, lc, rfl, _⟩ := hf
 unfold Sa Ax Az
 refine (azX w).mono ?_
 rintro r w1 ⟨rfl, hz1, hw1, x1⟩
 obtain ⟨p, hp⟩ : ∃ p, p = w.heap.size := ⟨_, rfl⟩
 rw [<- hp] at hw1 ⊢
 have d1 : decide (98047 < (l.length : Int)) = false := by simp; omega
 by_cases h0 : l.length = 0
 .have n1 : ((l.length : Int) == 0) = true := by rw [h0] <;> rfl
  have hnil := aIk.1 h0
  simp (disch := omega) only [aC, dO, aA, dM, d1, cR, n1, aX, fY, hP, xL, R9, bM, eA, aT, aF, aE]
  refine uM (cells := #[.int .u8 0]) (by decide) (by decide) (by kernel_rfl) fun w2 o2 x2 s2 => ?_
  rw [hRR]
  refine ⟨.inr ⟨?_, _, [0], rfl, ⟨rfl, .inr ⟨_, 1, [], rfl, by omega, o2, rfl, aHS _⟩⟩, by simp, by simp, fun _ => rfl, fun o => ⟨o, ?_, fun h => absurd hnil h⟩⟩, x1.seq x2⟩
  .rw [hnil]; intro q hq; cases hq
  .rw [hnil] <;> rfl
 have n1 : ((l.length : Int) == 0) = false := by simp; intro h; subst h; exact h0 rfl
 have hN : ∀ b, w1.heap.size <= b -> p < b := fun b hb => by omega
 have main : ∀ w2, Cw w2 p (fun b => p < b) (akB l.length) -> aS w w2 cM -> vM RR (.slice la l.length lc) (.pointer (some ⟨p, 0, none⟩)) w2 := by
  intro w2 hw2 x02
  have z02 := x02.size
  have hg2 := hg.ext x02
  have h2 := Om h x02 (cB _) (by omega)
  have hw2' := hw2.turn (T := fun b => p < b /\ b < w2.heap.size) (fun b hb hs => ⟨hb, hs⟩) (by omega)
  unfold vM BU
  refine (aEM hg2 h2 hu (by omega)).mono ?_
  rintro r w3 ⟨hr, x3⟩
  have x03 := x02.seq x3
  rcases hr with ⟨v, D, L, rfl, hC, hK⟩ | ⟨⟨q, hq, k, hk, hno⟩, y0, y1, y2, rfl⟩
  rotate_left
  .have n2 : ((1 : Int) != 0) = true := rfl
   simp (disch := omega) only [aC, B9, B7, aA, eT]
   refine FB fun w4 o4 x4 s4 => ?_
   refine Js o4 rfl (by simp [one]) (by simp) fun w5 o5 x5 s5 => ?_
   simp (disch := omega) only [n2, aF]
   rw [hRR]
   refine ⟨.inl ⟨fun hc => ?_, rfl⟩, (x03.seq x4).new x5 (by have := x03.size; omega)⟩
   obtain ⟨c, hc⟩ := hc q hq k hk
   exact hno c hc
  have n2 : ((0 : Int) != 0) = false := rfl
  have z3 := x3.size
  have hones := hC.ones
  simp (disch := omega) only [aC, B9, B7, aA, eT]
  refine FB fun w4 o4 x4 s4 => ?_
  refine Js o4 rfl (by simpa [vL] using hones) (by simp [vL]) fun w5 o5 x5 s5 => ?_
  have o5 : cJ w5 w3.heap.size (vL v) := by simpa [vL, aV] using o5
  simp (disch := omega) only [n2, aE]
  refine iO fun w6 o6 x6 s6 => ?_
  have o6 : cJ w6 w5.heap.size (c6 (fun _ => (0, [])) (fun _ => none)) := o6
  obtain ⟨pe, hpe⟩ : ∃ pe, pe = w3.heap.size := ⟨_, rfl⟩
  obtain ⟨pt, hpt⟩ : ∃ pt, pt = w5.heap.size := ⟨_, rfl⟩
  rw [<- hpe] at o5 ⊢
  rw [<- hpt] at o6 ⊢
  have x36 : aS w3 w6 cM := (x4.new x5 (aHS _)).seq x6
  have x26 := x3.seq x36
  have x06 := x02.seq x26
  have hC6 := (hC.ext x36 (fun _ _ _ h => h)).lower (aIT _)
  have hDl : ∀ k, k < 3 -> ∀ b, D k b -> b < w3.heap.size := fun k hk b hb => (hC.bd k hk b hb).2
  unfold B5 Ci Ck BF
  have hcoded : avC l := fun q hq k hk => by
   obtain ⟨i, hi, rfl⟩ := aIf hq
   have hlt : i < (L k).length := by rw [(hK k hk).1]; exact hi
   exact ⟨_, (hK k hk).2 i _ _ (aHQ hi) (aHQ hlt)⟩
  have hLp : ∀ k, k < 3 -> L k ≠ [] /\ (L k).length <= 10000 /\ ∀ c ∈ L k, c < lC k := fun k hk => by
   refine ⟨fun h => ?_, by rw [(hK k hk).1]; exact hl, fun c hc => ?_⟩
   .have := (hK k hk).1
    rw [h] at this
    simp at this; omega
   .obtain ⟨i, hi, rfl⟩ := aIf hc
    have hlt : i < l.length := by rw [<- (hK k hk).1]; exact hi
    exact ((hK k hk).2 i _ _ (aHQ hlt) (aHQ hi)).1
  have o56 : cJ w6 pe (vL v) := o5.ext x6 (fun h => h)
  refine aCT (hg.ext x06) o56 hC6 o6 (by omega) (fun k hk b hb => by have := hDl k hk b hb; omega) (fun w' x => hg.ext (x06.trans x fun b hb h => by omega)) hLp fun w7 t a m bs tv hWr o7 hT7 hb7 hat7 x7 => ?_
  have z6 := x36.size
  have x27 : aS w2 w7 cM := x26.trans x7 fun b hb h => by omega
  have x07 := x02.seq x27
  have o57 := o56.ext x7 (by omega)
  have hC7 := hC6.extD x7 (fun k hk b hb => by have := hDl k hk b hb; omega)
  obtain ⟨y0, y1, y2, f0, f1, f2⟩ := hC.form
  have l5 := LI (off := 0) o57 (by simp [vL])
  simp only [vL, aHM, aHG, aHO] at l5
  have l7 := mE (off := 0) o7 (by simp [c6])
  simp only [c6, aHM, aHG, aHO] at l7
  unfold vP
  simp (disch := omega) only [aC, l5, fY, aA, l7]
  refine (aCV (hg.ext x07) (Om h x07 (cB _) (by omega)) (by omega) hl hC7 hK hT7 (fun k hk => ⟨adT hk (hWr k hk), aAd (hWr k hk), fun c hc => (hWr k hk).has (c : Int) (aIx.2 ⟨c, hc, rfl⟩)⟩)).mono ?_
  rintro r w8 ⟨⟨bv, s, X, st, rfl, hb8, hat8, hh, hEn, hst, hX⟩, x8⟩
  have x28 := x27.seq x8
  have hm2 : ∀ k, k < 3 -> m k <= 2 := fun k hk => by have := (hWr k hk).mode2; omega
  have m0 := hm2 0 (by omega); have m1 := hm2 1 (by omega); have m2 := hm2 2 (by omega)
  have hmod : Ub m < 256 := by unfold Ub; omega
  have ew : IntKind.u64.wrap ((Ub m : Nat) : Int) = ((Ub m : Nat) : Int) := hP (by omega) (by omega)
  have b0 := (hWr 0 (by omega)).blen
  have b1 := (hWr 1 (by omega)).blen
  have b2 := (hWr 2 (by omega)).blen
  have hnw : (akB l.length).length <= 3 := by unfold akB; split <;> (try split) <;> simp [PI]
  have z7 := x7.size
  have z8 := x8.size
  have hlg : ∀ k, k < 3 -> (t k).1 <= 9 := fun k hk => (adT hk (hWr k hk)).lg
  have hsl : s.length <= 300000 := by
   have h1 := hh.len
   have g0 := hlg 0 (by omega); have g1 := hlg 1 (by omega); have g2 := hlg 2 (by omega)
   rw [h1]
   unfold auG
   simp only [aHR, dH, aI3]
   omega
  have hw8 := hw2'.ext x28 (fun h => h) (fun _ _ h => h)
  have hw8' := hw8.turn (T := fun b => (p < b /\ b < w2.heap.size) ∨ w8.heap.size <= b) (fun b hb _ => .inl hb) (by omega)
  simp (disch := omega) only [B9, B7, ew, aA, eT, n2, aE]
  refine (Mw (x := Ub m) (n := 1) hw8' (fun b hb => .inr hb) (by omega) (by omega) (by omega)).mono ?_
  rintro r w9 ⟨rfl, hw9, x9⟩
  have hb79 : Bs w9 tv (bs 0 ++ bs 1 ++ bs 2) := (hb7.ext x8 (cB _)).ext x9 (hat7 _ fun b h1 h2 h => by omega)
  have hb89 : Bs w9 bv s := hb8.ext x9 (hat8 _ fun b h1 h2 h => by omega)
  have hw9' := hw9.turn (T := fun b => ((p < b /\ b < w2.heap.size) ∨ w8.heap.size <= b)) (fun b hb _ => hb) (by omega)
  have z9 := x9.size
  refine (apI hw9' (fun b hb => .inr (by omega)) hb79 (by simp only [aHR, Cm]; omega)).mono ?_
  rintro r w10 ⟨rfl, hw10, x10⟩
  have hb810 : Bs w10 bv s := hb89.ext x10 (hat8 _ fun b h1 h2 h => by omega)
  have z10 := x10.size
  refine (apI hw10 (fun b hb => .inr (by omega)) hb810 (by simp only [aHR, Cm]; omega)).mono ?_
  rintro r w11 ⟨rfl, hw11, x11⟩
  have z11 := x11.size
  refine (aDQ hw11 (by simp only [aHR, Cm]; omega)).mono ?_
  rintro r w12 ⟨ho, x12⟩
  have hput : PI (Ub m) 1 = [UInt8.ofNat (Ub m)] := by
   show [UInt8.ofNat (Ub m % 256)] = _
   rw [aIg hmod]
  have hbytes : akB l.length ++ PI (Ub m) 1 ++ (bs 0 ++ bs 1 ++ bs 2) ++ s = aCg l.length m bs s := by
   unfold aCg
   rw [hput]
   simp only [aHV, aIP, aIv]
  rw [hbytes] at ho
  have hsec : (aCg l.length m bs s).length = (akB l.length).length + (1 + ((bs 0).length + ((bs 1).length + ((bs 2).length + s.length)))) := by
   unfold aCg
   simp only [aHR, aH5]; omega
  rw [hRR]
  refine ⟨.inr ⟨hcoded, r, _, rfl, ho.lower (by omega), by omega, by omega, fun hn => absurd (by rw [hn] <;> rfl) h0, fun o => ?_⟩, ?_⟩
  .obtain ⟨t', ht, htt⟩ := aDZ (by omega) (by omega) hWr hEn hst hh o
   refine ⟨t', ht, fun _ k hk hall => ?_⟩
   rw [htt k hk]
   refine ((hWr k hk).one fun x hx y hy => ?_).2
   unfold iL at hx hy
   obtain ⟨c, hc, rfl⟩ := aIx.1 hx
   obtain ⟨d, hd, rfl⟩ := aIx.1 hy
   obtain ⟨i, hi, rfl⟩ := aIf hc
   obtain ⟨j, hj, rfl⟩ := aIf hd
   have hil : i < l.length := by rw [<- (hK k hk).1]; exact hi
   have hjl : j < l.length := by rw [<- (hK k hk).1]; exact hj
   have q1 := (hK k hk).2 i _ _ (aHQ hil) (aHQ hi)
   have q2 := (hK k hk).2 j _ _ (aHQ hjl) (aHQ hj)
   rw [hall _ (aH1 hil) _ (aH1 hjl)] at q1
   rw [q1.one hk q2]
  .have x211 : aS w w11 cM := by
    refine aS.trans (x02.seq x28) (((x9.mono fun _ _ h => h).seq x10).seq x11 : aS w8 w11 (fun y => y = p ∨ ((p < y /\ y < w2.heap.size) ∨ w8.heap.size <= y))) fun b hb h => ?_
    omega
   exact x211.seq x12
 by_cases h128 : l.length < 128
 .have d2 : decide ((l.length : Int) < 128) = true := by simp; omega
  have ew : IntKind.u64.wrap (l.length : Int) = (l.length : Int) := hP (by omega) (by omega)
  simp (disch := omega) only [aC, dO, aA, dM, d1, cR, n1, aX, d2, fY, ew, xL, R9, bM, eA, aT, aF, aE]
  refine (Mw (x := l.length) (n := 1) hw1 hN (by omega) (by omega) (by simp)).mono ?_
  rintro r w2 ⟨rfl, hw2, x2⟩
  refine main w2 ?_ (x1.trans x2 fun b hb h => by omega)
  have e : [] ++ PI l.length 1 = akB l.length := by
   unfold akB
   rw [if_pos h128]
   show [UInt8.ofNat (l.length % 256)] = _
   rw [aIg (by omega)]
  rw [e] at hw2
  exact hw2
 .have d2 : decide ((l.length : Int) < 128) = false := by simp; omega
  have d3 : decide ((l.length : Int) < 32512) = true := by simp; omega
  have e1 := aHl (n := l.length) (by omega)
  have e2 : ((l.length / 256 : Nat) : Int) + 128 = ((l.length / 256 + 128 : Nat) : Int) := by omega
  have ew : IntKind.u64.wrap ((l.length / 256 + 128 : Nat) : Int) = ((l.length / 256 + 128 : Nat) : Int) := hP (by omega) (by omega)
  have e3 := aAl (x := l.length) (by omega)
  have ew3 : IntKind.u64.wrap ((l.length % 256 : Nat) : Int) = ((l.length % 256 : Nat) : Int) := hP (by omega) (by omega)
  have ew1 : IntKind.i64.wrap ((l.length / 256 + 128 : Nat) : Int) = ((l.length / 256 + 128 : Nat) : Int) := aT (by omega) (by omega)
  simp (disch := omega) only [aC, dO, aA, dM, d1, cR, n1, aX, d2, fY, hP, d3, xL, e1, R9, bM, e2, ew1, ew, eA, aT, aF, aE]
  refine (Mw (x := l.length / 256 + 128) (n := 1) hw1 hN (by omega) (by omega) (by simp)).mono ?_
  rintro r w2 ⟨rfl, hw2, x2⟩
  simp (disch := omega) only [e3]
  have z2 := x2.size
  refine (Mw (x := l.length % 256) (n := 1) hw2 (fun b hb => by omega) (by omega) (by omega) (by simp [PI])).mono ?_
  rintro r w3 ⟨rfl, hw3, x3⟩
  refine main w3 ?_ ((x1.trans x2 fun b hb h => by omega).trans x3 fun b hb h => by omega)
  have e : [] ++ PI (l.length / 256 + 128) 1 ++ PI (l.length % 256) 1 = akB l.length := by
   unfold akB
   rw [if_neg h128, if_pos (by omega)]
   show [UInt8.ofNat ((l.length / 256 + 128) % 256)] ++ [UInt8.ofNat (l.length % 256 % 256)] = _
   rw [aIg (show l.length / 256 + 128 < 256 by omega), aIg (show l.length % 256 < 256 by omega)]
   rfl
  rw [e] at hw3
  exact hw3
theorem amJ {t : Nat -> TT} (h : ∀ k, k < 3 -> yD k (t k)) (B : List Bool) (st : Nat -> Nat) (left : Int) : RX t (sts t B 3 st left).1 /\ left - 27 <= (sts t B 3 st left).2 /\ (sts t B 3 st left).2 <= left := by
 have g0 := (h 0 (by omega)).lg
 have g1 := (h 1 (by omega)).lg
 have g2 := (h 2 (by omega)).lg
 have e : (sts t B 3 st left).2 = left - (t 0).1 - (t 1).1 - (t 2).1 := rfl
 refine ⟨fun k hk => ⟨h k hk, ?_⟩, by omega, by omega⟩
 rw [(h k hk).len]
 rcases (show k = 0 ∨ k = 1 ∨ k = 2 by omega) with rfl | rfl | rfl
 .exact Xl B left (t 0).1
 .exact Xl B (left - (t 0).1) (t 1).1
 .exact Xl B (left - (t 0).1 - (t 1).1) (t 2).1
theorem Qm (o : Nat -> TT) (n : Nat) (l : List UInt8) : aqZ o n l = match MB o l with
 | .error e => .error e
 | .ok (t, r) => Dd t n r := by
 cases l with
 | nil => rfl
 | cons m l =>
   unfold aqZ MB
   by_cases hm : m.toNat % 4 ≠ 0
   .simp only [if_pos hm]
   .simp only [if_neg hm]
    cases D4 m.toNat o 3 o l <;> rfl
theorem Q9 {o t : Nat -> TT} {l r : List UInt8} (ho : anQ o) (h : MB o l = .ok (t, r)) : (∀ k, k < 3 -> yD k (t k)) /\ r.length <= l.length := by
 cases l with
 | nil => cases h
 | cons m l =>
   have hh : MB o (m :: l) = if m.toNat % 4 ≠ 0 then .error 11 else D4 m.toNat o 3 o l := rfl
   rw [hh] at h
   by_cases hm : m.toNat % 4 ≠ 0
   .rw [if_pos hm] at h; cases h
   .rw [if_neg hm] at h
    obtain ⟨h1, h2⟩ := asM ho (by omega) (fun k hk => by omega) h
    exact ⟨h1, by simp; omega⟩
theorem atC {l r : List UInt8} {n : Nat} (h : SP l = .ok (n, r)) : n <= 98047 /\ r.length <= l.length := by
 cases l with
 | nil => cases h
 | cons f l =>
   have hf : f.toNat < 256 := aIc f
   rw [SP] at h
   split at h
   .cases h; exact ⟨by omega, by simp⟩
   .split at h
    .cases l with
     | nil => cases h
     | cons x l =>
       have hx : x.toNat < 256 := aIc x
       cases h; exact ⟨by omega, by simp; omega⟩
    .match l with
     | [] => cases h
     | [x] => cases h
     | x :: y :: l =>
       have hx : x.toNat < 256 := aIc x
       have hy : y.toNat < 256 := aIc y
       cases h; exact ⟨by omega, by simp; omega⟩
theorem atV {k1 : K5} {t5 n8 : aJ3} {pt ps lo hi : Nat} {t : Nat -> TT} {a : Nat -> Option Addr} {st : Nat -> Nat} {l : List UInt8} {left : Int} {w : aJ2} (oT : cJ w pt (c6 t a)) (hT : OO w t a) (oS : cJ w ps (s3L st)) (hB : Yf w lo hi l left)
 (h1 : pt < lo) (h2 : lo <= hi) (h3 : hi < ps) (hG : ∀ k, k < 3 -> yD k (t k)) (hl : l.length <= 1000000) (hb1 : left <= 8 * l.length) (hb2 : -90000000 <= left)
 (hk : ∀ w', cJ w' ps (s3L (sts t (bE l) 3 st left).1) -> Yf w' lo hi l (sts t (bE l) 3 st left).2 -> aS w w' (fun y => y = hi ∨ y = ps) -> k1 t5 n8 (.pointer (some ⟨pt, 0, none⟩)) (.pointer (some ⟨hi, 0, none⟩)) (.pointer (some ⟨ps, 0, none⟩)) w') :
 uV k1 t5 n8 (.pointer (some ⟨pt, 0, none⟩)) (.pointer (some ⟨hi, 0, none⟩)) (.pointer (some ⟨ps, 0, none⟩)) (.int .i64 0) w := by
 have hps := oS.lt
 unfold uV
 refine cG.rule (fun n (v : aJ3) w' => ∃ (j : Nat) (st' : Nat -> Nat) (left' : Int), n = j /\ j <= 3 /\ v = .int .i64 (3 - j : Nat) /\ cJ w' ps (s3L st') /\ Yf w' lo hi l left' /\ sts t (bE l) 3 st left = sts t (bE l) j st' left' /\ left - 20 * (3 - j : Nat) <= left' /\ left' <= left /\ aS w w' (fun y => y = hi ∨ y = ps)) 3
  ⟨3, st, left, rfl, aHS _, rfl, oS, hB, rfl, by simp, Int.le_refl _, aS.refl _ _⟩ ?_
 rintro j v w1 ⟨n, st', left', rfl, hj, rfl, oS1, hB1, hE, hc1, hc2, x1⟩
 unfold vD
 rcases j with _ | j
 .have d1 : decide (((3 - 0 : Nat) : Int) < 3) = false := rfl
  simp (disch := omega) only [aC, aX, d1, bM, aT, aA, aE]
  rw [hE] at hk
  exact hk _ oS1 hB1 x1
 .obtain ⟨k, hkk⟩ : ∃ k, k = 2 - j := ⟨_, rfl⟩
  have hk3 : k < 3 := by omega
  have ek : ((3 - (j + 1) : Nat) : Int) = (k : Int) := by omega
  have d1 : decide ((k : Int) < 3) = true := by simp; omega
  rw [ek]
  have hN : sts t (bE l) (j + 1) st' left' = sts t (bE l) j (upS st' k (rdL (bE l) left' (t k).1)) (left' - (t k).1) := by rw [hkk] <;> rfl
  have hGk := hG k hk3
  have hlg := hGk.lg
  have oT1 := oT.ext x1 (by omega)
  have l2 := gL (off := k * 2) oT1 (by simp [c6]; omega)
  rw [aqR _ _ hk3] at l2
  simp (disch := omega) only [aC, aX, d1, eL, aHH, aHI, yF, bM, aT, aA, l2, aF]
  obtain ⟨cs, oc, hcs⟩ := hB1.hd
  refine (ayP hB1 h2 oc.lt (by omega) (by omega) (by omega) hl).mono ?_
  rintro v w2 ⟨rfl, hB2, x2⟩
  have q1 : tB ((bE l).take left'.toNat) (t k).1 = rdL (bE l) left' (t k).1 := rfl
  rw [q1]
  have oS2 := oS1.ext x2 (by omega)
  refine tA oS2 rfl (by simp [s3L]; omega) fun w3 o3 x3 s3 => ?_
  rw [asY _ hk3] at o3
  have e1 : (k : Int) + 1 = ((3 - j : Nat) : Int) := by omega
  simp (disch := omega) only [e1]
  refine ⟨j, by omega, _, _, _, rfl, by omega, rfl, o3, hB2.ext x3 (fun b _ _ => by omega) h2, by rw [hE, hN], by omega, by omega, (x1.seq (x2.mono fun _ _ h => .inl h)).seq (x3.mono fun _ _ h => .inr h)⟩
def arY (w : aJ2) (base : Nat) (x : Except Int (List Sq × (Nat -> TT))) (r : aJ3) : Prop := match x with
 | .error e => r = .tuple #[.slice none 0 0, Gy, .int .i64 e]
 | .ok (q, t) => ∃ v a, r = .tuple #[v, .agg (c6 t a).toArray, .int .i64 0] /\ rN w base 3 v q.length (Tb q) /\ OO w t a
theorem Tu {p : Nat} {w : aJ2} {x0 x1 x2 : Int} {a0 a1 a2 : Option Addr} {n0 n1 n2 : Nat} {c : List aJ3} {s e : aJ3} (o : cJ w p c) (hc : c.length = 6) {RR : aJ3 -> aJ2 -> Prop}
 (hR : ∀ w', aS w w' (fun y => y = p) -> RR (.tuple #[s, .agg #[.int .i64 x0, .slice a0 n0 n0, .int .i64 x1, .slice a1 n1 n1, .int .i64 x2, .slice a2 n2 n2], e]) w') :
 aC pg (aJ 29 (.pointer (some ⟨p, 0, none⟩)) (.agg #[.int .i64 x0, .slice a0 n0 n0, .int .i64 x1, .slice a1 n1 n1, .int .i64 x2, .slice a2 n2 n2])) w fun _u w => kI pg 29 (.pointer (some ⟨p, 0, none⟩)) w fun r1 => RR (.tuple #[s, r1, e]) w := by
 match c, hc with
 | [c0, c1, c2, c3, c4, c5], _ =>
   refine jF o rfl (by simp [one]) (by simp) fun w6 o6 x6 s6 => ?_
   refine Gx o6 (by simp [aV]) ?_
   simp only [aV, aHL, aHN, aHM, aHG, aHO]
   exact hR _ x6
theorem afD {bv : aJ3} {l : List UInt8} {o : Nat -> TT} {a : Nat -> Option Addr} {w : aJ2} (hg : tR w) (hb : Bs w bv l) (hl : l.length <= 1000000) (hT : OO w o a) (hO : anQ o) :
 aR pg mI #[bv, .agg (c6 o a).toArray] w (fun r w' => arY w' w.heap.size (tC l o) r /\ aS w w' cM) := by
 refine VJ ?_
 obtain ⟨RR, hRR⟩ : ∃ RR : aJ3 -> aJ2 -> Prop, RR = fun r w' => arY w' w.heap.size (tC l o) r /\ aS w w' cM := ⟨_, rfl⟩
 rw [<- hRR]
 have err : ∀ {e : Int} {w' : aJ2}, tC l o = .error e -> aS w w' cM -> RR (.tuple #[.slice none 0 0, Gy, .int .i64 e]) w' := fun h x => by
  rw [hRR]; unfold arY; rw [h]; exact ⟨rfl, x⟩
 unfold Tw B1 BM
 refine fV fun w1 o1 x1 s1 => ?_
 have o1 : cJ w1 w.heap.size (c6 o a) := o1
 refine iO fun w2 o2 x2 s2 => ?_
 have x02 := x1.seq x2
 refine (aiI (hb.ext x02 (cB _)) (by omega)).mono ?_
 rintro r w3 ⟨p, rfl, h3, x3⟩
 have hp1 := h3.1
 have hp2 := h3.2.1
 have o1 := (o1.ext x2 (fun h => h)).ext x3 (fun h => h)
 have o2 := o2.ext x3 (fun h => h)
 have x03 := x02.seq x3
 have z2 := x02.size
 refine (awF h3 (by omega)).mono ?_
 rintro r w4 ⟨hN, x4⟩
 have o1 := o1.ext x4 (by omega)
 have o2 := o2.ext x4 (by omega)
 have x04 := x03.new x4 (by omega)
 have fin : ∀ {w5 w' : aJ2}, aS w w5 cM -> aS w5 w' (fun y => y = w1.heap.size) -> aS w w' cM := fun h x => h.new x (by omega)
 unfold atE at hN
 cases hn : SP l with
 | error e =>
   rw [hn] at hN
   obtain ⟨he, n, l', rfl, h4⟩ := hN
   have hR : tC l o = .error e := by unfold tC; rw [hn]
   have n1 : (e != 0) = true := by simpa using he
   refine (UU h4).mono ?_
   rintro r w5 ⟨rfl, hw⟩
   rw [hw]; clear hw w5
   simp (disch := omega) only [aC, eT, n1, dL, aA, cR, true_and, bN, aF]
   refine (UU h4).mono ?_
   rintro r w5 ⟨rfl, hw⟩
   rw [hw]; clear hw w5
   exact Tu o2 rfl fun w' x => err hR (fin x04 x)
 | ok y =>
   obtain ⟨n, l'⟩ := y
   rw [hn] at hN
   obtain ⟨rfl, h4⟩ := hN
   obtain ⟨hn1, hl'⟩ := atC hn
   have n1 : ((0 : Int) != 0) = false := rfl
   refine (UU h4).mono ?_
   rintro r w5 ⟨rfl, hw⟩
   rw [hw]; clear hw w5
   have hR : tC l o = if n = 0 then (if l' = [] then .ok ([], o) else .error 15) else aqZ o n l' := by unfold tC; rw [hn]
   by_cases hn0 : n = 0
   .subst hn0
    rw [if_pos rfl] at hR
    have n2 : (((0 : Nat) : Int) == 0) = true := rfl
    simp (disch := omega) only [aC, eT, n1, dL, aA, cR, n2, true_and, aF, sX, bN, if_true, bP, aE]
    refine (aoS h4).mono ?_
    rintro r w5 ⟨rfl, hw⟩
    rw [hw]; clear hw w5
    by_cases hl0 : l' = []
    .subst hl0
     rw [if_pos rfl] at hR
     have d1 : decide (0 < ((([] : List UInt8).length : Nat) : Int)) = false := rfl
     have l1 := mE (off := 0) (dN o1) (by simp [c6])
     simp only [c6, aHM, aHG, aHO] at l1
     simp (disch := omega) only [dM, d1, aA, l1, true_and, aE]
     refine Tu (dN o2) rfl fun w' x => ?_
     rw [hRR]; unfold arY; rw [hR]
     have x' := fin (x04.seq (aS.dr _ _)) x
     exact ⟨⟨_, a, rfl, rN.nil _ _ _, hT.ext x'⟩, x'⟩
    .rw [if_neg hl0] at hR
     have hpos := aII.2 hl0
     have d1 : decide (0 < ((l'.length : Nat) : Int)) = true := by simp; exact hpos
     simp (disch := omega) only [dM, d1, aA, aF]
     exact Tu o2 rfl fun w' x => err hR (fin x04 x)
   .rw [if_neg hn0] at hR
    have n2 : ((n : Int) == 0) = false := by simp; exact hn0
    have l1 := mE (off := 0) o1 (by simp [c6])
    simp only [c6, aHM, aHG, aHO] at l1
    simp (disch := omega) only [aC, eT, n1, dL, aA, cR, n2, true_and, aE, Fm, bN, aHP, if_false, dV, l1]
    have hO6 : ∀ k, k < 3 -> (o k).2.length <= 1000000 := fun k hk => by
     rcases aIN (o k).2.length with h | h
     .omega
     .have := hO k hk (aII.1 h)
      rw [this.len]
      have : 2 ^ (o k).1 <= 2 ^ 9 := aHT (by omega) this.lg
      omega
    have z4 := x4.size
    refine (aFT hg x04 (by omega) h4 z4 (by omega) (hT.ext x04) hO6).mono ?_
    rintro r w5 ⟨hTo, x5⟩
    rw [Qm] at hR
    have x05 := x04.new x5 (by omega)
    have o1 := o1.ext x5 (by omega)
    have o2 := o2.ext x5 (by omega)
    have z5 := x5.size
    cases hh : MB o l' with
    | error e =>
      rw [hh] at hR hTo
      obtain ⟨rfl, he⟩ := hTo
      have n3 : (e != 0) = true := by simpa using he
      unfold Gy
      simp (disch := omega) only [B9, B7, aA, eT]
      refine iO fun w6 o6 x6 s6 => ?_
      refine jF o6 rfl (by simp [one]) (by simp) fun w7 o7 x7 s7 => ?_
      have x57 : aS w5 w7 cM := x6.new x7 (aHS _)
      simp (disch := omega) only [n3, aF]
      exact Tu (o2.ext x57 (fun h => h)) rfl fun w' x => err hR (fin (x05.seq x57) x)
    | ok y =>
      obtain ⟨t, l2⟩ := y
      rw [hh] at hR hTo
      have hR : tC l o = Dd t n l2 := hR
      obtain ⟨ta, rfl, hT5, h5⟩ := hTo
      obtain ⟨hG, hl2⟩ := Q9 hO hh
      simp only [c6]
      simp (disch := omega) only [B9, B7, aA, eT]
      refine iO fun w6 o6 x6 s6 => ?_
      refine jF o6 rfl (by simp [one]) (by simp) fun w7 o7 x7 s7 => ?_
      have o7 : cJ w7 w5.heap.size (c6 t ta) := o7
      have x57 : aS w5 w7 cM := x6.new x7 (aHS _)
      have h7 := (h5.up (aHS _)).ext x57 (fun _ _ _ h => h)
      have x07 := x05.seq x57
      have z7 := x57.size
      simp (disch := omega) only [n1, aE]
      refine (aoS h7).mono ?_
      rintro r w8 ⟨rfl, hw⟩
      rw [hw]; clear hw w8
      refine (arK h7 (by omega) (by omega)).mono ?_
      rintro bv8 w8 ⟨hb8, hat8, h8, x8⟩
      have htk : Jl l2 0 l2.length = (l2, [], 0) := by unfold Jl; rw [if_neg (by decide), if_neg (by omega), aJi, List.drop_length]
      rw [htk] at hb8
      simp only at hb8
      have x08 := x07.new x8 (by omega)
      have z8 := x8.size
      have hp5 := h5.2.1
      have o8 := o7.ext x8 (by omega)
      have o2 := (o2.ext x57 (fun h => h)).ext x8 (by omega)
      have hT8 : OO w8 t ta := (hT5.ext x57).rdr h7 x8
      cases he : YK l2 with
      | none =>
        have hB : Dd t n l2 = .error 11 := by unfold Dd; rw [he]
        rw [hB] at hR
        have n3 : ((11 : Int) != 0) = true := rfl
        refine (alF hb8 he (by omega)).mono ?_
        rintro r w9 ⟨rfl, hw⟩
        rw [hw]; clear hw w9
        simp (disch := omega) only [B9, B7, aA, eT, n3, aF]
        exact Tu o2 rfl fun w' x => err hR (fin x08 x)
      | some k =>
        obtain ⟨hk0, hk1, hk2, _⟩ := Pp he
        refine (aoO hb8 he (by omega)).mono ?_
        rintro r w9 ⟨hi, rfl, hhi1, hhi2, hB9, x9⟩
        simp (disch := omega) only [B9, B7, aA, eT, n1, aE]
        refine anZ fun w10 o10 x10 s10 => ?_
        have o10 : cJ w10 w9.heap.size (s3L (fun _ => 0)) := o10
        have x89 := x9.seq x10
        have z10 := x10.size
        unfold BK BE B4 BY
        refine atV (o8.ext x89 (fun h => h)) (hT8.ext x89) o10 (hB9.ext x10 (fun _ _ _ h => h) hhi1) (by omega) hhi1 hhi2 hG (by omega) (by omega) (by omega) fun w11 o11 hB11 x11 => ?_
        obtain ⟨g1, g2, g3⟩ := amJ hG (bE l2) (fun _ => 0) (k : Int)
        have z11 := x11.size
        have z9 := x9.size
        have x011 : aS w w11 cM := (x08.seq x89).trans x11 fun b hb h => by omega
        have x811 : aS w8 w11 cM := x89.trans x11 fun b hb h => by omega
        unfold BB BX Bw BR Bx Ch
        refine aAf (n := n) (by omega) hg x011 (o8.ext x811 (fun h => h)) (hT8.ext x811) o11 hB11 (by omega) (by omega) hhi1 hhi2 g1 (by omega) (by omega) (by omega) fun w12 out os12 hB12 oT12 hT12 x12 => ?_
        obtain ⟨_, _, hlen⟩ := anO (B := bE l2) (n := n) (left := (sts t (bE l2) 3 (fun _ => 0) (k : Int)).2) g1
        have hB : Dd t n l2 = if (runT t (bE l2) n k).2 < 0 then .error 11 else if 0 < (runT t (bE l2) n k).2 then .error 15 else .ok ((runT t (bE l2) n k).1, t) := by unfold Dd; rw [he]
        rw [hB] at hR
        rw [<- apK] at os12 hB12 hlen
        have x012 : aS w w12 cM := x011.trans x12 fun b hb h => by omega
        have x812 : aS w8 w12 cM := x811.trans x12 fun b hb h => by omega
        have o2 := o2.ext x812 (fun h => h)
        unfold wZ
        refine (asJ hB12).mono ?_
        rintro r w13 ⟨rfl, hw⟩
        rw [hw]; clear hw w13
        generalize hq : runT t (bE l2) n k = q at *
        by_cases hneg : q.2 < 0
        .have d1 : decide (q.2 < 0) = true := by simpa using hneg
         rw [if_pos hneg] at hR
         simp (disch := omega) only [aC, aX, d1, dL, aA, true_and, aF]
         exact Tu o2 rfl fun w' x => err hR (fin x012 x)
        .have d1 : decide (q.2 < 0) = false := by simpa using hneg
         rw [if_neg hneg] at hR
         simp (disch := omega) only [aC, aX, d1, dL, aA, true_and, aE]
         refine (asJ hB12).mono ?_
         rintro r w13 ⟨rfl, hw⟩
         rw [hw]; clear hw w13
         by_cases hps : 0 < q.2
         .have d2 : decide (0 < q.2) = true := by simpa using hps
          rw [if_pos hps] at hR
          simp (disch := omega) only [dM, d2, aA, aF]
          exact Tu o2 rfl fun w' x => err hR (fin x012 x)
         .have d2 : decide (0 < q.2) = false := by simpa using hps
          rw [if_neg hps] at hR
          have l9 := mE (off := 0) (dN oT12) (by simp [c6])
          simp only [c6, aHM, aHG, aHO] at l9
          simp (disch := omega) only [dM, d2, aA, l9, true_and, aE]
          refine Tu (dN o2) rfl fun w' x => ?_
          rw [hRR]; unfold arY; rw [hR]
          have x' := fin (x012.seq (aS.dr _ _)) x
          have xd : aS w12 w' (fun y => y = w1.heap.size) := (aS.dr _ _).seq x
          refine ⟨⟨out, ta, rfl, ?_, hT12.own o2 (by simp) (fun u => by simp) xd⟩, x'⟩
          rw [hlen]
          exact (os12.ext xd (fun b hb h => by omega)).lower (by omega)
abbrev rv (x : ByteArray) (e : Int) : aJ3 := .agg #[.string x, .int .i64 e]
theorem amS {p : Nat} {w : aJ2} {x : ByteArray} {e : Int} {c : List aJ3} {z : aJ3} (o : cJ w p c) (hc : c.length = 2) {RR : aJ3 -> aJ2 -> Prop}
 (hR : ∀ w', aS w w' (fun y => y = p) -> RR (.tuple #[rv x e, z]) w') :
 aC pg (aJ 72 (.pointer (some ⟨p, 0, none⟩)) (rv x e)) w fun _u w => kI pg 72 (.pointer (some ⟨p, 0, none⟩)) w fun r0 => RR (.tuple #[r0, z]) w := by
 match c, hc with
 | [c0, c1], _ =>
   refine iM o rfl (by simp [one]) (by simp) fun w6 o6 x6 s6 => ?_
   refine SI o6 (by simp [aV]) ?_
   simp only [aV, aHL, aHN, aHM, aHG, aHO]
   exact hR _ x6
theorem aB7 {x : ByteArray} {e : Int} {n : Nat} {w : aJ2} :
 aR pg Jb #[rv x e, .int .i64 n] w (fun r w' => ∃ x' s, r = .tuple #[rv x' (Jl (lL x) e n).2.2, .string s] /\ lL x' = (Jl (lL x) e n).2.1 /\ lL s = (Jl (lL x) e n).1 /\ aS w w' cM) := by
 refine akK ?_
 obtain ⟨RR, hRR⟩ : ∃ RR : aJ3 -> aJ2 -> Prop, RR = fun r w' => ∃ x' s, r = .tuple #[rv x' (Jl (lL x) e n).2.2, .string s] /\ lL x' = (Jl (lL x) e n).2.1 /\ lL s = (Jl (lL x) e n).1 /\ aS w w' cM := ⟨_, rfl⟩
 rw [<- hRR]
 have hll := kK x
 unfold anU Ny
 refine fV fun w1 o1 x1 s1 => ?_
 have o1 : cJ w1 w.heap.size [.string x, .int .i64 e] := o1
 refine kO fun w2 o2 x2 s2 => ?_
 have o1 := o1.ext x2 (fun h => h)
 have x02 := x1.seq x2
 have z1 := x1.size
 have c0 := o1.cell (off := 0)
 have c1 := o1.cell (off := 1)
 have l1 := gI (off := 0) o1 (by simp)
 simp only [aHJ, aHK, aHM, aHG, aHO] at c0 c1 l1
 by_cases he : e = 0
 rotate_left
 .have n1 : (e != 0) = true := by simpa using he
  have ht : Jl (lL x) e n = ([], lL x, e) := by unfold Jl; rw [if_pos he]
  simp (disch := omega) only [aC, fK, aHI, aX, aA, gP, zU, jL, c1, aI, eT, n1, l1, aF]
  refine amS o2 rfl fun w' x' => ?_
  rw [hRR, ht]
  exact ⟨x, ⟨#[]⟩, rfl, rfl, rfl, x02.new x' (by omega)⟩
 subst he
 have n1 : ((0 : Int) != 0) = false := rfl
 have d0 : decide ((n : Int) < 0) = false := by simp
 by_cases hsh : x.size < n
 .have d1 : decide ((x.size : Int) < (n : Int)) = true := by simp; omega
  have ht : Jl (lL x) 0 n = ([], lL x, 10) := by unfold Jl; rw [if_neg (by decide), if_pos (by omega)]
  simp (disch := omega) only [aC, fK, aHI, aX, d0, aA, gP, zU, aE, jL, c1, aI, eT, n1, c0, rV, dM, d1, aF]
  refine Yy o1 rfl (by simp) fun w3 o3 x3 s3 => ?_
  simp only [aHL, aHN] at o3
  have l3 := gI (off := 0) o3 (by simp)
  simp only [aHM, aHG, aHO] at l3
  simp (disch := omega) only [l3, aA]
  refine amS (o2.ext x3 (by omega)) rfl fun w' x' => ?_
  rw [hRR, ht]
  exact ⟨x, ⟨#[]⟩, rfl, rfl, rfl, (x02.new x3 (by omega)).new x' (by omega)⟩
 .have d1 : decide ((x.size : Int) < (n : Int)) = false := by simp; omega
  have ht : Jl (lL x) 0 n = ((lL x).take n, (lL x).drop n, 0) := by unfold Jl; rw [if_neg (by decide), if_neg (by omega)]
  simp (disch := omega) only [aC, fK, aHI, aX, d0, aA, gP, zU, aE, jL, c1, aI, eT, n1, c0, rV, dM, d1, P9, aHH, vC]
  refine aCb o1 rfl (by simp) fun w3 o3 x3 s3 => ?_
  simp only [aHL, aHN] at o3
  have l3 := gI (off := 0) o3 (by simp)
  simp only [aHM, aHG, aHO] at l3
  simp (disch := omega) only [l3, aA]
  refine amS (o2.ext x3 (by omega)) rfl fun w' x' => ?_
  rw [hRR, ht]
  refine ⟨_, _, rfl, ?_, ?_, (x02.new x3 (by omega)).new x' (by omega)⟩
  .rw [L9, aIe (by rw [aIb]; omega)]
  .rw [L9]; simp
theorem F5 {x : ByteArray} {e : Int} {n : Nat} {w : aJ2} (hn : 1 <= n /\ n <= 8) :
 aR pg oY #[rv x e, .int .i64 n] w (fun r w' => ∃ x', r = .tuple #[rv x' (Jl (lL x) e n).2.2, .int .u64 (rS (Jl (lL x) e n).1 : Nat)] /\ lL x' = (Jl (lL x) e n).2.1 /\ aS w w' cM) := by
 refine aaX ?_
 obtain ⟨RR, hRR⟩ : ∃ RR : aJ3 -> aJ2 -> Prop, RR = fun r w' => ∃ x', r = .tuple #[rv x' (Jl (lL x) e n).2.2, .int .u64 (rS (Jl (lL x) e n).1 : Nat)] /\ lL x' = (Jl (lL x) e n).2.1 /\ aS w w' cM := ⟨_, rfl⟩
 rw [<- hRR]
 unfold Yz Fc ET
 refine fV fun w1 o1 x1 s1 => ?_
 have o1 : cJ w1 w.heap.size [.string x, .int .i64 e] := o1
 refine kO fun w2 o2 x2 s2 => ?_
 have o1 := o1.ext x2 (fun h => h)
 have x02 := x1.seq x2
 have z1 := x1.size
 have c1 := o1.cell (off := 1)
 have l1 := gI (off := 0) o1 (by simp)
 simp only [aHJ, aHK, aHM, aHG, aHO] at c1 l1
 have d1 : decide ((n : Int) < 1) = false := by simp; omega
 have d2 : decide (8 < (n : Int)) = false := by simp; omega
 have main : Bh RR (.int .i64 n) (.pointer (some ⟨w.heap.size, 0, none⟩)) (.pointer (some ⟨w1.heap.size, 0, none⟩)) w2 := by
  unfold Bh Ht
  simp (disch := omega) only [aC, l1, aA]
  refine (aB7).mono ?_
  rintro r w3 ⟨x', s, rfl, hx', hs, x3⟩
  simp (disch := omega) only [B9, B7, aA]
  refine iM (o1.ext x3 (fun h => h)) rfl (by simp [one]) (by simp) fun w4 o4 x4 s4 => ?_
  simp only [aV, aHL, aHN] at o4
  have z2 := x02.size
  have z3 := x3.size
  have x04 : aS w w4 cM := (x02.seq x3).new x4 (aHS _)
  have o2 := (o2.ext x3 (fun h => h)).ext x4 (by omega)
  have hlen : (lL s).length <= 8 := by
   rw [hs]; unfold Jl
   split
   .simp
   .split
    .simp
    .simp; omega
  have hss := kK s
  unfold Hi Io Hh Hz Hr
  refine cG.rule (fun m (v : aJ3 × aJ3 × aJ3) w' => ∃ (i : Nat) (mm : Int), m = s.size - i /\ i <= s.size /\ v = (.int .u64 (rS ((lL s).take i) : Nat), .int .u64 mm, .int .i64 i) /\ (i < 8 -> mm = ((256 ^ i : Nat) : Int)) /\ w' = w4) s.size ⟨0, 1, rfl, by omega, rfl, fun _ => rfl, rfl⟩ ?_
  rintro m v w5 ⟨i, mm, rfl, hi, rfl, hmm, hw⟩
  rw [hw]; clear hw w5
  unfold Be
  by_cases hlt : i < s.size
  .have d3 : decide ((i : Int) < (s.size : Int)) = true := by simp; omega
   have hmm := hmm (by omega)
   subst hmm
   obtain ⟨c, hc⟩ : ∃ c, c = (lL s)[i]'(by omega) := ⟨_, rfl⟩
   have hg : s[i]'hlt = c := by rw [abN, hc]
   have htk : (lL s).take (i + 1) = (lL s).take i ++ [c] := by rw [aIr, aHQ (by omega), <- hc] <;> rfl
   have hnl : rS ((lL s).take (i + 1)) = rS ((lL s).take i) + 256 ^ i * c.toNat := by
    rw [htk, acI, aHZ, aIA (by omega)]
   have hb0 := UT ((lL s).take i)
   have hb1 := UT ((lL s).take (i + 1))
   rw [aHZ, aIA (by omega)] at hb0 hb1
   have hp : 256 ^ i <= 256 ^ 7 := aHT (by omega) (by omega)
   have hp1 : 256 ^ (i + 1) <= 256 ^ 8 := aHT (by omega) (by omega)
   have hcl : c.toNat < 256 := aIc c
   have hps : 256 ^ (i + 1) = 256 ^ i * 256 := aH8 ..
   have hcm : 256 ^ i * c.toNat <= 256 ^ i * 256 := Nat.mul_le_mul_left _ (by omega)
   rw [hnl] at hb1
   obtain ⟨m2, hm2⟩ : ∃ z, IntKind.u64.wrap (((256 ^ i : Nat) : Int) * 256) = z := ⟨_, rfl⟩
   have hm3 : i + 1 < 8 -> m2 = ((256 ^ (i + 1) : Nat) : Int) := fun h => by
    have hp2 : 256 ^ (i + 1) <= 256 ^ 7 := aHT (by omega) (by omega)
    rw [<- hm2, hps, Int.natCast_mul]
    exact hP (by omega) (by omega)
   generalize hcx : c.toNat = cx at *
   have hgx : (s[i]'hlt).toNat = cx := by rw [hg, hcx]
   have ew : IntKind.u64.wrap (cx : Int) = (cx : Int) := hP (by omega) (by omega)
   have em : (cx : Int) * ((256 ^ i : Nat) : Int) = ((256 ^ i * cx : Nat) : Int) := by rw [Int.natCast_mul, Int.mul_comm]
   generalize rS ((lL s).take i) = N at *
   generalize 256 ^ i = P at *
   generalize P * cx = Z at *
   have ez : IntKind.u64.wrap (Z : Int) = (Z : Int) := hP (by omega) (by omega)
   have ea : (N : Int) + (Z : Int) = ((N + Z : Nat) : Int) := by omega
   have en : IntKind.u64.wrap ((N + Z : Nat) : Int) = ((N + Z : Nat) : Int) := hP (by omega) (by omega)
   simp (disch := omega) only [aC, rV, tQ, aHH, hgx, pS, hm2, bM, aT, aA, wC, ew, em, ez, ea, en, aX, d3, and_true, aF]
   exact ⟨s.size - (i + 1), by omega, i + 1, m2, rfl, by omega, by rw [hnl] <;> rfl, hm3⟩
  .have d3 : decide ((i : Int) < (s.size : Int)) = false := by simp; omega
   obtain rfl : i = s.size := by omega
   have l4 := gI (off := 0) o4 (by simp)
   simp only [aHM, aHG, aHO] at l4
   unfold A6
   simp (disch := omega) only [aC, rV, pS, bM, aT, aA, aX, d3, l4, aE]
   refine amS o2 rfl fun w' x' => ?_
   rw [hRR, <- hss, aJi, hs]
   exact ⟨_, rfl, hx', x04.new x' (by omega)⟩
 by_cases he : e = 0
 .have n1 : (e == 0) = true := by simpa using he
  simp (disch := omega) only [aC, fK, aHI, aA, jL, c1, aI, cR, n1, sX, bN, if_true, bP, aX, d1, dB, aHP, if_false, dM, d2, aE]
  exact main
 .have n1 : (e == 0) = false := by simpa using he
  simp (disch := omega) only [aC, fK, aHI, aA, jL, c1, aI, cR, n1, Fm, bN, aHP, if_false, aE, dV]
  exact main
def aqM (l : List UInt8) (r : aJ3) : Prop := match SP l with
 | .ok (n, rest) => ∃ x', r = .tuple #[rv x' 0, .int .u64 n] /\ lL x' = rest
 | .error e => e ≠ 0 /\ ∃ (n : Nat) (x' : ByteArray), r = .tuple #[rv x' e, .int .u64 n]
theorem amM {x : ByteArray} {w : aJ2} :
 aR pg zI #[rv x 0] w (fun r w' => aqM (lL x) r /\ aS w w' cM) := by
 refine Z0 ?_
 obtain ⟨RR, hRR⟩ : ∃ RR : aJ3 -> aJ2 -> Prop, RR = fun r w' => aqM (lL x) r /\ aS w w' cM := ⟨_, rfl⟩
 rw [<- hRR]
 unfold Y5 Hm
 refine fV fun w1 o1 x1 s1 => ?_
 have o1 : cJ w1 w.heap.size [.string x, .int .i64 0] := o1
 refine kO fun w2 o2 x2 s2 => ?_
 have o1 := o1.ext x2 (fun h => h)
 have x02 := x1.seq x2
 have z1 := x1.size
 have l1 := gI (off := 0) o1 (by simp)
 simp only [aHM, aHG, aHO] at l1
 simp (disch := omega) only [aC, l1, aA]
 refine (F5 (n := 1) (by omega)).mono ?_
 rintro r w3 ⟨x', rfl, hx', x3⟩
 simp (disch := omega) only [B9, B7, aA, aX, eA, pS]
 refine iM (o1.ext x3 (fun h => h)) rfl (by simp [one]) (by simp) fun w4 o4 x4 s4 => ?_
 simp only [aV, aHL, aHN] at o4
 have z2 := x02.size
 have z3 := x3.size
 have x04 : aS w w4 cM := (x02.seq x3).new x4 (aHS _)
 have o2 := (o2.ext x3 (fun h => h)).ext x4 (by omega)
 have l4 := gI (off := 0) o4 (by simp)
 simp only [aHM, aHG, aHO] at l4
 generalize lL x = L at *
 have tkn := Xh 1 (aHS 1)
 cases L with
 | nil =>
   simp only [tkn] at hx' o4 l4 ⊢
   have e0 : ((rS ([] : List UInt8) : Nat) : Int) = 0 := rfl
   have d1 : decide ((0 : Int) < 128) = true := rfl
   simp (disch := omega) only [e0, d1, l4, aA, aF]
   refine amS o2 rfl fun w' x5 => ?_
   rw [hRR]
   exact ⟨⟨by decide, 0, x', rfl⟩, x04.new x5 (by omega)⟩
 | cons f r =>
   simp only [acZ] at hx' o4 l4 ⊢
   have hf : rS [f] = f.toNat := by simp [rS]
   have hf8 : f.toNat < 256 := aIc f
   rw [hf]
   have hN : SP (f :: r) = if f.toNat < 128 then .ok (f.toNat, r) else if f.toNat < 255 then aEg f.toNat r else aCR r := rfl
   generalize f.toNat = x at *
   have fin : ∀ {v : aJ3} {w5 w' : aJ2}, aqM (f :: r) v -> aS w w5 cM -> aS w5 w' (fun y => y = w1.heap.size) -> RR v w' := fun h x5 x6 => by
    rw [hRR]; exact ⟨h, x5.new x6 (by omega)⟩
   by_cases h128 : x < 128
   .have d1 : decide ((x : Int) < 128) = true := by simp; omega
    simp (disch := omega) only [d1, l4, aA, aF]
    refine amS o2 rfl fun w' x5 => fin ?_ x04 x5
    unfold aqM
    rw [hN, if_pos h128]
    exact ⟨x', rfl, hx'⟩
   have d1 : decide ((x : Int) < 128) = false := by simp; omega
   by_cases h255 : x < 255
   .have d2 : decide ((x : Int) < 255) = true := by simp; omega
    simp (disch := omega) only [d1, l4, aA, d2, hP, aF, aE]
    refine (F5 (n := 1) (by omega)).mono ?_
    rintro v w5 ⟨y, rfl, hy, x5⟩
    rw [hx'] at hy ⊢
    simp (disch := omega) only [B9, B7, aA, bM]
    refine kO fun w6 o6 x6 s6 => ?_
    refine iM o6 rfl (by simp [one]) (by simp) fun w7 o7 x7 s7 => ?_
    simp only [aV, aHL, aHN] at o7
    have x57 : aS w5 w7 cM := x6.new x7 (aHS _)
    have x47 := x5.seq x57
    have o2 := o2.ext x47 (fun h => h)
    have l7 := gI (off := 0) o7 (by simp)
    simp only [aHM, aHG, aHO] at l7
    obtain ⟨m, hm⟩ : ∃ m, m = x - 128 := ⟨_, rfl⟩
    have e1 : (x : Int) - 128 = (m : Int) := by omega
    have e2 : (m : Int) * 256 = ((m * 256 : Nat) : Int) := by omega
    rw [if_neg h128, if_pos h255] at hN
    cases r with
    | nil =>
      simp only [tkn] at hy o7 l7 ⊢
      have e0 : ((rS ([] : List UInt8) : Nat) : Int) = ((0 : Nat) : Int) := rfl
      have e3 : ((m * 256 : Nat) : Int) + ((0 : Nat) : Int) = ((m * 256 : Nat) : Int) := by omega
      simp (disch := omega) only [l7, e1, e2, e0, e3, hP, aA]
      refine amS o2 rfl fun w' x8 => fin ?_ (x04.seq x47) x8
      unfold aqM
      rw [hN]
      exact ⟨by decide, m * 256, y, by simp⟩
    | cons g s =>
      simp only [acZ] at hy o7 l7 ⊢
      have hg : rS [g] = g.toNat := by simp [rS]
      have hg8 : g.toNat < 256 := aIc g
      have hN2 : aEg x (g :: s) = .ok ((x - 128) * 256 + g.toNat, s) := rfl
      rw [hg]
      generalize g.toNat = z at *
      have e3 : ((m * 256 : Nat) : Int) + (z : Int) = ((m * 256 + z : Nat) : Int) := by omega
      simp (disch := omega) only [l7, e1, e2, e3, hP, aA]
      refine amS o2 rfl fun w' x8 => fin ?_ (x04.seq x47) x8
      unfold aqM
      rw [hN, hN2, <- hm]
      exact ⟨y, rfl, hy⟩
   .have d2 : decide ((x : Int) < 255) = false := by simp; omega
    simp (disch := omega) only [d1, l4, aA, d2, hP, aE]
    refine (F5 (n := 2) (by omega)).mono ?_
    rintro v w5 ⟨y, rfl, hy, x5⟩
    rw [hx'] at hy ⊢
    simp (disch := omega) only [B9, B7, aA, bM]
    refine kO fun w6 o6 x6 s6 => ?_
    refine iM o6 rfl (by simp [one]) (by simp) fun w7 o7 x7 s7 => ?_
    simp only [aV, aHL, aHN] at o7
    have x57 : aS w5 w7 cM := x6.new x7 (aHS _)
    have x47 := x5.seq x57
    have o2 := o2.ext x47 (fun h => h)
    have l7 := gI (off := 0) o7 (by simp)
    simp only [aHM, aHG, aHO] at l7
    rw [if_neg h128, if_neg h255] at hN
    cases r with
    | nil =>
      simp only [Xh 2 (show 1 <= 2 by omega)] at hy o7 l7 ⊢
      have e0 : ((rS ([] : List UInt8) : Nat) : Int) = ((0 : Nat) : Int) := rfl
      have e3 : ((0 : Nat) : Int) + 32512 = ((32512 : Nat) : Int) := rfl
      simp (disch := omega) only [l7, e0, e3, hP, aA]
      refine amS o2 rfl fun w' x8 => fin ?_ (x04.seq x47) x8
      unfold aqM
      rw [hN]
      exact ⟨by decide, 32512, y, rfl⟩
    | cons g s =>
      cases s with
      | nil =>
        simp only [aqY] at hy o7 l7 ⊢
        have e0 : ((rS ([] : List UInt8) : Nat) : Int) = ((0 : Nat) : Int) := rfl
        have e3 : ((0 : Nat) : Int) + 32512 = ((32512 : Nat) : Int) := rfl
        simp (disch := omega) only [l7, e0, e3, hP, aA]
        refine amS o2 rfl fun w' x8 => fin ?_ (x04.seq x47) x8
        unfold aqM
        rw [hN]
        exact ⟨by decide, 32512, y, rfl⟩
      | cons k s =>
        simp only [aDW] at hy o7 l7 ⊢
        have hg : rS [g, k] = g.toNat + 256 * k.toNat := by simp [rS]
        have hg8 : g.toNat < 256 := aIc g
        have hk8 : k.toNat < 256 := aIc k
        have hN3 : aCR (g :: k :: s) = .ok (g.toNat + 256 * k.toNat + 32512, s) := rfl
        rw [hg]
        have hy6 : g.toNat + 256 * k.toNat < 65536 := by omega
        generalize g.toNat + 256 * k.toNat = z at *
        obtain ⟨u, hu⟩ : ∃ u, u = z + 32512 := ⟨_, rfl⟩
        have e5 : (z : Int) + 32512 = (u : Int) := by omega
        rw [<- hu] at hN3
        simp (disch := omega) only [l7, e5, hP, aA]
        refine amS o2 rfl fun w' x8 => fin ?_ (x04.seq x47) x8
        unfold aqM
        rw [hN, hN3]
        exact ⟨y, rfl, hy⟩
def zB0 : List Int := [0, 1, 2, 3, 4, 5, 6, 7, 8, 9, 10, 11, 12, 13, 14, 15, 16, 18, 20, 22, 24, 28, 32, 40, 48, 64, 128, 256, 512, 1024, 2048, 4096, 8192, 16384, 32768, 65536]
def zB2 : List Int := [3, 4, 5, 6, 7, 8, 9, 10, 11, 12, 13, 14, 15, 16, 17, 18, 19, 20, 21, 22, 23, 24, 25, 26, 27, 28, 29, 30, 31, 32, 33, 34, 35, 37, 39, 41, 43, 47, 51, 59, 67, 83, 99, 131, 259, 515, 1027, 2051, 4099, 8195, 16387, 32771, 65539]
def pw2 (i : Nat) : Int := if i < 32 then 2 ^ i else 0
def zB1 : List Int := (List.range 32).map pw2
def aBB (a : Int) : List Int := if a = 0 then zB0 else if a = 2 then zB2 else if a = 1 then zB1 else []
theorem aDY (a : Int) : (((aBB a).length : Nat) : Int) = mW a + 1 := by
 unfold aBB mW
 by_cases h0 : a = 0
 .subst h0; rfl
 by_cases h2 : a = 2
 .subst h2; rfl
 by_cases h1 : a = 1
 .subst h1; rfl
 rw [if_neg h0, if_neg h2, if_neg h1, if_neg h0, if_neg h1, if_neg h2] <;> rfl
theorem avI (a : Int) (w : aJ2) : aR pg yG #[.int .i64 a] w (fun r w' => Sl w' r ((aBB a).map (Value.int .u32)) /\ aS w w' cM) := by
 refine ZY ?_
 unfold aaM HB GN
 unfold aBB
 by_cases h0 : a = 0
 .subst h0
  have n1 : ((0 : Int) == 0) = true := rfl
  simp (disch := omega) only [aC, cR, n1, if_true, aA, aF]
  refine Qq (cells := (zB0.map (Value.int .u32)).toArray) (by decide) (by decide) (by kernel_rfl) fun w1 o1 x1 s1 => ?_
  exact ⟨⟨_, _, _, rfl, rfl, aHS _, fun _ => ⟨_, _, rfl, fun i hi => by rw [o1.cell, aHI]⟩⟩, x1⟩
 have n1 : (a == 0) = false := beq_eq_false_iff_ne.2 h0
 by_cases h2 : a = 2
 .subst h2
  rw [if_neg h0, if_pos rfl]
  have n2 : ((2 : Int) == 2) = true := rfl
  simp (disch := omega) only [aC, cR, n1, n2, aA, aF, aE]
  refine Qq (cells := (zB2.map (Value.int .u32)).toArray) (by decide) (by decide) (by kernel_rfl) fun w1 o1 x1 s1 => ?_
  exact ⟨⟨_, _, _, rfl, rfl, aHS _, fun _ => ⟨_, _, rfl, fun i hi => by rw [o1.cell, aHI]⟩⟩, x1⟩
 have n2 : (a == 2) = false := beq_eq_false_iff_ne.2 h2
 rw [if_neg h0, if_neg h2]
 simp (disch := omega) only [aC, cR, n1, n2, aA, aE]
 unfold GZ GY G8 Ip H6
 by_cases h1 : a = 1
 .subst h1
  have n3 : ((1 : Int) == 1) = true := rfl
  refine cG.rule (fun m (t : aJ3 × aJ3 × aJ3) w' => ∃ (i : Nat) (v : aJ3), m = 32 - i /\ t = (v, .int .u32 (pw2 i), .int .i64 i) /\ i <= 32 /\ rN w' w.heap.size 1 v i ((zB1.take i).map (Value.int .u32)) /\ aS w w' cM) 32
   ⟨0, _, rfl, rfl, by omega, rN.nil _ _ _, aS.refl _ _⟩ ?_
  rintro m t w1 ⟨i, v, rfl, rfl, hi, ho, x1⟩
  unfold wH
  by_cases hlt : i < 32
  .have d1 : decide ((i : Int) < 32) = true := by simp; omega
   have e1 : IntKind.u32.wrap (pw2 i * 2) = pw2 (i + 1) := by
    have : ∀ k : Fin 32, IntKind.u32.wrap (pw2 k.val * 2) = pw2 (k.val + 1) := by decide
    exact this ⟨i, hlt⟩
   have hz : (zB1.take (i + 1)).map (Value.int .u32) = (zB1.take i).map (Value.int .u32) ++ [.int .u32 (pw2 i)] := by
    rw [aIr, aIo]
    unfold zB1
    rw [aH9, List.getElem?_range hlt] <;> rfl
   have z1 := x1.size
   simp (disch := omega) only [aC, aX, d1, pS, e1, bM, aT, aA, if_true, sX, bN, bP, cR, n3, aF]
   refine Qq (cells := #[.int .u32 (pw2 i)]) (by decide) (by decide) (by kernel_rfl) fun w2 o2 x2 s2 => ?_
   have z2 := x2.size
   refine Qz (m := 1) (news := [.int .u32 (pw2 i)]) (ho.ext x2 (fun _ _ h => h)) (o2.cl (off := 0) (l := [.int .u32 (pw2 i)]) (n := 1) rfl (fun i hi => by rw [aHI])) (by simp [one]) (by omega) (by omega) fun v3 w3 o3 x3 => ?_
   rw [<- hz] at o3
   exact ⟨32 - (i + 1), by omega, i + 1, v3, rfl, rfl, by omega, o3, (x1.seq x2).trans x3 fun b hb h => by omega⟩
  .have d1 : decide ((i : Int) < 32) = false := by simp; omega
   obtain rfl : i = 32 := by omega
   unfold wK
   simp (disch := omega) only [aC, aX, d1, pS, bM, aT, aA, if_true, Fm, bN, aHP, if_false, aE, dV]
   exact ⟨ho.sl, x1⟩
 .have n3 : (a == 1) = false := beq_eq_false_iff_ne.2 h1
  refine cG.rule (fun m (t : aJ3 × aJ3 × aJ3) w' => m = 0 /\ t = (.slice none 0 0, .int .u32 1, .int .i64 0) /\ w' = w) 0 ⟨rfl, rfl, rfl⟩ ?_
  rintro m t w1 ⟨rfl, rfl, rfl⟩
  unfold wH wK
  have d1 : decide ((0 : Int) < 32) = true := rfl
  rw [if_neg h1]
  simp (disch := omega) only [aC, aX, d1, pS, Z2, bM, aT, aA, sX, bN, if_true, bP, cR, n3, aE]
  exact ⟨Sl.nil _, aS.refl _ _⟩
theorem aEl {k : Nat} (hk : k < 3) : aBB (k : Int) = (rO k).map fun (n : Nat) => (n : Int) := by
 rcases (show k = 0 ∨ k = 1 ∨ k = 2 by omega) with rfl | rfl | rfl <;> decide +kernel
theorem aF9 {k : Nat} (hk : k < 3) (w : aJ2) : aR pg IL #[.int .i64 k] w (fun r w' => Sl w' r (((kQ k).map fun (n : Nat) => (n : Int)).map (Value.int .i64)) /\ aS w w' cM) := by
 refine aiY ?_
 unfold amQ Nx Oh
 by_cases h0 : k = 0
 .subst h0
  have n1 : (((0 : Nat) : Int) == 0) = true := rfl
  simp (disch := omega) only [aC, cR, n1, aA, aF]
  refine wQ (cells := (((kQ 0).map fun (n : Nat) => (n : Int)).map (Value.int .i64)).toArray) (by decide) (by decide) (by kernel_rfl) fun w1 o1 x1 s1 => ?_
  exact ⟨⟨_, _, _, rfl, rfl, aHS _, fun _ => ⟨_, _, rfl, fun i hi => by rw [o1.cell, aHI]⟩⟩, x1⟩
 have n1 : ((k : Int) == 0) = false := beq_eq_false_iff_ne.2 (by omega)
 by_cases h2 : k = 2
 .subst h2
  have n2 : (((2 : Nat) : Int) == 2) = true := rfl
  simp (disch := omega) only [aC, cR, n1, n2, aA, aF, aE]
  refine wQ (cells := (((kQ 2).map fun (n : Nat) => (n : Int)).map (Value.int .i64)).toArray) (by decide) (by decide) (by kernel_rfl) fun w1 o1 x1 s1 => ?_
  exact ⟨⟨_, _, _, rfl, rfl, aHS _, fun _ => ⟨_, _, rfl, fun i hi => by rw [o1.cell, aHI]⟩⟩, x1⟩
 have n2 : ((k : Int) == 2) = false := beq_eq_false_iff_ne.2 (by omega)
 obtain rfl : k = 1 := by omega
 simp (disch := omega) only [aC, cR, n1, n2, aA, aE]
 unfold OK Oa MG M3 NN
 have n3 : (((1 : Nat) : Int) == 1) = true := rfl
 refine cG.rule (fun m (t : aJ3 × aJ3) w' => ∃ (i : Nat) (v : aJ3), m = 32 - i /\ t = (v, .int .i64 i) /\ i <= 32 /\ rN w' w.heap.size 1 v i (((List.range i).map fun (n : Nat) => (n : Int)).map (Value.int .i64)) /\ aS w w' cM) 32
  ⟨0, _, rfl, rfl, by omega, rN.nil _ _ _, aS.refl _ _⟩ ?_
 rintro m t w1 ⟨i, v, rfl, rfl, hi, ho, x1⟩
 unfold FJ
 by_cases hlt : i < 32
 .have d1 : decide ((i : Int) < 32) = true := by simp; omega
  have hz : ((List.range (i + 1)).map fun (n : Nat) => (n : Int)).map (Value.int .i64) = ((List.range i).map fun (n : Nat) => (n : Int)).map (Value.int .i64) ++ [.int .i64 (i : Int)] := by
   rw [aJH, aIo, aIo] <;> rfl
  have z1 := x1.size
  simp (disch := omega) only [aC, aX, d1, bM, aT, aA, sX, bN, if_true, bP, cR, n3, aF]
  refine wQ (cells := #[.int .i64 (i : Int)]) (by decide) (by decide) (by kernel_rfl) fun w2 o2 x2 s2 => ?_
  have z2 := x2.size
  refine EV (m := 1) (news := [.int .i64 (i : Int)]) (ho.ext x2 (fun _ _ h => h)) (o2.cl (off := 0) (l := [.int .i64 (i : Int)]) (n := 1) rfl (fun i hi => by rw [aHI])) (by simp [one]) (by omega) (by omega) fun v3 w3 o3 x3 => ?_
  rw [<- hz] at o3
  exact ⟨32 - (i + 1), by omega, i + 1, v3, rfl, rfl, by omega, o3, (x1.seq x2).trans x3 fun b hb h => by omega⟩
 .have d1 : decide ((i : Int) < 32) = false := by simp; omega
  obtain rfl : i = 32 := by omega
  unfold FC
  simp (disch := omega) only [aC, aX, d1, bM, aT, aA, Fm, bN, aHP, if_false, aE, dV]
  exact ⟨ho.sl, x1⟩
theorem aB5 {k c : Nat} {w : aJ2} (hk : k < 3) (hc : c < lC k) :
 aR pg IP #[.int .i64 k, .int .i64 c] w (fun r w' => r = .tuple #[.int .u32 ((rO k).getD c 0 : Nat), .int .i64 ((kQ k).getD c 0 : Nat), .int .i64 0] /\ aS w w' cM) := by
 refine akS ?_
 have hl1 : 1 <= lC k := by rcases (show k = 0 ∨ k = 1 ∨ k = 2 by omega) with rfl | rfl | rfl <;> decide
 unfold anP Oo
 refine (avI k w).mono ?_
 rintro r w1 ⟨hs, x1⟩
 rw [aEl hk] at hs
 have hlen : ((rO k).map fun (n : Nat) => (n : Int)).length = lC k := by simp
 have hs0 := hs
 obtain ⟨b, off, c', rfl, hcc, hcell⟩ := hs.openI (by omega)
 have g1 := hcell c (by omega)
 rw [aIm, <- mL] at g1
 have g1d : (dr w1).cell? ⟨b, off + c, none⟩ = some (.int .u32 ((rO k).getD c 0 : Nat)) := g1
 have n1 : (((lC k : Nat) : Int) == 0) = false := beq_eq_false_iff_ne.2 (by omega)
 have d1 : decide ((c : Int) < 0) = false := by simp
 have d2 : decide (((lC k : Nat) : Int) <= (c : Int)) = false := by simp; omega
 simp (disch := omega) only [aC, hlen, fX, aX, d1, vX, aHH, eD, Result.ok.injEq, Next.value.injEq, and_true, true_and, aA, rT, dB, bN, aHP, if_false, bP, pG, d2, aE, cR, n1, g1d, aI]
 refine (aF9 hk (dr w1)).mono ?_
 rintro r w2 ⟨hs2, x2⟩
 have hlen2 : ((kQ k).map fun (n : Nat) => (n : Int)).length = lC k := by rw [aHU, aDj hk]
 obtain ⟨b2, off2, c2, rfl, hcc2, hcell2⟩ := hs2.openI (by omega)
 have g2 := hcell2 c (by omega)
 rw [aIm, <- mL] at g2
 have hs3 := (hs.ext (aS.dr _ cM) (cB _)).ext x2 (cB _)
 obtain ⟨b', off', c'', hv, _, hcell3⟩ := hs3.openI (by omega)
 cases hv
 have g3 := hcell3 c (by omega)
 rw [aIm, <- mL] at g3
 simp (disch := omega) only [g3, aI, hlen2, dJ, aHH, aA, cA, g2, true_and]
 exact (x1.seq (aS.dr _ _)).seq x2
def RT (w : aJ2) (b log : Nat) (L : List T3) (v : aJ3) : Prop := ∃ cc rest, v = .agg #[.int .i64 log, .slice (some ⟨b, 0, none⟩) L.length cc] /\ cJ w b (fe .i64 L ++ rest)
theorem RT.ext {w w' : aJ2} {b log : Nat} {L : List T3} {v : aJ3} {M : Nat -> Prop} (h : RT w b log L v) (hx : aS w w' M) (hM : ¬ M b) : RT w' b log L v := by
 obtain ⟨cc, rest, h1, h2⟩ := h
 exact ⟨cc, rest, h1, h2.ext hx hM⟩
theorem aDR (s : Int) (w : aJ2) : aR pg Mh #[.int .i64 s] w (fun r w' => ∃ b, w.heap.size <= b /\ RT w' b 0 [(s, 0, 0)] r /\ aS w w' cM) := by
 refine aoX ?_
 unfold arA P6
 refine gX fun w1 o1 x1 s1 => ?_
 simp (disch := omega) only [aC, eD, aA, stepR_skip, bM, eA, pS, Ee, CA, R9, auM, aFn, axE, mN, xL, cR, eT, aX, avG, dM, pG, aEb, aFj, Gz, bN, aEh, aoW, rM, B9, B7, RQ, Sd, RN, x40, x41, x42, x43, aI, Result.ok.injEq, Next.value.injEq, true_and, and_true, aT, hP, aFu, Z2, aFx, QN, aHH, sX, jE, Fm, dB, bP, dV, aAT, axN, aF, aE, if_true, if_false, aHP, aHI, aH7, Option.isNone_none, aIt, aI7, aHK, aHJ, rJ, dL, gB, oU, mU, dO, lY, iI, rT, jI, jW, eL, bZ, dU, iA, yF, cA, qK, BO, uU, fK, jL, gP, zU, rV, cZ, dJ, eF, vC, fX, vX, lM, fY, sZ, cL, YR, tW, Cc, mF, nQ, nV, gA, qO, zF, Aa, lW, fS, nY, zV, lJ, jY, oK, nJ, tQ, wC, dD, bR, bO, kH, nM, qT, Fq, UP, F1, uS, sQ, fN, iK, nI, nH, iF, sV, lB, DV, rZ, nU, pP, MR, eB, fJ, GW, kW, bK, qP, Of, nS, xY, JC, KS, uW, xR, FI, Lf, vB, wP, QZ, P9, pY, Dy, uT, jX, pW, cQ, aY, QV, Nl, Au, Nw, GR, mH, It, Ir, dY, dK, Ag, Hk, Bm, kM, kS, iU, BL, BI, Ik, HI, lS, qB, mJ, Im, G9, J2, DR, pR, xO, qX, AO, LJ]
 refine Cr (cells := #[.int .i64 s, .int .i64 0, .int .i64 0]) (by decide) (by decide) (by kernel_rfl) fun w2 o2 x2 s2 => ?_
 simp (disch := omega) only [aC, eD, aA, stepR_skip, bM, eA, pS, Ee, CA, R9, auM, aFn, axE, mN, xL, cR, eT, aX, avG, dM, pG, aEb, aFj, Gz, bN, aEh, aoW, rM, B9, B7, RQ, Sd, RN, x40, x41, x42, x43, aI, Result.ok.injEq, Next.value.injEq, true_and, and_true, aT, hP, aFu, Z2, aFx, QN, aHH, sX, jE, Fm, dB, bP, dV, aAT, axN, aF, aE, if_true, if_false, aHP, aHI, aH7, Option.isNone_none, aIt, aI7, aHK, aHJ, rJ, dL, gB, oU, mU, dO, lY, iI, rT, jI, jW, eL, bZ, dU, iA, yF, cA, qK, BO, uU, fK, jL, gP, zU, rV, cZ, dJ, eF, vC, fX, vX, lM, fY, sZ, cL, YR, tW, Cc, mF, nQ, nV, gA, qO, zF, Aa, lW, fS, nY, zV, lJ, jY, oK, nJ, tQ, wC, dD, bR, bO, kH, nM, qT, Fq, UP, F1, uS, sQ, fN, iK, nI, nH, iF, sV, lB, DV, rZ, nU, pP, MR, eB, fJ, GW, kW, bK, qP, Of, nS, xY, JC, KS, uW, xR, FI, Lf, vB, wP, QZ, P9, pY, Dy, uT, jX, pW, cQ, aY, QV, Nl, Au, Nw, GR, mH, It, Ir, dY, dK, Ag, Hk, Bm, kM, kS, iU, BL, BI, Ik, HI, lS, qB, mJ, Im, G9, J2, DR, pR, xO, qX, AO, LJ]
 have l1 := o1.lt
 refine eQ (o1.ext x2 (fun h => h)) rfl (by simp [one]) (by simp) fun w3 o3 x3 s3 => ?_
 refine rH o3 (by simp [aV]) ?_
 simp only [aV, aHL, aHN, aHM, aHG, aHO]
 exact ⟨w1.heap.size, by omega, ⟨1, [], rfl, o2.ext x3 (by omega)⟩, (x1.seq x2).new x3 (aHS _)⟩
def RtV (w : aJ2) (base : Nat) (T : Nat × List T3) (v : aJ3) : Prop := (T = (0, []) /\ v = .agg #[.int .i64 0, .slice none 0 0]) ∨ ∃ b, base <= b /\ RT w b T.1 T.2 v
theorem RtV.nil (w : aJ2) (base : Nat) : RtV w base (0, []) (.agg #[.int .i64 0, .slice none 0 0]) := .inl ⟨rfl, rfl⟩
theorem RT.lt {w : aJ2} {b log : Nat} {L : List T3} {v : aJ3} (h : RT w b log L v) : b < w.heap.size := by
 obtain ⟨cc, rest, h1, h2⟩ := h; exact h2.lt
theorem RtV.form {w : aJ2} {base : Nat} {T : Nat × List T3} {v : aJ3} (h : RtV w base T v) : ∃ a c, v = .agg #[.int .i64 T.1, .slice a T.2.length c] := by
 rcases h with ⟨rfl, rfl⟩ | ⟨b, _, cc, rest, rfl, _⟩
 .exact ⟨_, _, rfl⟩
 .exact ⟨_, _, rfl⟩
theorem RtV.ext {w w' : aJ2} {base : Nat} {T : Nat × List T3} {v : aJ3} {M : Nat -> Prop} (h : RtV w base T v) (x : aS w w' M) (hM : ∀ b, base <= b -> b < w.heap.size -> ¬ M b) : RtV w' base T v := by
 rcases h with h | ⟨b, hb, h⟩
 .exact .inl h
 .exact .inr ⟨b, hb, h.ext x (hM b hb h.lt)⟩
theorem RtV.lower {w : aJ2} {base base' : Nat} {T : Nat × List T3} {v : aJ3} (h : RtV w base T v) (hb : base' <= base) : RtV w base' T v := by
 rcases h with h | ⟨b, h1, h2⟩
 .exact .inl h
 .exact .inr ⟨b, by omega, h2⟩
def RtR (w : aJ2) (base : Nat) (o : Except Int ((Nat × List T3) × Nat)) (r : aJ3) : Prop := match o with
 | .error e => r = .tuple #[.agg #[.int .i64 0, .slice none 0 0], .int .i64 0, .int .i64 e]
 | .ok (T, n) => ∃ t, r = .tuple #[t, .int .i64 n, .int .i64 0] /\ RtV w base T t
theorem Uh {p : Nat} {w0 w : aJ2} {x : Int} {a : Option Addr} {k c : Nat} {n e : aJ3} (o : cJ w p [.int .i64 0, .slice none 0 0]) (hx : aS w0 w cM) (hp : w0.heap.size <= p) {RR : aJ3 -> aJ2 -> Prop}
 (hR : ∀ w', aS w0 w' cM -> aS w w' (fun y => y = p) -> RR (.tuple #[.agg #[.int .i64 x, .slice a k c], n, e]) w') :
 aC pg (aJ 35 (.pointer (some ⟨p, 0, none⟩)) (.agg #[.int .i64 x, .slice a k c])) w fun _u w => kI pg 35 (.pointer (some ⟨p, 0, none⟩)) w fun r0 => RR (.tuple #[r0, n, e]) w := by
 refine eQ o rfl (by simp [one]) (by simp) fun w6 o6 x6 s6 => ?_
 refine rH o6 (by simp [aV]) ?_
 simp only [aV, aHL, aHN, aHM, aHG, aHO]
 exact hR _ (hx.new x6 hp) x6
theorem azI {p : Nat} {w0 w : aJ2} {x : Int} {a : Option Addr} {k c : Nat} {e : aJ3} (o : cJ w p [.int .i64 0, .slice none 0 0]) (hx : aS w0 w cM) (hp : w0.heap.size <= p) {RR : aJ3 -> aJ2 -> Prop}
 (hR : ∀ w', aS w0 w' cM -> aS w w' (fun y => y = p) -> RR (.tuple #[.agg #[.int .i64 x, .slice a k c], e]) w') :
 aC pg (aJ 35 (.pointer (some ⟨p, 0, none⟩)) (.agg #[.int .i64 x, .slice a k c])) w fun _u w => kI pg 35 (.pointer (some ⟨p, 0, none⟩)) w fun r0 => RR (.tuple #[r0, e]) w := by
 refine eQ o rfl (by simp [one]) (by simp) fun w6 o6 x6 s6 => ?_
 refine rH o6 (by simp [aV]) ?_
 simp only [aV, aHL, aHN, aHM, aHG, aHO]
 exact hR _ (hx.new x6 hp) x6
theorem aAB {a : Int} (ha : 0 <= a /\ a <= 2) (w : aJ2) : aR pg F9 #[.int .i64 a] w (fun r w' => ∃ v, r = .agg #[.int .i64 (Za a : Nat), v] /\ Sl w' v ((gvP a).map (Value.int .i64)) /\ aS w w' cM) := by
 refine afZ ?_
 unfold aiH KU
 refine pA fun w1 o1 x1 s1 => ?_
 rcases (show a = 0 ∨ a = 1 ∨ a = 2 by omega) with rfl | rfl | rfl
 .have n1 : ((0 : Int) == 0) = true := rfl
  simp (disch := omega) only [aC, cR, n1, aA, aF]
  refine wQ (cells := (zTL.map (Value.int .i64)).toArray) (by decide) (by decide) (by kernel_rfl) fun w2 o2 x2 s2 => ?_
  simp (disch := omega) only [lS, aA]
  refine iN (o1.ext x2 (fun h => h)) rfl (by simp [one]) (by simp) fun w4 o4 x4 s4 => ?_
  refine nO o4 (by simp [aV]) ?_
  simp only [aV, aHL, aHN, aHM, aHG, aHO]
  exact ⟨_, rfl, Tt (o2.ext x4 (by omega)) rfl, (x1.seq x2).new x4 (by omega)⟩
 .have n1 : ((1 : Int) == 0) = false := rfl
  have n2 : ((1 : Int) == 1) = true := rfl
  simp (disch := omega) only [aC, cR, n1, n2, aA, aF, aE]
  refine wQ (cells := (zTO.map (Value.int .i64)).toArray) (by decide) (by decide) (by kernel_rfl) fun w2 o2 x2 s2 => ?_
  simp (disch := omega) only [lS, aA]
  refine iN (o1.ext x2 (fun h => h)) rfl (by simp [one]) (by simp) fun w4 o4 x4 s4 => ?_
  refine nO o4 (by simp [aV]) ?_
  simp only [aV, aHL, aHN, aHM, aHG, aHO]
  exact ⟨_, rfl, Tt (o2.ext x4 (by omega)) rfl, (x1.seq x2).new x4 (by omega)⟩
 .have n1 : ((2 : Int) == 0) = false := rfl
  have n2 : ((2 : Int) == 1) = false := rfl
  simp (disch := omega) only [aC, cR, n1, n2, aA, aE]
  refine wQ (cells := (zTM.map (Value.int .i64)).toArray) (by decide) (by decide) (by kernel_rfl) fun w2 o2 x2 s2 => ?_
  simp (disch := omega) only [lS, aA]
  refine iN (o1.ext x2 (fun h => h)) rfl (by simp [one]) (by simp) fun w4 o4 x4 s4 => ?_
  refine nO o4 (by simp [aV]) ?_
  simp only [aV, aHL, aHN, aHM, aHG, aHO]
  exact ⟨_, rfl, Tt (o2.ext x4 (by omega)) rfl, (x1.seq x2).new x4 (by omega)⟩
theorem auV {a : Int} (w : aJ2) : aR pg Ba #[.int .i64 a] w (fun r w' => ∃ t e, r = .tuple #[t, .int .i64 e] /\ (match wE a with
 | .error e' => t = .agg #[.int .i64 0, .slice none 0 0] /\ e = e'
 | .ok T => RtV w' w.heap.size T t /\ e = 0) /\ aS w w' cM) := by
 refine WJ ?_
 unfold Wa Et
 refine gX fun w1 o1 x1 s1 => ?_
 have z1 := x1.size
 by_cases h0 : a < 0
 .have d1 : decide (a < 0) = true := by simpa using h0
  have hE : wE a = .error 1 := by unfold wE; rw [if_neg (by omega)]
  rw [hE]
  simp (disch := omega) only [aC, aX, d1, dD, aA, jE, bN, if_true, aF, dV]
  exact azI (RR := fun r w' => ∃ t e, r = .tuple #[t, .int .i64 e] /\ (t = .agg #[.int .i64 0, .slice none 0 0] /\ e = 1) /\ aS w w' cM) o1 x1 (aHS _) fun w' x _ => ⟨_, _, rfl, ⟨rfl, rfl⟩, x⟩
 have d1 : decide (a < 0) = false := by simpa using h0
 by_cases h2 : 2 < a
 .have d2 : decide (2 < a) = true := by simpa using h2
  have hE : wE a = .error 1 := by unfold wE; rw [if_neg (by omega)]
  rw [hE]
  simp (disch := omega) only [aC, aX, d1, dD, aA, dB, bN, aHP, if_false, bP, dM, d2, aF]
  exact azI (RR := fun r w' => ∃ t e, r = .tuple #[t, .int .i64 e] /\ (t = .agg #[.int .i64 0, .slice none 0 0] /\ e = 1) /\ aS w w' cM) o1 x1 (aHS _) fun w' x _ => ⟨_, _, rfl, ⟨rfl, rfl⟩, x⟩
 have d2 : decide (2 < a) = false := by simpa using h2
 have hE : wE a = .ok (Za a, kD (Za a) (gvP a)) := by unfold wE; rw [if_pos (by omega)]
 rw [hE]
 have hm := aoL (a := a) (by omega)
 simp (disch := omega) only [aC, aX, d1, dD, aA, dB, bN, aHP, if_false, bP, dM, d2, aE]
 refine (aAB (by omega) _).mono ?_
 rintro r w2 ⟨v, rfl, hs, x2⟩
 have z2 := x2.size
 refine (amP hm hs).mono ?_
 rintro r w3 ⟨b, cc, rest, rfl, hb, ob, x3⟩
 have z3 := x3.size
 have hbl := ob.lt
 simp (disch := omega) only [B9, B7, aA]
 refine azI (RR := fun r w' => ∃ t e, r = .tuple #[t, .int .i64 e] /\ (RtV w' w.heap.size (Za a, kD (Za a) (gvP a)) t /\ e = 0) /\ aS w w' cM) ((o1.ext x2 (fun h => h)).ext x3 (fun h => h)) ((x1.seq x2).seq x3) (aHS _) fun w' x xx => ⟨_, _, rfl, ⟨.inr ⟨b, by omega, cc, rest, ?_, ob.ext xx (by omega)⟩, rfl⟩, x⟩
 rw [jC]
theorem aBD (a : Int) (w : aJ2) : aR pg I2 #[.int .i64 a] w (fun r w' => r = .int .i64 (Dg a) /\ w' = w) := by
 refine aiW ?_
 unfold apG Oe Dg
 by_cases h0 : a = 0
 .subst h0
  have n1 : ((0 : Int) == 0) = true := rfl
  simp (disch := omega) only [aC, cR, n1, aA, jE, bN, if_true, aF, dV, and_true]
  rfl
 have n1 : (a == 0) = false := beq_eq_false_iff_ne.2 h0
 by_cases h2 : a = 2
 .subst h2
  have n2 : ((2 : Int) == 2) = true := rfl
  simp (disch := omega) only [aC, cR, n1, aA, dB, bN, aHP, if_false, bP, n2, and_true, aF]
  rfl
 have n2 : (a == 2) = false := beq_eq_false_iff_ne.2 h2
 rw [if_neg (by omega)]
 by_cases h1 : a = 1
 .subst h1
  have n3 : ((1 : Int) == 1) = true := rfl
  simp (disch := omega) only [aC, cR, n1, if_true, n3, true_and, aA, aF, dB, bN, aHP, if_false, bP, n2, and_true, aE]
 have n3 : (a == 1) = false := beq_eq_false_iff_ne.2 h1
 rw [if_neg h1]
 simp (disch := omega) only [aC, cR, n1, n3, true_and, aA, aE, dB, bN, aHP, if_false, bP, n2, and_true]
theorem aoU {a mode : Int} {s : ByteArray} {ov : aJ3} {T : Nat × List T3} {base : Nat} {w : aJ2} (hl : mode = 2 -> s.size <= 1000000) (ho : RtV w base T ov) (hbase : base <= w.heap.size) (hT : T.2.length <= 1000000) :
 aR pg CJ #[.int .i64 a, .int .i64 mode, .string s, ov] w (fun r w' => RtR w' base (gG a mode (lL s) T) r /\ aS w w' cM) := by
 refine ajD ?_
 obtain ⟨RR, hRR⟩ : ∃ RR : aJ3 -> aJ2 -> Prop, RR = fun r w' => RtR w' base (gG a mode (lL s) T) r /\ aS w w' cM := ⟨_, rfl⟩
 rw [<- hRR]
 obtain ⟨oa, oc, rfl⟩ := ho.form
 unfold anV OD
 refine fV fun w1 o1 x1 s1 => ?_
 simp only [Value.cells] at o1
 refine gX fun w2 o2 x2 s2 => ?_
 have x12 := x1.seq x2
 have z2 := x12.size
 refine (avI a _).mono ?_
 rintro r w3 ⟨hbs, x3⟩
 have hbl := aDY a
 obtain ⟨ga, gc, rfl, _⟩ := hbs.lenI
 have o1 := (o1.ext x2 (fun h => h)).ext x3 (fun h => h)
 have o2 := o2.ext x3 (fun h => h)
 have x13 := x12.seq x3
 have z3 := x3.size
 have err : ∀ {e : Int} {w' : aJ2}, gG a mode (lL s) T = .error e -> aS w w' cM -> RR (.tuple #[.agg #[.int .i64 0, .slice none 0 0], .int .i64 0, .int .i64 e]) w' := fun h x => by
  rw [hRR]; refine ⟨?_, x⟩; rw [h] <;> rfl
 have good : ∀ {T' : Nat × List T3} {n : Nat} {w' : aJ2} {t : aJ3}, gG a mode (lL s) T = .ok (T', n) -> RtV w' base T' t -> aS w w' cM -> RR (.tuple #[t, .int .i64 n, .int .i64 0]) w' := fun h ht x => by
  rw [hRR]; refine ⟨?_, x⟩; rw [h]; exact ⟨_, rfl, ht⟩
 generalize (aBB a).length = nb at *
 by_cases ha : 0 <= a /\ a <= 2
 rotate_left
 .have hE : gG a mode (lL s) T = .error 1 := by unfold gG; rw [if_pos (by omega)]
  have d1 : (((nb : Nat) : Int) == 0) = true := by rw [hbl, aoD ha] <;> rfl
  simp (disch := omega) only [aC, fX, dD, aA, cR, bR, aHI, bO, d1, jE, bN, if_true, aF, dV]
  exact Uh o2 x13 (by omega) fun w' x _ => err hE x
 obtain ⟨hl1, hl2⟩ := KW ha
 have d1 : (((nb : Nat) : Int) == 0) = false := beq_eq_false_iff_ne.2 (by omega)
 by_cases hm0 : mode < 0
 .have d2 : decide (mode < 0) = true := by simp; omega
  have hE : gG a mode (lL s) T = .error 1 := by unfold gG; rw [if_pos (by omega)]
  simp (disch := omega) only [aC, fX, dD, aA, cR, bR, aHI, bO, d1, dB, bN, aHP, if_false, bP, aX, d2, jE, if_true, aF, dV]
  exact Uh o2 x13 (by omega) fun w' x _ => err hE x
 have d2 : decide (mode < 0) = false := by simp; omega
 by_cases hm3 : 3 < mode
 .have d3 : decide (3 < mode) = true := by simp; omega
  have hE : gG a mode (lL s) T = .error 1 := by unfold gG; rw [if_pos (by omega)]
  simp (disch := omega) only [aC, fX, dD, aA, cR, bR, aHI, bO, d1, dB, bN, aHP, if_false, bP, aX, d2, dM, d3, aF]
  exact Uh o2 x13 (by omega) fun w' x _ => err hE x
 have d3 : decide (3 < mode) = false := by simp; omega
 have hno : ¬ (a < 0 ∨ 2 < a ∨ mode < 0 ∨ 3 < mode) := by omega
 by_cases m0 : mode = 0
 .subst m0
  have n1 : ((0 : Int) == 0) = true := rfl
  have hE : gG a 0 (lL s) T = .ok ((Za a, kD (Za a) (gvP a)), 0) := by unfold gG; rw [if_neg hno, if_pos rfl]
  simp (disch := omega) only [aC, fX, dD, aA, cR, n1, bR, aHI, bO, aF, d1, dB, bN, aHP, if_false, bP, aX, d2, dM, d3, aE]
  refine (auV _).mono ?_
  rintro r w4 ⟨t, e, rfl, ht, x4⟩
  have hD : wE a = .ok (Za a, kD (Za a) (gvP a)) := by unfold wE; rw [if_pos (by omega)]
  rw [hD] at ht
  obtain ⟨ht, rfl⟩ := ht
  obtain ⟨ta, tc, rfl⟩ := ht.form
  have z4 := x4.size
  simp (disch := omega) only [B9, B7, aA]
  refine gX fun w5 o5 x5 s5 => ?_
  refine eQ o5 rfl (by simp [one]) (by simp) fun w6 o6 x6 s6 => ?_
  have l1 := dE (off := 0) o6 (by simp [aV])
  simp only [aV, aHL, aHN, aHM, aHG, aHO] at l1
  simp (disch := omega) only [l1, aA]
  have x46 : aS w3 w6 cM := x4.seq (x5.new x6 (aHS _))
  refine Uh (o2.ext x46 (fun h => h)) (x13.seq x46) (by omega) fun w' x x7 => good hE ?_ x
  rcases ht with ⟨e, _⟩ | ⟨b', hb', h'⟩
  .exact absurd (congrArg (fun T : Nat × List T3 => T.2.length) e) (by
    show (kD _ _).length ≠ 0
    rw [jC]; have := aIj (Za a); omega)
  .obtain ⟨cc, rest, q1, q2⟩ := h'
   cases q1
   have hlt := q2.lt
   exact .inr ⟨b', by omega, _, rest, rfl, ((q2.ext x5 (fun h => h)).ext x6 (by omega)).ext x7 (by omega)⟩
 have n1 : (mode == 0) = false := beq_eq_false_iff_ne.2 m0
 have hls := kK s
 by_cases m1 : mode = 1
 .subst m1
  have n2 : ((1 : Int) == 1) = true := rfl
  cases hle : lL s with
  | nil =>
    have hE : gG a 1 (lL s) T = .error 10 := by rw [hle]; unfold gG; rw [if_neg hno, if_neg (by omega), if_pos rfl]
    have hs0 : s = ⟨#[]⟩ := aBe hle
    have n3 : (s.toList == (⟨#[]⟩ : ByteArray).toList) = true := by rw [hs0]; simp
    simp (disch := omega) only [aC, fX, dD, aA, cR, n1, n2, afI, n3, aF, bR, aHI, bO, aE, d1, dB, bN, aHP, if_false, bP, aX, d2, dM, d3]
    exact Uh o2 x13 (by omega) fun w' x _ => err hE x
  | cons y l =>
    have hsz : 0 < s.size := by rw [<- hls, hle]; simp
    have n3 : (s.toList == (⟨#[]⟩ : ByteArray).toList) = false := ayW (by omega)
    have g0 : (s[(0 : Int).toNat]'hsz) = y := by
     have := abN s 0 hsz
     simp only [hle, aJj] at this
     exact this
    have hsz' : (0 : Int).toNat < s.size := hsz
    have hy := y.toNat_lt
    by_cases hyl : mW a < (y.toNat : Int)
    .have d4 : decide (((nb : Nat) : Int) <= (y.toNat : Int)) = true := by simp only [decide_eq_true_eq]; omega
     have hE : gG a 1 (lL s) T = .error 11 := by rw [hle]; unfold gG; rw [if_neg hno, if_neg (by omega), if_pos rfl]; exact if_pos hyl
     simp (disch := omega) only [aC, fX, dD, aA, cR, n1, n2, afI, n3, tQ, g0, nY, aT, aE, bR, aHI, bO, aF, d1, pG, d4, dB, bN, aHP, if_false, bP, aX, d2, dM, d3]
     exact Uh o2 x13 (by omega) fun w' x _ => err hE x
    .have d4 : decide (((nb : Nat) : Int) <= (y.toNat : Int)) = false := by simp only [decide_eq_false_iff_not]; omega
     have hE : gG a 1 (lL s) T = .ok ((0, [((y.toNat : Nat), 0, 0)]), 1) := by rw [hle]; unfold gG; rw [if_neg hno, if_neg (by omega), if_pos rfl]; exact if_neg hyl
     simp (disch := omega) only [aC, fX, dD, aA, cR, n1, n2, afI, n3, tQ, g0, nY, aT, aE, bR, aHI, bO, aF, d1, pG, d4, dB, bN, aHP, if_false, bP, aX, d2, dM, d3]
     refine (aDR (y.toNat : Nat) _).mono ?_
     rintro r w4 ⟨b, hb1, ⟨cc, rest, rfl, ob⟩, x4⟩
     have z4 := x4.size
     have hbl := ob.lt
     refine Uh (o2.ext x4 (fun h => h)) (x13.seq x4) (by omega) fun w' x x7 => good hE (.inr ⟨b, by omega, cc, rest, rfl, ?_⟩) x
     exact ob.ext x7 (by omega)
 have n2 : (mode == 1) = false := beq_eq_false_iff_ne.2 m1
 by_cases m3 : mode = 3
 .subst m3
  have n3 : ((3 : Int) == 3) = true := rfl
  have c1 := o1.cell (off := 1)
  simp only [aHJ, aHK] at c1
  have l1 := dE (off := 0) o1 (by simp)
  simp only [aHM, aHG, aHO] at l1
  by_cases h0 : T.2 = []
  .have n4 : (((T.2.length : Nat) : Int) == 0) = true := by rw [h0] <;> rfl
   have hE : gG a 3 (lL s) T = .error 11 := by unfold gG; rw [if_neg hno, if_neg (by omega), if_neg (by omega), if_pos rfl, if_pos h0]
   simp (disch := omega) only [aC, fX, dD, aA, cR, n1, n2, n3, bR, aHI, bO, aF, aE, d1, dB, bN, aHP, if_false, bP, aX, d2, dM, d3, c1, aI, kH, n4]
   exact Uh o2 x13 (by omega) fun w' x _ => err hE x
  .have n4 : (((T.2.length : Nat) : Int) == 0) = false := by
    have := aII.2 h0
    simp; exact h0
   have hE : gG a 3 (lL s) T = .ok (T, 0) := by unfold gG; rw [if_neg hno, if_neg (by omega), if_neg (by omega), if_pos rfl, if_neg h0]
   simp (disch := omega) only [aC, fX, dD, aA, cR, n1, n2, n3, bR, aHI, bO, aF, aE, d1, dB, bN, aHP, if_false, bP, aX, d2, dM, d3, c1, aI, kH, n4, l1]
   refine Uh o2 x13 (by omega) fun w' x x7 => good hE ?_ x
   rcases ho with ⟨e, _⟩ | ⟨b, hb1, h⟩
   .rw [e] at h0; exact absurd rfl h0
   .have hbl := h.lt
    exact .inr ⟨b, hb1, (h.ext x13 (fun h => h)).ext x7 (by omega)⟩
 have n3 : (mode == 3) = false := beq_eq_false_iff_ne.2 m3
 have m2 : mode = 2 := by omega
 have hl2 := hl m2
 simp (disch := omega) only [aC, fX, dD, aA, cR, n1, n2, n3, bR, aHI, bO, aE, d1, dB, bN, aHP, if_false, bP, aX, d2, dM, d3]
 refine (aBD a _).mono ?_
 rintro r w4 ⟨rfl, hw⟩
 rw [hw]
 clear hw w4
 have e1 : (mW a + 1).toNat = nb := by omega
 refine (azJ hl2 (by omega)).mono ?_
 rintro r w4 ⟨hr, x4⟩
 have z4 := x4.size
 have hE0 : gG a mode (lL s) T = match wF (bE (lL s)) (Dg a) nb with
  | .error e => .error e
  | .ok (lg, ps, u) => .ok ((lg, kD lg ps), u) := by unfold gG; rw [if_neg hno, if_neg m0, if_neg m1, if_neg m3, e1] <;> rfl
 cases hrl : wF (bE (lL s)) (Dg a) nb with
 | error e =>
   rw [hrl] at hr hE0
   have hr : r = _ := hr
   subst hr
   have he := aeL hrl
   have n4 : (e != 0) = true := by simpa using he
   have hE : gG a mode (lL s) T = .error e := hE0
   simp (disch := omega) only [RQ, Sd, RN, aA, eT]
   refine pA fun w5 o5 x5 s5 => ?_
   refine iN o5 rfl (by simp [one]) (by simp) fun w6 o6 x6 s6 => ?_
   simp (disch := omega) only [n4, aF]
   have x46 : aS w3 w6 cM := x4.seq (x5.new x6 (aHS _))
   exact Uh (o2.ext x46 (fun h => h)) (x13.seq x46) (by omega) fun w' x _ => err hE x
 | ok y =>
   obtain ⟨lg, ps, u⟩ := y
   rw [hrl] at hr hE0
   obtain ⟨v, rfl, hv⟩ := hr
   obtain ⟨hmay, hlg, hpl⟩ := aoR hrl
   have hm := hmay (by omega)
   have hE : gG a mode (lL s) T = .ok ((lg, kD lg ps), u) := hE0
   obtain ⟨va, vc, rfl⟩ := hv.len
   have hs := hv.sl
   have n4 : ((0 : Int) != 0) = false := rfl
   simp (disch := omega) only [RQ, Sd, RN, aA, eT]
   refine pA fun w5 o5 x5 s5 => ?_
   refine iN o5 rfl (by simp [one]) (by simp) fun w6 o6 x6 s6 => ?_
   have l1 := lO (off := 0) o6 (by simp [aV])
   simp only [aV, aHL, aHN, aHM, aHG, aHO] at l1
   have x46 : aS w4 w6 cM := x5.new x6 (aHS _)
   have z6 := x46.size
   simp (disch := omega) only [n4, l1, aA, aE]
   refine (amP hm (hs.ext x46 (cB _))).mono ?_
   rintro r w7 ⟨b, cc, rest, rfl, hb1, ob, x7⟩
   have z7 := x7.size
   have hbl := ob.lt
   simp (disch := omega) only [B9, B7, aA, eT]
   refine gX fun w8 o8 x8 s8 => ?_
   refine eQ o8 rfl (by simp [one]) (by simp) fun w9 o9 x9 s9 => ?_
   have l2 := dE (off := 0) o9 (by simp [aV])
   simp only [aV, aHL, aHN, aHM, aHG, aHO] at l2
   simp (disch := omega) only [n4, l2, aA, aE]
   have x49 : aS w3 w9 cM := ((x4.seq x46).seq x7).seq (x8.new x9 (aHS _))
   refine Uh (o2.ext x49 (fun h => h)) (x13.seq x49) (by omega) fun w' x x10 => good hE (.inr ⟨b, by omega, cc, rest, by rw [jC], ?_⟩) x
   exact ((ob.ext x8 (fun h => h)).ext x9 (by omega)).ext x10 (by omega)
theorem aAe {log lo hi lack k cc : Nat} {a : Option Addr} {b : aJ3} {L : List Bool} {w : aJ2} (h : RB w lo hi b L lack) (hhi : hi <= w.heap.size) (hn : log <= 20) (hL : L.length <= 10000000) (hk : lack <= 100000000) :
 aR pg sY #[.agg #[.int .i64 log, .slice a k cc], b] w (fun r w' => ∃ b', r = .tuple #[b', .int .i64 (tB L log : Nat)] /\ RB w' lo hi b' (L.take (L.length - min log L.length)) (lack + (log - min log L.length)) /\ aS w w' cM) := by
 refine agM ?_
 unfold ahT LA
 have hb := h
 obtain ⟨v, rfl, hs, hat⟩ := h
 obtain ⟨a', c', rfl, hc⟩ := Md hs
 refine fV fun w1 o1 x1 s1 => ?_
 refine fV fun w2 o2 x2 s2 => ?_
 refine jH fun w3 o3 x3 s3 => ?_
 simp only [Value.cells] at o1 o2
 have o13 := (o1.ext x2 (fun h => h)).ext x3 (fun h => h)
 have o23 := o2.ext x3 (fun h => h)
 have x03 : aS w w3 cM := (x1.seq x2).seq x3
 have c0 := o13.cell (off := 0)
 have l1 := cX (off := 0) o23 (by simp)
 simp only [aHJ, aHK, aHM, aHG, aHO] at c0 l1
 simp (disch := omega) only [aC, l1, sQ, aA, cA, c0, aI]
 refine (afH (hb.ext x03 (fun _ _ _ h => h)) (by omega) hL (by omega)).mono ?_
 rintro r w4 ⟨b', rfl, hb4, x4⟩
 have hlt := CP L log
 have hp : 2 ^ log <= 2 ^ 20 := aHT (by omega) hn
 generalize tB L log = x at *
 have hb4' := hb4
 obtain ⟨v4, rfl, hs4, hat4⟩ := hb4
 obtain ⟨a4, c4, rfl, hc4⟩ := Md hs4
 simp (disch := omega) only [B9, B7, aA, cZ, aT]
 refine bW (o23.ext x4 (fun h => h)) rfl (by simp [one]) (by simp) fun w5 o5 x5 s5 => ?_
 simp only [aV, aHL, aHN] at o5
 have l5 := cX (off := 0) o5 (by simp)
 simp only [aHM, aHG, aHO] at l5
 simp (disch := omega) only [l5, aA]
 refine bW ((o3.ext x4 (fun h => h)).ext x5 (by omega)) rfl (by simp [one]) (by simp) fun w6 o6 x6 s6 => ?_
 refine gZ o6 (by simp [aV]) ?_
 simp only [aV, aHL, aHN, aHM, aHG, aHO]
 have z3 := x3.size
 have x46 : aS w3 w6 (fun y => y = w1.heap.size ∨ y = w2.heap.size) := ((x4.mono fun _ _ h => h.elim).seq (x5.mono fun _ _ h => .inl h)).seq (x6.mono fun _ _ h => .inr h)
 have x06 : aS w w6 cM := x03.trans x46 fun b hb h => by omega
 refine ⟨_, rfl, ?_, x06⟩
 exact ⟨_, rfl, hs4.ext ((x5.mono fun _ _ h => .inl h : aS w4 w5 (fun y => y = w1.heap.size ∨ y = w2.heap.size)).seq (x6.mono fun _ _ h => .inr h)) (hat4 _ fun b hb hh => by omega), hat4⟩
theorem azR {log b lo hi lack : Nat} {v bv : aJ3} {L : List T3} {s : Int} {B : List Bool} {w : aJ2} (ht : RT w b log L v) (hL : Low L) (hlen : L.length <= 1000000) (h : RB w lo hi bv B lack) (hhi : hi <= w.heap.size) (hB : B.length <= 10000000) (hk : lack <= 100000000) :
 aR pg nX #[v, .int .i64 s, bv] w (fun r w' => ∃ b', r = .tuple #[b', .int .i64 (yH L s (tB B (oM L s)))] /\ RB w' lo hi b' (B.take (B.length - min (oM L s) B.length)) (lack + (oM L s - min (oM L s) B.length)) /\ aS w w' cM) := by
 refine ajT ?_
 have htt := ht
 obtain ⟨cc, rest, rfl, ob⟩ := ht
 have hb := h
 obtain ⟨v, rfl, hs, hat⟩ := h
 obtain ⟨a', c', rfl, hc⟩ := Md hs
 unfold alZ OI
 refine fV fun w1 o1 x1 s1 => ?_
 refine fV fun w2 o2 x2 s2 => ?_
 refine jH fun w3 o3 x3 s3 => ?_
 simp only [Value.cells] at o1 o2
 have o13 := (o1.ext x2 (fun h => h)).ext x3 (fun h => h)
 have o23 := o2.ext x3 (fun h => h)
 have x03 : aS w w3 cM := (x1.seq x2).seq x3
 have c1 := o13.cell (off := 1)
 have l1 := cX (off := 0) o23 (by simp)
 simp only [aHJ, aHK, aHM, aHG, aHO] at c1 l1
 have hlb := ob.lt
 have bad : oM L s = 0 -> (∀ x, yH L s x = 0) -> ∀ w6, aS w3 w6 (fun y => y = w2.heap.size) -> ∃ b', Value.tuple #[.agg #[.slice a' B.length c', .int .i64 lack], .int .i64 0] = Value.tuple #[b', .int .i64 (yH L s (tB B (oM L s)))] /\ RB w6 lo hi b' (B.take (B.length - min (oM L s) B.length)) (lack + (oM L s - min (oM L s) B.length)) /\ aS w w6 cM := by
  intro e1 e2 w6 x6
  have x06 : aS w w6 cM := x03.new x6 (by omega)
  refine ⟨_, by rw [e2], ⟨_, ?_, ?_, hat⟩, x06⟩
  .rw [e1]; simp
  .have : B.take (B.length - min (oM L s) B.length) = B := aIe (by omega)
   rw [this]
   exact hs.ext x06 (cB _)
 by_cases hs0 : s < 0
 .have d1 : decide (s < 0) = true := by simpa using hs0
  have e1 : oM L s = 0 := by unfold oM; rw [if_neg (by omega)]
  have e2 : ∀ x, yH L s x = 0 := fun x => by unfold yH; rw [if_neg (by omega)]
  simp (disch := omega) only [aC, aX, d1, bR, aHI, aA, eD, and_true, Result.ok.injEq, Next.value.injEq, true_and, bO, jE, bN, if_true, aF, dV, l1]
  refine bW o3 rfl (by simp [one]) (by simp) fun w6 o6 x6 s6 => ?_
  refine gZ o6 (by simp [aV]) ?_
  simp only [aV, aHL, aHN, aHM, aHG, aHO]
  exact bad e1 e2 w6 x6
 have d1 : decide (s < 0) = false := by simpa using hs0
 obtain ⟨i, rfl⟩ : ∃ i : Nat, s = i := ⟨s.toNat, by omega⟩
 by_cases hge : L.length <= i
 .have d2 : decide ((L.length : Int) <= (i : Int)) = true := by simp; omega
  have hnone : L[i]? = none := aH3 hge
  have e1 : oM L i = 0 := by unfold oM; simp [hnone]
  have e2 : ∀ x, yH L i x = 0 := fun x => by unfold yH; simp [hnone]
  simp (disch := omega) only [aC, aX, d1, bR, aHI, aA, eD, and_true, Result.ok.injEq, Next.value.injEq, true_and, bO, dB, bN, aHP, if_false, bP, c1, aI, kH, pG, d2, l1, aF]
  refine bW o3 rfl (by simp [one]) (by simp) fun w6 o6 x6 s6 => ?_
  refine gZ o6 (by simp [aV]) ?_
  simp only [aV, aHL, aHN, aHM, aHG, aHO]
  exact bad e1 e2 w6 x6
 clear bad
 have d2 : decide ((L.length : Int) <= (i : Int)) = false := by simp; omega
 have hlt : i < L.length := by omega
 obtain ⟨n, hn, hn2, hb0', hb1⟩ := hL _ (aH1 hlt)
 have hsome : L[i]? = some L[i] := aHQ hlt
 have e1 : oM L i = n := by unfold oM; simp [hsome, hn]
 have e2 : ∀ x : Nat, yH L i x = L[i].2.2 + x := fun x => by unfold yH; simp [hsome]
 obtain ⟨q1, q2, q3⟩ := Qd (k := .i64) hsome
 have hq : i * 3 + 2 < (fe .i64 L).length := by rw [kX]; omega
 rw [<- aHW (l₂ := rest) (by omega)] at q1 q2 q3
 generalize L[i] = e at *
 obtain ⟨e0, en, eb⟩ := e
 simp only at hn hb0' hb1 q1 q2 q3 e2
 subst hn
 rw [e1, e2]
 have ob3 := ob.ext x03 (fun h => h)
 have od := dN o13
 have o2d := dN o23
 have obd := dN ob3
 have c1d := od.cell (off := 1)
 have l1d := cX (off := 0) o2d (by simp)
 have r2d := obd.cell (off := i * 3 + 1)
 have r2 := ob3.cell (off := i * 3 + 1)
 rw [q2] at r2 r2d
 simp only [aHJ, aHK, aHM, aHG, aHO] at c1d l1d
 simp (disch := omega) only [aC, aX, d1, bR, aHI, aA, eD, and_true, Result.ok.injEq, Next.value.injEq, true_and, bO, dB, bN, aHP, if_false, bP, c1, aI, kH, pG, d2, l1, l1d, c1d, fN, aHH, nI, cA, r2d, aE]
 refine (afH ((hb.ext x03 (fun _ _ _ h => h)).ext (aS.dr _ cM) (fun _ _ _ h => h)) (by omega) hB (by omega)).mono ?_
 rintro r w4 ⟨b', rfl, hb4, x4⟩
 have hlt := CP B n
 have hp : 2 ^ n <= 2 ^ 20 := aHT (by omega) hn2
 generalize tB B n = x at *
 obtain ⟨v4, rfl, hs4, hat4⟩ := hb4
 obtain ⟨a4, c4, rfl, hc4⟩ := Md hs4
 simp (disch := omega) only [B9, B7, Result.ok.injEq, Next.value.injEq, and_true, aA, cZ, aT, true_and]
 refine bW (o2d.ext x4 (fun h => h)) rfl (by simp [one]) (by simp) fun w5 o5 x5 s5 => ?_
 simp only [aV, aHL, aHN] at o5
 have z3 := x3.size
 have z4 : w3.heap.size <= w4.heap.size := x4.size
 have x35 : aS w3 w5 (fun y => y = w1.heap.size) := (((aS.dr w3 cM).seq x4).mono fun _ _ h => h.elim).seq x5
 have o15 := o13.ext x35 (by omega)
 have ob5 := ob3.ext x35 (by omega)
 have o5d := dN o5
 have l5 := cX (off := 0) o5d (by simp)
 have c15 := (dN o15).cell (off := 1)
 have r3 := (dN ob5).cell (off := i * 3 + 2)
 rw [q3] at r3
 simp only [aHJ, aHK, aHM, aHG, aHO] at l5 c15
 simp (disch := omega) only [l5, c15, aI, aA, fN, aHH, aHI, Result.ok.injEq, Next.value.injEq, and_true, nH, true_and, cA, r3, bM, aT]
 refine bW (dN (o3.ext x35 (by omega))) rfl (by simp [one]) (by simp) fun w6 o6 x6 s6 => ?_
 simp only [aV, aHL, aHN] at o6
 have x56 : aS w5 w6 (fun y => y = w2.heap.size) := (aS.dr _ _).seq x6
 have c16 := (o15.ext x56 (by omega)).cell (off := 1)
 have r36 := (ob5.ext x56 (by omega)).cell (off := i * 3 + 2)
 rw [q3] at r36
 simp only [aHJ, aHK] at c16
 simp (disch := omega) only [r36, aI, c16, and_true, true_and]
 refine gZ o6 (by simp) ?_
 simp only [aHM, aHG, aHO]
 have x36 : aS w3 w6 (fun y => y = w1.heap.size ∨ y = w2.heap.size) := (x35.mono fun _ _ h => .inl h).seq (x56.mono fun _ _ h => .inr h)
 have x06 : aS w w6 cM := x03.trans x36 fun b hb h => by omega
 refine ⟨_, rfl, ⟨_, rfl, hs4.ext ((x5.mono fun _ _ h => .inl h : aS w4 w5 (fun y => y = w1.heap.size ∨ y = w2.heap.size)).seq (x56.mono fun _ _ h => .inr h)) (hat4 _ fun b hb hh => by omega), hat4⟩, x06⟩
def RBl (w : aJ2) (lo hi : Nat) (b : aJ3) (B : List Bool) (left : Int) : Prop := RB w lo hi b (B.take left.toNat) (-left).toNat
theorem RBl.ext {w w' : aJ2} {lo hi : Nat} {b : aJ3} {B : List Bool} {left : Int} {M : Nat -> Prop} (h : RBl w lo hi b B left) (x : aS w w' M) (hM : ∀ b, lo <= b -> b < hi -> ¬ M b) : RBl w' lo hi b B left := RB.ext h x hM
theorem RBl.form {w : aJ2} {lo hi : Nat} {b : aJ3} {B : List Bool} {left : Int} (h : RBl w lo hi b B left) (hl : left <= B.length) : ∃ a c, b = .agg #[.slice a left.toNat c, .int .i64 ((-left).toNat : Nat)] := by
 obtain ⟨v, rfl, hs, _⟩ := h
 obtain ⟨a, c, rfl, _⟩ := Md hs
 have : (B.take left.toNat).length = left.toNat := by rw [aHZ]; omega
 rw [this]
 exact ⟨_, _, rfl⟩
theorem RBl.step {w : aJ2} {lo hi n : Nat} {b : aJ3} {B : List Bool} {left : Int} (hl : left <= B.length)
 (h : RB w lo hi b ((B.take left.toNat).take ((B.take left.toNat).length - min n (B.take left.toNat).length)) ((-left).toNat + (n - min n (B.take left.toNat).length))) : RBl w lo hi b B (left - n) := by
 have hlen : (B.take left.toNat).length = left.toNat := by rw [aHZ]; omega
 rw [hlen, List.take_take] at h
 have e1 : min (left.toNat - min n left.toNat) left.toNat = (left - n).toNat := by omega
 have e2 : (-left).toNat + (n - min n left.toNat) = (-(left - n)).toNat := by omega
 rw [e1, e2] at h
 exact h
theorem aC6 {lo hi n : Nat} {b : aJ3} {B : List Bool} {left : Int} {w : aJ2} (h : RBl w lo hi b B left) (hn : n <= 56) (hl : left <= B.length) (hB : B.length <= 10000000) (hk : -1000000000 <= left) :
 aR pg uP #[b, .int .i64 n] w (fun r w' => ∃ b', r = .tuple #[b', .int .u64 (rdL B left n : Nat)] /\ RBl w' lo hi b' B (left - n) /\ aS w w' cM) := by
 have hlen : (B.take left.toNat).length <= 10000000 := by rw [aHZ]; omega
 refine (afH h hn hlen (by omega)).mono ?_
 rintro r w1 ⟨b', rfl, h1, x1⟩
 exact ⟨b', rfl, RBl.step hl h1, x1⟩
theorem afS {log lo hi k cc : Nat} {a : Option Addr} {b : aJ3} {B : List Bool} {left : Int} {w : aJ2} (h : RBl w lo hi b B left) (hhi : hi <= w.heap.size) (hn : log <= 20) (hl : left <= B.length) (hB : B.length <= 10000000) (hk : -100000000 <= left) :
 aR pg sY #[.agg #[.int .i64 log, .slice a k cc], b] w (fun r w' => ∃ b', r = .tuple #[b', .int .i64 (rdL B left log : Nat)] /\ RBl w' lo hi b' B (left - log) /\ aS w w' cM) := by
 have hlen : (B.take left.toNat).length <= 10000000 := by rw [aHZ]; omega
 refine (aAe h hhi hn hlen (by omega)).mono ?_
 rintro r w1 ⟨b', rfl, h1, x1⟩
 exact ⟨b', rfl, RBl.step hl h1, x1⟩
theorem apR {log b lo hi : Nat} {v bv : aJ3} {L : List T3} {s : Int} {B : List Bool} {left : Int} {w : aJ2} (ht : RT w b log L v) (hL : Low L) (hlen : L.length <= 1000000) (h : RBl w lo hi bv B left) (hhi : hi <= w.heap.size) (hl : left <= B.length) (hB : B.length <= 10000000) (hk : -100000000 <= left) :
 aR pg nX #[v, .int .i64 s, bv] w (fun r w' => ∃ b', r = .tuple #[b', .int .i64 (nR L s B left).1] /\ RBl w' lo hi b' B (nR L s B left).2 /\ aS w w' cM) := by
 have hl2 : (B.take left.toNat).length <= 10000000 := by rw [aHZ]; omega
 refine (azR ht hL hlen h hhi hl2 (by omega)).mono ?_
 rintro r w1 ⟨b', rfl, h1, x1⟩
 exact ⟨b', rfl, RBl.step hl h1, x1⟩
theorem aDL {lo hi : Nat} {b : aJ3} {B : List Bool} {left : Int} {w : aJ2} (h : RBl w lo hi b B left) (hl : left <= B.length) (hB : B.length <= 10000000) (hk : -100000000 <= left) :
 aR pg DG #[b] w (fun r w' => r = .int .i64 left /\ aS w w' cM) := by
 have hlen : (B.take left.toNat).length = left.toNat := by rw [aHZ]; omega
 refine (aB4 h (by omega) (by omega)).mono ?_
 rintro r w1 ⟨rfl, x1⟩
 refine ⟨?_, x1⟩
 rw [hlen]; congr 1; omega
theorem Xz {k lo hi b : Nat} {T : TT} {v bv : aJ3} {s : Nat} {B : List Bool} {left : Int} {w : aJ2} (hk : k < 3) (ht : RT w b T.1 T.2 v) (hG : yD k T) (hs : s < T.2.length) (h : RBl w lo hi bv B left) (hhi : hi <= w.heap.size) (hl : left <= B.length) (hB : B.length <= 10000000) (h2 : -100000000 <= left) :
 aR pg nW #[.int .i64 k, v, .int .i64 s, bv] w (fun r w' => ∃ b', r = .tuple #[b', .int .u32 ((vR k T.2 s B left).1 : Nat)] /\ RBl w' lo hi b' B (vR k T.2 s B left).2 /\ aS w w' cM) := by
 refine afG ?_
 obtain ⟨RR, hRR⟩ : ∃ RR : aJ3 -> aJ2 -> Prop, RR = fun r w' => ∃ b', r = .tuple #[b', .int .u32 ((vR k T.2 s B left).1 : Nat)] /\ RBl w' lo hi b' B (vR k T.2 s B left).2 /\ aS w w' cM := ⟨_, rfl⟩
 rw [<- hRR]
 have hlen9 : T.2.length <= 512 := by rw [hG.len]; exact aHT (by omega) hG.lg
 obtain ⟨cc, rest, rfl, ob⟩ := ht
 have hf := h.form hl
 obtain ⟨ba, bc, rfl⟩ := hf
 unfold aiD LM
 refine fV fun w1 o1 x1 s1 => ?_
 refine fV fun w2 o2 x2 s2 => ?_
 refine jH fun w3 o3 x3 s3 => ?_
 simp only [Value.cells] at o1 o2
 have x03 := (x1.seq x2).seq x3
 have z1 := x1.size
 have z2 := x2.size
 have o1 := (o1.ext x2 (fun h => h)).ext x3 (fun h => h)
 have o2 := o2.ext x3 (fun h => h)
 have c1 := o1.cell (off := 1)
 simp only [aHJ, aHK] at c1
 obtain ⟨e, c, e1, e2, e3, e4, e5⟩ := YY hG hs
 have k0 := (ob.ext x03 (fun h => h)).cell (off := s * 3)
 rw [aHW (by rw [kX]; omega), (Qd e1).1] at k0
 have hc53 : lC k <= 53 := by rcases (show k = 0 ∨ k = 1 ∨ k = 2 by omega) with rfl | rfl | rfl <;> decide
 simp (disch := omega) only [aC, bR, aHI, aA, bO, c1, aI, fN, aHH, iK, cA, k0]
 refine (aB5 hk e2).mono ?_
 rintro r w4 ⟨rfl, x4⟩
 have ha := ZF hk e.1
 have he := aES hk e.1 e2
 have hr := Xl B left ((kQ k).getD e.1 0)
 have hv : vR k T.2 s B left = ((rO k).getD e.1 0 + rdL B left ((kQ k).getD e.1 0), left - (kQ k).getD e.1 0) := by unfold vR; rw [aAE e1]
 rw [hv] at hRR
 have o2 := o2.ext x4 (fun h => h)
 have l2 := cX (off := 0) o2 (by simp)
 simp only [aHM, aHG, aHO] at l2
 simp (disch := omega) only [RQ, Sd, RN, aA, l2]
 have x04 := x03.seq x4
 refine (aC6 (h.ext x04 (fun _ _ _ h => h)) (by omega) hl hB (by omega)).mono ?_
 rintro r w5 ⟨b', rfl, h5, x5⟩
 obtain ⟨ba', bc', rfl⟩ := h5.form (by omega)
 simp (disch := omega) only [B9, B7, aA, zV, Z2, bM]
 refine bW (o2.ext x5 (fun h => h)) rfl (by simp [one]) (by simp) fun w6 o6 x6 s6 => ?_
 simp only [aV, aHL, aHN] at o6
 have l6 := cX (off := 0) o6 (by simp)
 simp only [aHM, aHG, aHO] at l6
 generalize rdL B left ((kQ k).getD e.1 0) = x at *
 generalize (kQ k).getD e.1 0 = n at *
 generalize (rO k).getD e.1 0 = y at *
 generalize 2 ^ n = z at *
 have ew2 : IntKind.u32.wrap (x : Int) = (x : Int) := w32 (by omega) (by omega)
 have ew3 : IntKind.u32.wrap ((y : Int) + (x : Int)) = ((y + x : Nat) : Int) := by rw [w32 (by omega) (by omega)]; omega
 simp (disch := omega) only [l6, aA]
 refine bW (((o3.ext x4 (fun h => h)).ext x5 (fun h => h)).ext x6 (by omega)) rfl (by simp [one]) (by simp) fun w7 o7 x7 s7 => ?_
 refine gZ o7 (by simp [aV]) ?_
 simp only [aV, aHL, aHN, aHM, aHG, aHO]
 rw [hRR]
 exact ⟨_, rfl, (h5.ext x6 (fun b _ hb => by omega)).ext x7 (fun b _ hb => by omega), ((x04.seq x5).new x6 (by omega)).new x7 (by omega)⟩
def tvR (T : TT) (a : Option Addr) (c : Nat) : aJ3 := .agg #[.int .i64 T.1, .slice a T.2.length c]
def r6 (o : Nat -> TT) (a : Nat -> Option Addr) (c : Nat -> Nat) : List aJ3 := [.int .i64 (o 0).1, .slice (a 0) (o 0).2.length (c 0), .int .i64 (o 1).1, .slice (a 1) (o 1).2.length (c 1), .int .i64 (o 2).1, .slice (a 2) (o 2).2.length (c 2)]
def Rb3 (w : aJ2) (o : Nat -> TT) (a : Nat -> Option Addr) (c : Nat -> Nat) : Prop := ∀ k, k < 3 -> RtV w 0 (o k) (tvR (o k) (a k) (c k))
theorem aFA (o : Nat -> TT) (a : Nat -> Option Addr) (c : Nat -> Nat) {k : Nat} (h : k < 3) : ((r6 o a c).drop (k * 2)).take 2 = [.int .i64 (o k).1, .slice (a k) (o k).2.length (c k)] := by
 rcases (show k = 0 ∨ k = 1 ∨ k = 2 by omega) with rfl | rfl | rfl <;> rfl
theorem aCD (o : Nat -> TT) (a : Nat -> Option Addr) (c : Nat -> Nat) {k : Nat} (h : k < 3) (T : TT) (x : Option Addr) (y : Nat) : aV (r6 o a c) (k * 2) [.int .i64 T.1, .slice x T.2.length y] = r6 (SD o k T) (upA a k x) (upS c k y) := by
 rcases (show k = 0 ∨ k = 1 ∨ k = 2 by omega) with rfl | rfl | rfl <;> rfl
theorem Rb3.ext {w w' : aJ2} {o : Nat -> TT} {a : Nat -> Option Addr} {c : Nat -> Nat} (h : Rb3 w o a c) (x : aS w w' cM) : Rb3 w' o a c := fun k hk => (h k hk).ext x fun _ _ _ h => h
theorem RtV.own {w w' : aJ2} {base p : Nat} {T : TT} {v : aJ3} {cs cs' : List aJ3} (h : RtV w base T v) (o : cJ w p cs) (o' : cJ w' p cs') (hc : ∀ u x, ¬ (cs[0]? = some (.int .i64 u) /\ cs[1]? = some (.int .i64 x))) (x : aS w w' (fun y => y = p)) : RtV w' base T v := by
 rcases h with h | ⟨b, h0, cc, rest, h1, h2⟩
 .exact .inl h
 .by_cases hb : b = p
  .subst hb
   have e := UW h2 o
   cases hT : T.2 with
   | nil => exact .inr ⟨b, h0, cc, cs', h1, by rw [hT]; exact o'⟩
   | cons y r =>
     obtain ⟨g0, g1, _⟩ := Qd (k := .i64) (L := T.2) (i := 0) (e := y) (by rw [hT] <;> rfl)
     subst e
     have hl : 3 <= (fe .i64 T.2).length := by rw [kX, hT, aH5]; omega
     exact absurd ⟨by rw [aHW (by omega)]; exact g0, by rw [aHW (by omega)]; exact g1⟩ (hc y.1 y.2.1)
  .exact .inr ⟨b, h0, cc, rest, h1, h2.ext x hb⟩
theorem Rb3.own {w w' : aJ2} {o : Nat -> TT} {a : Nat -> Option Addr} {c : Nat -> Nat} {p : Nat} {cs cs' : List aJ3} (h : Rb3 w o a c) (ho : cJ w p cs) (ho' : cJ w' p cs') (hc : ∀ u x, ¬ (cs[0]? = some (.int .i64 u) /\ cs[1]? = some (.int .i64 x))) (x : aS w w' (fun y => y = p)) : Rb3 w' o a c := fun k hk => (h k hk).own ho ho' hc x
theorem Rb3.up {w : aJ2} {o : Nat -> TT} {a : Nat -> Option Addr} {c : Nat -> Nat} {k : Nat} {T : TT} {x : Option Addr} {y : Nat} (h : Rb3 w o a c) (hx : RtV w 0 T (tvR T x y)) : Rb3 w (SD o k T) (upA a k x) (upS c k y) := fun i hi => by
 unfold SD upA upS
 split
 .exact hx
 .exact h i hi
theorem RtV.rt {w : aJ2} {base : Nat} {T : TT} {v : aJ3} (h : RtV w base T v) (h0 : 0 < T.2.length) : ∃ b, RT w b T.1 T.2 v := by
 rcases h with ⟨e, _⟩ | ⟨b, _, h⟩
 .rw [e] at h0; simp at h0
 .exact ⟨b, h⟩
def RbO (w : aJ2) (pb lo hi : Nat) (B : List Bool) (left : Int) : Prop := ∃ a c, cJ w pb [.slice a left.toNat c, .int .i64 ((-left).toNat : Nat)] /\ RBl w lo hi (.agg #[.slice a left.toNat c, .int .i64 ((-left).toNat : Nat)]) B left
theorem aBE {k2 : K5} {t5 no : aJ3} {n pt pb lo hi : Nat} {t : Nat -> TT} {a : Nat -> Option Addr} {c : Nat -> Nat} {st : Nat -> Nat} {B : List Bool} {left : Int} {w : aJ2} (hn : n <= 98047) (oT : cJ w pt (r6 t a c)) (hT : Rb3 w t a c) (hB : RbO w pb lo hi B left)
 (h1 : pt < pb) (h2 : hi <= pb) (hG : RX t st) (hb0 : B.length <= 8000000) (hb1 : left <= B.length) (hb2 : -1000 <= left)
 (hk : ∀ w' out, rN w' w.heap.size 3 out n (Tb (sqF t B n st left).1) -> RbO w' pb lo hi B (sqF t B n st left).2 -> cJ w' pt (r6 t a c) -> Rb3 w' t a c -> aS w w' (fun y => y = pb) -> k2 t5 no (.pointer (some ⟨pt, 0, none⟩)) (.pointer (some ⟨pb, 0, none⟩)) out w') :
 FQ k2 t5 no (.int .u64 n) (.pointer (some ⟨pt, 0, none⟩)) (.pointer (some ⟨pb, 0, none⟩)) (.int .i64 (st 0 : Nat)) (.int .i64 (st 1 : Nat)) (.int .i64 (st 2 : Nat)) (.slice none 0 0) (.int .u64 0) w := by
 have hpb : pb < w.heap.size := by obtain ⟨_, _, o, _⟩ := hB; exact o.lt
 have hTx : ∀ {w' : aJ2} {cs' : List aJ3}, aS w w' (fun y => y = pb) -> cJ w' pb cs' -> Rb3 w' t a c := fun x o' => by
  obtain ⟨_, _, o, _⟩ := hB
  exact hT.own o o' (fun u x => by simp) x
 unfold FQ
 refine cG.rule (fun m (v : aJ3 × aJ3 × aJ3 × aJ3 × aJ3) w' => ∃ (i : Nat) (out : aJ3) (qs : List Sq) (st' : Nat -> Nat) (left' : Int), m = n - i /\ i <= n /\ v = (.int .i64 (st' 0 : Nat), .int .i64 (st' 1 : Nat), .int .i64 (st' 2 : Nat), out, .int .u64 i) /\ qs.length = i /\ rN w' w.heap.size 3 out i (Tb qs) /\ RbO w' pb lo hi B left' /\ RX t st' /\
  sqF t B n st left = (qs ++ (sqF t B (n - i) st' left').1, (sqF t B (n - i) st' left').2) /\ left - 160 * i <= left' /\ left' <= left /\ aS w w' (fun y => y = pb)) n
  ⟨0, _, [], st, left, rfl, by omega, rfl, rfl, rN.nil _ _ _, hB, hG, rfl, by simp, Int.le_refl _, aS.refl _ _⟩ ?_
 rintro m v w1 ⟨i, out, qs, st', left', rfl, hin, rfl, hqs, os1, hB1, hG1, hE, hc1, hc2, x1⟩
 unfold FP ML
 by_cases hlt : i < n
 rotate_left
 .obtain rfl : i = n := by omega
  have d1 : decide ((i : Int) < (i : Int)) = false := by simp
  simp (disch := omega) only [aC, aX, d1, eF, aHI, bM, hP, aA, aE]
  rw [aJk] at hE
  have hz : sqF t B 0 st' left' = ([], left') := rfl
  rw [hz] at hE
  simp only [aIy] at hE
  rw [hE] at hk
  have hB1' := hB1
  obtain ⟨_, _, o, _⟩ := hB1'
  exact hk _ _ os1 hB1 (oT.ext x1 (by omega)) (hTx x1 o) x1
 have d1 : decide ((i : Int) < (n : Int)) = true := by simp; omega
 simp (disch := omega) only [aC, aX, d1, eF, aHI, bM, hP, aA, aF]
 refine GS fun w2 o2 x2 s2 => ?_
 obtain ⟨hG0, hs0⟩ := hG1 0 (by omega)
 obtain ⟨hGo, hso⟩ := hG1 1 (by omega)
 obtain ⟨hGm, hsm⟩ := hG1 2 (by omega)
 have z1 := x1.size
 have xx2 : aS w w2 (fun y => y = pb) := x1.seq (x2.mono fun _ _ h => h.elim)
 obtain ⟨ba2, bc2, ob2, hR2⟩ : RbO w2 pb lo hi B left' := by
  obtain ⟨ba, bc, ob, hR⟩ := hB1
  exact ⟨ba, bc, ob.ext x2 (fun h => h), hR.ext x2 (fun _ _ _ h => h)⟩
 have os2 := (os1.ne (aHS w1.heap.size)).ext x2 (fun b _ h => h)
 have t1 : (1 : Int).toNat = 1 := rfl
 have t2 : (2 : Int).toNat = 2 := rfl
 have t0 : (0 : Int).toNat = 0 := rfl
 obtain ⟨pq, hpq⟩ : ∃ pq, pq = w1.heap.size := ⟨_, rfl⟩
 rw [<- hpq] at o2 os2 ⊢
 have hpw : w.heap.size <= pq := by omega
 have oT2 := oT.ext xx2 (by omega)
 have l2 := dE (off := 2) oT2 (by simp [r6])
 simp only [r6, aIs, aHM, aHG, aHO] at l2
 have q2 := cX (off := 0) ob2 (by simp)
 simp only [aHM, aHG, aHO] at q2
 simp (disch := omega) only [t1, l2, jI, aHI, t2, jW, t0, iI, aA, q2]
 obtain ⟨b2, ht2⟩ := (hTx xx2 ob2 1 (by omega)).rt (by omega)
 have y2 := xx2.size
 obtain ⟨hv2, hw21, hw22⟩ := IN (k := 1) (by omega) hGo hso B left'
 refine (Xz (k := 1) (T := t 1) (s := st' 1) (by omega) ht2 hGo hso hR2 (by omega) (by omega) (by omega) (by omega)).mono ?_
 rintro r u2 ⟨bb2, rfl, hRv2, xv2⟩
 obtain ⟨ba3, bc3, rfl⟩ := hRv2.form (by omega)
 have obv2 := ob2.ext xv2 (fun h => h)
 have osv2 := os2.ext xv2 (fun b _ h => h)
 have oqv2 := o2.ext xv2 (fun h => h)
 simp (disch := omega) only [B9, B7, aA]
 refine bW obv2 rfl (by simp [one]) (by simp) fun p2 ob3' xp2 sp2 => ?_
 simp only [aV, aHL, aHN] at ob3'
 refine EJ (oqv2.ext xp2 (by omega)) rfl (by simp) fun w3 o3 x3 s3 => ?_
 simp only [aHL, aHN] at o3
 have ob3 := ob3'.ext x3 (by omega)
 have hR3 := (hRv2.ext xp2 (fun b _ _ => by omega)).ext x3 (fun b _ _ => by omega)
 have os3 := (osv2.ext xp2 (fun b h e => by omega)).ext x3 (fun b h e => h.2 e)
 have xx3 : aS w w3 (fun y => y = pb) := ((xx2.more xv2).seq xp2).new x3 hpw
 have oT3 := oT.ext xx3 (by omega)
 have l3 := dE (off := 4) oT3 (by simp [r6])
 simp only [r6, aIs, aHM, aHG, aHO] at l3
 have q3 := cX (off := 0) ob3 (by simp)
 simp only [aHM, aHG, aHO] at q3
 simp (disch := omega) only [l3, aA, q3]
 obtain ⟨b3, ht3⟩ := (hTx xx3 ob3 2 (by omega)).rt (by omega)
 have y3 := xx3.size
 obtain ⟨hv3, hw31, hw32⟩ := IN (k := 2) (by omega) hGm hsm B (vR 1 (t 1).2 (st' 1 : Nat) B left').2
 refine (Xz (k := 2) (T := t 2) (s := st' 2) (by omega) ht3 hGm hsm hR3 (by omega) (by omega) (by omega) (by omega)).mono ?_
 rintro r u3 ⟨bb3, rfl, hRv3, xv3⟩
 obtain ⟨ba4, bc4, rfl⟩ := hRv3.form (by omega)
 have obv3 := ob3.ext xv3 (fun h => h)
 have osv3 := os3.ext xv3 (fun b _ h => h)
 have oqv3 := o3.ext xv3 (fun h => h)
 simp (disch := omega) only [B9, B7, aA]
 refine bW obv3 rfl (by simp [one]) (by simp) fun p3 ob4' xp3 sp3 => ?_
 simp only [aV, aHL, aHN] at ob4'
 refine EJ (oqv3.ext xp3 (by omega)) rfl (by simp) fun w4 o4 x4 s4 => ?_
 simp only [aHL, aHN] at o4
 have ob4 := ob4'.ext x4 (by omega)
 have hR4 := (hRv3.ext xp3 (fun b _ _ => by omega)).ext x4 (fun b _ _ => by omega)
 have os4 := (osv3.ext xp3 (fun b h e => by omega)).ext x4 (fun b h e => h.2 e)
 have xx4 : aS w w4 (fun y => y = pb) := ((xx3.more xv3).seq xp3).new x4 hpw
 have oT4 := oT.ext xx4 (by omega)
 have l4 := dE (off := 0) oT4 (by simp [r6])
 simp only [r6, aIs, aHM, aHG, aHO] at l4
 have q4 := cX (off := 0) ob4 (by simp)
 simp only [aHM, aHG, aHO] at q4
 simp (disch := omega) only [l4, aA, q4]
 obtain ⟨b4, ht4⟩ := (hTx xx4 ob4 0 (by omega)).rt (by omega)
 have y4 := xx4.size
 obtain ⟨hv4, hw41, hw42⟩ := IN (k := 0) (by omega) hG0 hs0 B (vR 2 (t 2).2 (st' 2 : Nat) B (vR 1 (t 1).2 (st' 1 : Nat) B left').2).2
 refine (Xz (k := 0) (T := t 0) (s := st' 0) (by omega) ht4 hG0 hs0 hR4 (by omega) (by omega) (by omega) (by omega)).mono ?_
 rintro r u4 ⟨bb4, rfl, hRv4, xv4⟩
 obtain ⟨ba5, bc5, rfl⟩ := hRv4.form (by omega)
 have obv4 := ob4.ext xv4 (fun h => h)
 have osv4 := os4.ext xv4 (fun b _ h => h)
 have oqv4 := o4.ext xv4 (fun h => h)
 simp (disch := omega) only [B9, B7, aA]
 refine bW obv4 rfl (by simp [one]) (by simp) fun p4 ob5' xp4 sp4 => ?_
 simp only [aV, aHL, aHN] at ob5'
 refine EJ (oqv4.ext xp4 (by omega)) rfl (by simp) fun w5 o5 x5 s5 => ?_
 simp only [aHL, aHN] at o5
 have ob5 := ob5'.ext x5 (by omega)
 have hR5 := (hRv4.ext xp4 (fun b _ _ => by omega)).ext x5 (fun b _ _ => by omega)
 have os5 := (osv4.ext xp4 (fun b h e => by omega)).ext x5 (fun b h e => h.2 e)
 have xx5 : aS w w5 (fun y => y = pb) := ((xx4.more xv4).seq xp4).new x5 hpw
 obtain ⟨q, lf, hq⟩ : ∃ q lf, v3 t B st' left' = (q, lf) := ⟨_, _, rfl⟩
 have hq1 : (v3 t B st' left').1 = q := by rw [hq]
 have hq2 : (v3 t B st' left').2 = lf := by rw [hq]
 have hlf := aAO hG1 B left'
 rw [hq2] at hlf
 have o5 : cJ w5 pq (Tc (v3 t B st' left').1) := o5
 have hB5 : RbO w5 pb lo hi B (v3 t B st' left').2 := ⟨ba5, bc5, ob5, hR5⟩
 rw [hq1] at o5
 rw [hq2] at hB5
 have l5 := EW (off := 0) o5 (by simp [Tc])
 simp only [Tc, aHM, aHG, aHO] at l5
 simp (disch := omega) only [l5, aA]
 refine uR (cells := #[.int .u32 q.ll, .int .u32 q.ml, .int .u32 q.of]) (by decide) (by decide) (by kernel_rfl) fun w6 o6 x6 s6 => ?_
 have os6 := (os5.ext x6 (fun b _ h => h)).osl
 have z5 := xx5.size
 have z6 := x6.size
 refine lX (m := 1) (news := Tc q) os6 (o6.cl (off := 0) (l := Tc q) (n := 1) rfl (fun i hi => by rw [aHI] <;> rfl)) (by simp [Tc, one]) (by omega) (by omega) fun v7 w7 o7 x7 => ?_
 rw [<- amG] at o7
 have xx6 : aS w w6 (fun y => y = pb) := xx5.more x6
 have xx7 : aS w w7 (fun y => y = pb) := xx6.trans x7 fun b hb h => by omega
 obtain ⟨ba7, bc7, ob7, hR7⟩ : RbO w7 pb lo hi B lf := by
  obtain ⟨ba, bc, ob, hR⟩ := hB5
  exact ⟨ba, bc, (ob.ext x6 (fun h => h)).ext x7 (by omega), (hR.ext x6 (fun _ _ _ h => h)).ext x7 (fun b _ hb => by omega)⟩
 have e1 : (i : Int) + 1 = ((i + 1 : Nat) : Int) := by omega
 by_cases hlast : i + 1 = n
 .have n1 : decide (((i + 1 : Nat) : Int) < (n : Int)) = false := by simp; omega
  simp (disch := omega) only [e1, n1, aE]
  unfold AH
  simp (disch := omega) only [aC, bM, e1, hP, aA]
  have h1 : n - i = 1 := by omega
  rw [h1, atM, hq] at hE
  refine ⟨n - (i + 1), by omega, i + 1, _, qs ++ [q], st', lf, rfl, by omega, rfl, by rw [aHR, hqs] <;> rfl, o7, ⟨_, _, ob7, hR7⟩, hG1, ?_, by omega, by omega, xx7⟩
  rw [hE, hlast, aJk]
  show _ = (qs ++ [q] ++ [], lf)
  rw [aIy]
 .have n1 : decide (((i + 1 : Nat) : Int) < (n : Int)) = true := by simp; omega
  obtain ⟨m, hm⟩ : ∃ m, n - i = m + 2 := ⟨n - i - 2, by omega⟩
  have hm1 : n - (i + 1) = m + 1 := by omega
  have hE2 := anD hG1 B m left'
  rw [hq] at hE2
  simp only at hE2
  obtain ⟨g1, g2, g3⟩ := Zy (B := B) (j := 3) (left := lf) hG1
  have i0 := QD hG0 hs0 B lf
  have oT7 := oT.ext xx7 (by omega)
  have l7 := dE (off := 0) oT7 (by simp [r6])
  simp only [r6, aIs, aHM, aHG, aHO] at l7
  have q7 := cX (off := 0) ob7 (by simp)
  simp only [aHM, aHG, aHO] at q7
  simp (disch := omega) only [e1, n1, l7, aA, q7, aF]
  obtain ⟨b7, ht7⟩ := (hTx xx7 ob7 0 (by omega)).rt (by omega)
  have y7 := xx7.size
  have hz7 : (t 0).2.length <= 1000000 := by rw [hG0.len]; exact aIM (aHT (by omega) hG0.lg) (by omega)
  obtain ⟨s7', f71, f72, f73, f74⟩ := QD (k := 0) hG0 hs0 B lf
  refine (apR (s := (st' 0 : Nat)) ht7 hG0.low hz7 hR7 (by omega) (by omega) (by omega) (by omega)).mono ?_
  rintro r u7 ⟨bb7, rfl, hRv7, xv7⟩
  obtain ⟨ba8, bc8, rfl⟩ := hRv7.form (by omega)
  simp (disch := omega) only [B9, B7, aA]
  refine bW (ob7.ext xv7 (fun h => h)) rfl (by simp [one]) (by simp) fun w8 ob8 x8 s8 => ?_
  simp only [aV, aHL, aHN] at ob8
  have hR8 := hRv7.ext x8 (fun b _ _ => by omega)
  have xx8 : aS w w8 (fun y => y = pb) := (xx7.more xv7).seq x8
  have o8 := (o7.ext xv7 (fun b hb h => h)).ext x8 (fun b hb h => by omega)
  have oT8 := oT.ext xx8 (by omega)
  have l8 := dE (off := 4) oT8 (by simp [r6])
  simp only [r6, aIs, aHM, aHG, aHO] at l8
  have q8 := cX (off := 0) ob8 (by simp)
  simp only [aHM, aHG, aHO] at q8
  simp (disch := omega) only [l8, aA, q8]
  obtain ⟨b8, ht8⟩ := (hTx xx8 ob8 2 (by omega)).rt (by omega)
  have y8 := xx8.size
  have hz8 : (t 2).2.length <= 1000000 := by rw [hGm.len]; exact aIM (aHT (by omega) hGm.lg) (by omega)
  obtain ⟨s8', f81, f82, f83, f84⟩ := QD (k := 2) hGm hsm B (nR (t 0).2 (st' 0 : Nat) B lf).2
  refine (apR (s := (st' 2 : Nat)) ht8 hGm.low hz8 hR8 (by omega) (by omega) (by omega) (by omega)).mono ?_
  rintro r u8 ⟨bb8, rfl, hRv8, xv8⟩
  obtain ⟨ba9, bc9, rfl⟩ := hRv8.form (by omega)
  simp (disch := omega) only [B9, B7, aA]
  refine bW (ob8.ext xv8 (fun h => h)) rfl (by simp [one]) (by simp) fun w9 ob9 x9 s9 => ?_
  simp only [aV, aHL, aHN] at ob9
  have hR9 := hRv8.ext x9 (fun b _ _ => by omega)
  have xx9 : aS w w9 (fun y => y = pb) := (xx8.more xv8).seq x9
  have o9 := (o8.ext xv8 (fun b hb h => h)).ext x9 (fun b hb h => by omega)
  have oT9 := oT.ext xx9 (by omega)
  have l9 := dE (off := 2) oT9 (by simp [r6])
  simp only [r6, aIs, aHM, aHG, aHO] at l9
  have q9 := cX (off := 0) ob9 (by simp)
  simp only [aHM, aHG, aHO] at q9
  simp (disch := omega) only [l9, aA, q9]
  obtain ⟨b9, ht9⟩ := (hTx xx9 ob9 1 (by omega)).rt (by omega)
  have y9 := xx9.size
  have hz9 : (t 1).2.length <= 1000000 := by rw [hGo.len]; exact aIM (aHT (by omega) hGo.lg) (by omega)
  obtain ⟨s9', f91, f92, f93, f94⟩ := QD (k := 1) hGo hso B (nR (t 2).2 (st' 2 : Nat) B (nR (t 0).2 (st' 0 : Nat) B lf).2).2
  refine (apR (s := (st' 1 : Nat)) ht9 hGo.low hz9 hR9 (by omega) (by omega) (by omega) (by omega)).mono ?_
  rintro r u9 ⟨bb9, rfl, hRv9, xv9⟩
  obtain ⟨ba10, bc10, rfl⟩ := hRv9.form (by omega)
  simp (disch := omega) only [B9, B7, aA]
  refine bW (ob9.ext xv9 (fun h => h)) rfl (by simp [one]) (by simp) fun w10 ob10 x10 s10 => ?_
  simp only [aV, aHL, aHN] at ob10
  have hR10 := hRv9.ext x10 (fun b _ _ => by omega)
  have xx10 : aS w w10 (fun y => y = pb) := (xx9.more xv9).seq x10
  have o10 := (o9.ext xv9 (fun b hb h => h)).ext x10 (fun b hb h => by omega)
  unfold AH
  simp (disch := omega) only [aC, bM, e1, hP, aA]
  rw [f71, f81, f91]
  have hnx : nxs t B 3 st' lf = (upS (upS (upS st' 0 (nR (t 0).2 (st' 0 : Nat) B lf).1.toNat) 2 (nR (t 2).2 (st' 2 : Nat) B (nR (t 0).2 (st' 0 : Nat) B lf).2).1.toNat) 1 (nR (t 1).2 (st' 1 : Nat) B (nR (t 2).2 (st' 2 : Nat) B (nR (t 0).2 (st' 0 : Nat) B lf).2).2).1.toNat, (nR (t 1).2 (st' 1 : Nat) B (nR (t 2).2 (st' 2 : Nat) B (nR (t 0).2 (st' 0 : Nat) B lf).2).2).2) := rfl
  rw [f71, f81, f91] at hnx
  simp only [aHH] at hnx
  refine ⟨n - (i + 1), by omega, i + 1, _, qs ++ [q], (nxs t B 3 st' lf).1, (nxs t B 3 st' lf).2, rfl, by omega, ?_, by rw [aHR, hqs] <;> rfl, o10, ?_, g1, ?_, by omega, by omega, xx10⟩
  .rw [hnx] <;> rfl
  .rw [hnx]; exact ⟨_, _, ob10, hR10⟩
  .rw [hE, hm, hE2, hm1, aHV]
   rfl
def z6 : List aJ3 := [(.int .i64 0), (.slice none 0 0), (.int .i64 0), (.slice none 0 0), (.int .i64 0), (.slice none 0 0)]
theorem aaQ {p : Nat} {w : aJ2} {x0 x1 x2 : Int} {a0 a1 a2 : Option Addr} {n0 n1 n2 k0 k1 k2 : Nat} {c : List aJ3} {s e : aJ3} (o : cJ w p c) (hc : c.length = 6) {RR : aJ3 -> aJ2 -> Prop}
 (hR : ∀ w', aS w w' (fun y => y = p) -> cJ w' p [.int .i64 x0, .slice a0 n0 k0, .int .i64 x1, .slice a1 n1 k1, .int .i64 x2, .slice a2 n2 k2] -> RR (.tuple #[s, .agg #[.int .i64 x0, .slice a0 n0 k0, .int .i64 x1, .slice a1 n1 k1, .int .i64 x2, .slice a2 n2 k2], e]) w') :
 aC pg (aJ 36 (.pointer (some ⟨p, 0, none⟩)) (.agg #[.int .i64 x0, .slice a0 n0 k0, .int .i64 x1, .slice a1 n1 k1, .int .i64 x2, .slice a2 n2 k2])) w fun _u w => kI pg 36 (.pointer (some ⟨p, 0, none⟩)) w fun r1 => RR (.tuple #[s, r1, e]) w := by
 match c, hc with
 | [c0, c1, c2, c3, c4, c5], _ =>
   refine lA o rfl (by simp [one]) (by simp) fun w6 o6 x6 s6 => ?_
   refine Ah o6 (by simp [aV]) ?_
   simp only [aV, aHL, aHN, aHM, aHG, aHO] at o6 ⊢
   exact hR _ x6 o6
theorem aCm {k0 : K5} {RR : K1} {n9 : aJ3} {m p3 p5 pn pm pt : Nat} {mc : Nat} {o : Nat -> TT} {a : Nat -> Option Addr} {c : Nat -> Nat} {x : ByteArray} {w : aJ2} (hm : m < 256) (o3 : cJ w p3 (r6 o a c)) (o5 : cJ w p5 z6) (on : cJ w pn z6) (om : cJ w pm [.int .i64 (Ta m 0 : Nat), .int .i64 (Ta m 1 : Nat), .int .i64 (Ta m 2 : Nat)]) (oT : cJ w pt (r6 o a c))
 (hO : Rb3 w o a c) (hO6 : ∀ k, k < 3 -> (o k).2.length <= 1000000) (hx : x.size <= 1000000) (h1 : p3 ≠ pt /\ p5 ≠ pt /\ pn ≠ pt /\ pm ≠ pt) (h2 : p5 ≠ pn)
 (hk : ∀ w' t a c x', D4 m o 3 o (lL x) = .ok (t, lL x') -> cJ w' pt (r6 t a c) -> Rb3 w' t a c -> aS w w' (fun y => y = pt) -> k0 (.pointer (some ⟨p5, 0, none⟩)) (.pointer (some ⟨pn, 0, none⟩)) n9 (.pointer (some ⟨pt, 0, none⟩)) (.string x') w')
 (herr : ∀ w' e, D4 m o 3 o (lL x) = .error e -> aS w w' (fun y => y = pt ∨ y = p5) -> RR (.tuple #[.slice none 0 0, Gy, .int .i64 e]) w') :
 CQ k0 RR (.pointer (some ⟨p3, 0, none⟩)) (.pointer (some ⟨p5, 0, none⟩)) (.pointer (some ⟨pn, 0, none⟩)) n9 (.slice (some ⟨pm, 0, none⟩) 3 mc) (.pointer (some ⟨pt, 0, none⟩)) (.string x) (.int .i64 0) w := by
 have hptw := oT.lt
 have hp5w := o5.lt
 unfold CQ
 refine cG.rule (fun n (v : aJ3 × aJ3) w' => ∃ (j : Nat) (x' : ByteArray) (t' : Nat -> TT) (a' : Nat -> Option Addr) (c' : Nat -> Nat), n = j /\ j <= 3 /\ v = (.string x', .int .i64 (3 - j : Nat)) /\ x'.size <= x.size /\ cJ w' pt (r6 t' a' c') /\ Rb3 w' t' a' c' /\ D4 m o 3 o (lL x) = D4 m o j t' (lL x') /\ aS w w' (fun y => y = pt)) 3
  ⟨3, x, o, a, c, rfl, aHS _, rfl, aHS _, oT, hO, rfl, aS.refl _ _⟩ ?_
 rintro j v w7 ⟨n, x', t', a', c', rfl, hj, rfl, hx', o8, hT7, hE, x7⟩
 unfold CT Ka
 rcases j with _ | n
 .have d1 : decide (((3 - 0 : Nat) : Int) < 3) = false := rfl
  simp (disch := omega) only [aC, aX, d1, aA, aE]
  exact hk _ _ _ _ _ (by rw [hE] <;> rfl) o8 hT7 x7
 obtain ⟨k, hkk⟩ : ∃ k, k = 2 - n := ⟨_, rfl⟩
 have hk3 : k < 3 := by omega
 have ek : ((3 - (n + 1) : Nat) : Int) = (k : Int) := by omega
 have d1 : decide ((k : Int) < 3) = true := by simp; omega
 have hS : D4 m o (n + 1) t' (lL x') = match gG (k : Int) ((Ta m k : Nat) : Int) (lL x') (o k) with
  | .error e => .error e
  | .ok (y, u) => D4 m o n (SD t' k y) ((lL x').drop u) := by rw [hkk] <;> rfl
 have hm4 := amX m k
 have hll := kK x'
 rw [ek]
 simp (disch := omega) only [aC, aX, d1, aA, aF]
 unfold J3 LV Uj KK
 have o37 := o3.ext x7 (by omega)
 have o57 := o5.ext x7 (by omega)
 have on7 := on.ext x7 (by omega)
 have om7 := om.ext x7 (by omega)
 have hTo : Rb3 w7 o a c := hO.own oT o8 (fun u x => by simp [r6]) x7
 have l2 := dE (off := k * 2) (dN o37) (by simp [r6]; omega)
 rw [aFA _ _ _ hk3] at l2
 have cm := (dN om7).cell (off := k)
 have hcm : [Value.int .i64 (Ta m 0 : Nat), .int .i64 (Ta m 1 : Nat), .int .i64 (Ta m 2 : Nat)][k]? = some (.int .i64 (Ta m k : Nat)) := by
  rcases (show k = 0 ∨ k = 1 ∨ k = 2 by omega) with rfl | rfl | rfl <;> rfl
 rw [hcm] at cm
 have z7 := x7.size
 have n0 : ((0 : Int) != 0) = false := rfl
 have err7 : ∀ {e : Int} {w8 w' : aJ2}, D4 m o (n + 1) t' (lL x') = .error e -> aS w7 w8 cM -> aS w8 w' (fun y => y = p5) -> RR (.tuple #[.slice none 0 0, Gy, .int .i64 e]) w' := fun h x8 x9 =>
  herr _ _ (by rw [hE, h]) (((x7.mono fun _ _ h => .inl h).seq (x8.mono fun _ _ h => h.elim)).seq (x9.mono fun _ _ h => .inr h))
 have lz : ∀ {w' : aJ2}, aS w7 w' cM -> (aH 36 (.pointer (some ⟨pn, 0, none⟩))).run pg w' = .ok (.value Gy) w' := fun x => by
  have := fO (off := 0) (on7.ext x (fun h => h)) (by simp [z6])
  simp only [z6, aHM, aHG, aHO] at this
  exact this
 refine Ki ?_ ?_
 .simp (disch := omega) only [aC, dJ, aHH, aHI, eF, eD, and_true, true_and, aA, l2, cA, cm, aI]
  refine (aoU (fun _ => by omega) ((hTo.ext (aS.dr _ cM)) k hk3) (aIT _) (hO6 k hk3)).mono ?_
  rintro r w8 ⟨hR, x8⟩
  have x78 : aS w7 w8 cM := (aS.dr _ _).seq x8
  have z8 := x78.size
  cases hE' : gG (k : Int) ((Ta m k : Nat) : Int) (lL x') (o k) with
  | error e =>
    rw [hE'] at hR hS
    have ne := PW hE'
    have n1 : (e != 0) = true := by simpa using ne
    unfold RtR at hR
    subst hR
    simp (disch := omega) only [RQ, Sd, RN, Result.ok.injEq, Next.value.injEq, and_true, aA, true_and]
    refine gX fun w9 o9 x9 s9 => ?_
    refine eQ o9 rfl (by simp [one]) (by simp) fun w10 o10 x10 s10 => ?_
    unfold rB
    have x710 : aS w7 w10 cM := x78.seq (x9.new x10 (aHS _))
    have lz' := lz (x710.seq (aS.dr _ _))
    simp (disch := omega) only [aC, eT, n1, true_and, eF, aHH, aHI, vC, aA, lz', aF]
    exact aaQ (dN (o57.ext x710 (fun h => h))) rfl fun w' x _ => err7 hS (x710.seq (aS.dr _ _)) x
  | ok yu =>
    obtain ⟨T, u⟩ := yu
    rw [hE'] at hR hS
    have hu := Q5 hE'
    unfold RtR at hR
    obtain ⟨t, rfl, hV⟩ := hR
    obtain ⟨ta, tc, rfl⟩ := hV.form
    simp (disch := omega) only [RQ, Sd, RN, Result.ok.injEq, Next.value.injEq, and_true, aA, true_and]
    refine gX fun w9 o9 x9 s9 => ?_
    refine eQ o9 rfl (by simp [one]) (by simp) fun w10 o10 x10 s10 => ?_
    have o10 : cJ w10 w8.heap.size [.int .i64 T.1, .slice ta T.2.length tc] := o10
    have x810 : aS w8 w10 cM := x9.new x10 (aHS _)
    have x710 := x78.seq x810
    have l10 := dE (off := 0) o10 (by simp)
    simp only [aHM, aHG, aHO] at l10
    unfold rB
    simp (disch := omega) only [aC, eT, n0, true_and, eF, aHH, aHI, vC, aA, l10, aE]
    have o8' := o8.ext x710 (fun h => h)
    refine eQ o8' rfl (by simp [one]) (by simp [r6]; omega) fun w11 o11 x11 s11 => ?_
    have o11 : cJ w11 pt (r6 (SD t' k T) (upA a' k ta) (upS c' k tc)) := by rw [<- aCD _ _ _ hk3]; exact o11
    have hV11 : RtV w11 0 T (tvR T ta tc) := (hV.ext x810 (fun _ _ _ h => h)).own o8' o11 (fun u x => by simp [r6]) x11
    have hT11 : Rb3 w11 t' a' c' := (hT7.ext x710).own o8' o11 (fun u x => by simp [r6]) x11
    have e3 : ((k : Int) + 1) = ((3 - n : Nat) : Int) := by omega
    have hul : u <= x'.size := by omega
    have hext : lL (x'.extract u x'.size) = (lL x').drop u := by rw [L9, aIe (by rw [aIb]; omega)]
    unfold yP
    simp (disch := omega) only [aC, bM, e3, aT, aA]
    exact ⟨n, by omega, n, x'.extract u x'.size, _, _, _, rfl, by omega, rfl, by rw [<- kK (x'.extract u x'.size), hext, aIb]; omega, o11, hT11.up hV11, by rw [hE, hS, hext], x7.seq ((x710.mono fun _ _ h => h.elim).seq x11)⟩
 .simp (disch := omega) only [aC, dJ, aHH, aHI, eF, eD, Result.ok.injEq, Next.value.injEq, and_true, true_and, aA, l2, cA, cm, aI]
  refine gX fun w9 o9 x9 s9 => ?_
  have x79 : aS w7 w9 cM := (aS.dr _ cM).seq x9
  have l9 := dE (off := k * 2) (o37.ext x79 (fun h => h)) (by simp [r6]; omega)
  rw [aFA _ _ _ hk3] at l9
  have cm9 := (om7.ext x79 (fun h => h)).cell (off := k)
  rw [hcm] at cm9
  simp (disch := omega) only [l9, cm9, aI, and_true, true_and]
  refine (aoU (fun _ => by omega) ((hTo.ext x79) k hk3) (aIT _) (hO6 k hk3)).mono ?_
  rintro r w8 ⟨hR, x8⟩
  have x78 : aS w7 w8 cM := x79.seq x8
  have hz7 : (dr w7).heap.size = w7.heap.size := rfl
  have z8 := x78.size
  have o9 := o9.ext x8 (fun h => h)
  cases hE' : gG (k : Int) ((Ta m k : Nat) : Int) (lL x') (o k) with
  | error e =>
    rw [hE'] at hR hS
    have ne := PW hE'
    have n1 : (e != 0) = true := by simpa using ne
    unfold RtR at hR
    subst hR
    simp (disch := omega) only [RQ, Sd, RN, Result.ok.injEq, Next.value.injEq, and_true, aA, true_and]
    refine eQ o9 rfl (by simp [one]) (by simp) fun w10 o10 x10 s10 => ?_
    unfold rB
    have x710 : aS w7 w10 cM := x78.new x10 (by omega)
    have lz' := lz (x710.seq (aS.dr _ _))
    simp (disch := omega) only [aC, eT, n1, true_and, eF, aHH, aHI, vC, aA, lz', aF]
    exact aaQ (dN (o57.ext x710 (fun h => h))) rfl fun w' x _ => err7 hS (x710.seq (aS.dr _ _)) x
  | ok yu =>
    obtain ⟨T, u⟩ := yu
    rw [hE'] at hR hS
    have hu := Q5 hE'
    unfold RtR at hR
    obtain ⟨t, rfl, hV⟩ := hR
    obtain ⟨ta, tc, rfl⟩ := hV.form
    simp (disch := omega) only [RQ, Sd, RN, Result.ok.injEq, Next.value.injEq, and_true, aA, true_and]
    refine eQ o9 rfl (by simp [one]) (by simp) fun w10 o10 x10 s10 => ?_
    have o10 : cJ w10 (dr w7).heap.size [.int .i64 T.1, .slice ta T.2.length tc] := o10
    have hV10 : RtV w10 0 T (tvR T ta tc) := hV.own o9 o10 (fun u x => by simp) x10
    have x710 : aS w7 w10 cM := x78.new x10 (by omega)
    have l10 := dE (off := 0) o10 (by simp)
    simp only [aHM, aHG, aHO] at l10
    unfold rB
    simp (disch := omega) only [aC, eT, n0, true_and, eF, aHH, aHI, vC, aA, l10, aE]
    have o8' := o8.ext x710 (fun h => h)
    refine eQ o8' rfl (by simp [one]) (by simp [r6]; omega) fun w11 o11 x11 s11 => ?_
    have o11 : cJ w11 pt (r6 (SD t' k T) (upA a' k ta) (upS c' k tc)) := by rw [<- aCD _ _ _ hk3]; exact o11
    have hV11 : RtV w11 0 T (tvR T ta tc) := hV10.own o8' o11 (fun u x => by simp [r6]) x11
    have hT11 : Rb3 w11 t' a' c' := (hT7.ext x710).own o8' o11 (fun u x => by simp [r6]) x11
    have e3 : ((k : Int) + 1) = ((3 - n : Nat) : Int) := by omega
    have hul : u <= x'.size := by omega
    have hext : lL (x'.extract u x'.size) = (lL x').drop u := by rw [L9, aIe (by rw [aIb]; omega)]
    unfold yP
    simp (disch := omega) only [aC, bM, e3, aT, aA]
    exact ⟨n, by omega, n, x'.extract u x'.size, _, _, _, rfl, by omega, rfl, by rw [<- kK (x'.extract u x'.size), hext, aIb]; omega, o11, hT11.up hV11, by rw [hE, hS, hext], x7.seq ((x710.mono fun _ _ h => h.elim).seq x11)⟩
def aiC (w : aJ2) (base : Nat) (x : Except Int (List Sq × (Nat -> TT))) (r : aJ3) : Prop := match x with
 | .error e => r = .tuple #[.slice none 0 0, Gy, .int .i64 e]
 | .ok (q, t) => ∃ v a c, r = .tuple #[v, .agg (r6 t a c).toArray, .int .i64 0] /\ rN w base 3 v q.length (Tb q) /\ Rb3 w t a c
theorem awO {RR : K1} {n p5 pn pt : Nat} {t : Nat -> TT} {a : Nat -> Option Addr} {c : Nat -> Nat} {x : ByteArray} {w : aJ2} (hn : n <= 98047) (oF : cJ w p5 z6) (on : cJ w pn z6) (oT : cJ w pt (r6 t a c)) (hT : Rb3 w t a c) (hG : ∀ k, k < 3 -> yD k (t k)) (hx : x.size <= 1000000)
 (h1 : pt ≠ p5 /\ p5 ≠ pn)
 (hk : ∀ w' r, aiC w' w.heap.size (Dd t n (lL x)) r -> aS w w' (fun y => y = p5) -> RR r w') :
 De RR (.pointer (some ⟨p5, 0, none⟩)) (.pointer (some ⟨pn, 0, none⟩)) (.int .u64 n) (.pointer (some ⟨pt, 0, none⟩)) (.string x) w := by
 have hll := kK x
 have err : ∀ {e : Int} {w' : aJ2}, Dd t n (lL x) = .error e -> aS w w' (fun y => y = p5) -> RR (.tuple #[.slice none 0 0, Gy, .int .i64 e]) w' := fun h x => by
  refine hk _ _ ?_ x
  unfold aiC; rw [h]
 have hp5 := oF.lt
 have hpt := oT.lt
 have lz : ∀ {w' : aJ2}, aS w w' cM -> (aH 36 (.pointer (some ⟨pn, 0, none⟩))).run pg w' = .ok (.value Gy) w' := fun x => by
  have := fO (off := 0) (on.ext x (fun h => h)) (by simp [z6])
  simp only [z6, aHM, aHG, aHO] at this
  exact this
 have n0 : ((0 : Int) != 0) = false := rfl
 unfold De Kn
 cases he : YK (lL x) with
 | none =>
   have hB : Dd t n (lL x) = .error 11 := by unfold Dd; rw [he]
   have n1 : ((11 : Int) != 0) = true := rfl
   refine (ayZ he (by omega)).mono ?_
   rintro r w1 ⟨rfl, x1⟩
   simp (disch := omega) only [aC, B9, B7, true_and, eF, aHI, aA, eT]
   refine jH fun w2 o2 x2 s2 => ?_
   refine bW o2 rfl (by simp [one]) (by simp) fun w3 o3 x3 s3 => ?_
   have x03 : aS w w3 cM := x1.seq (x2.new x3 (aHS _))
   have lz' := lz (x03.seq (aS.dr _ _))
   simp (disch := omega) only [n1, lz', aA, true_and, aF]
   exact aaQ (dN (oF.ext x03 (fun h => h))) rfl fun w' x _ => err hB (((x03.seq (aS.dr _ _)).mono fun _ _ h => h.elim).seq x)
 | some k =>
   obtain ⟨hk0, hk1, hk2, _⟩ := Pp he
   have hB : Dd t n (lL x) = if (runT t (bE (lL x)) n k).2 < 0 then .error 11 else if 0 < (runT t (bE (lL x)) n k).2 then .error 15 else .ok ((runT t (bE (lL x)) n k).1, t) := by unfold Dd; rw [he]
   refine (aCy he (by omega)).mono ?_
   rintro r w1 ⟨b, hi, rfl, hhi, hR1, x1⟩
   have hBl := lV (lL x)
   generalize bE (lL x) = B at *
   have hR1 : RBl w1 w.heap.size hi b B (k : Int) := by
    unfold RBl
    rw [aHH, show (-(k : Int)).toNat = 0 by omega]
    exact hR1
   obtain ⟨ba, bc, rfl⟩ := hR1.form (by omega)
   simp (disch := omega) only [aC, aHH, B9, B7, true_and, eF, aHI, aA, eT]
   refine jH fun w2 o2 x2 s2 => ?_
   refine bW o2 rfl (by simp [one]) (by simp) fun w3 o3 x3 s3 => ?_
   simp only [aV, aHL, aHN] at o3
   obtain ⟨pb, hpb⟩ : ∃ pb, pb = w1.heap.size := ⟨_, rfl⟩
   rw [<- hpb] at o3 ⊢
   have z1 := x1.size
   have xx3 : aS w w3 cM := x1.seq (x2.new x3 (aHS _))
   have hR3 := (hR1.ext x2 (fun _ _ _ h => h)).ext x3 (fun b _ hb => by omega)
   have g0 := (hG 0 (by omega)).lg
   have g1 := (hG 1 (by omega)).lg
   have g2 := (hG 2 (by omega)).lg
   have t1 : (1 : Int).toNat = 1 := rfl
   have t2 : (2 : Int).toNat = 2 := rfl
   have t0 : (0 : Int).toNat = 0 := rfl
   have oT3 := oT.ext xx3 (fun h => h)
   have l3 := dE (off := 0) oT3 (by simp [r6])
   simp only [r6, aIs, aHM, aHG, aHO] at l3
   have q3 := cX (off := 0) o3 (by simp)
   simp only [aHM, aHG, aHO] at q3
   simp (disch := omega) only [n0, t0, l3, t1, t2, aA, q3, aE]
   have y3 := xx3.size
   have v3 := o3.lt
   refine (afS hR3 (by omega) (by omega) (by omega) (by omega) (by omega)).mono ?_
   rintro r u3 ⟨bb3, rfl, hRv3, xv3⟩
   obtain ⟨ba4, bc4, rfl⟩ := hRv3.form (by omega)
   simp (disch := omega) only [B9, B7, aA]
   refine bW (o3.ext xv3 (fun h => h)) rfl (by simp [one]) (by simp) fun w4 o4 x4 s4 => ?_
   simp only [aV, aHL, aHN] at o4
   have hR4 := hRv3.ext x4 (fun b _ _ => by omega)
   have xx4 : aS w w4 cM := (xx3.seq xv3).new x4 (by omega)
   have oT4 := oT.ext xx4 (fun h => h)
   have l4 := dE (off := 2) oT4 (by simp [r6])
   simp only [r6, aIs, aHM, aHG, aHO] at l4
   have q4 := cX (off := 0) o4 (by simp)
   simp only [aHM, aHG, aHO] at q4
   simp (disch := omega) only [l4, aA, q4]
   have y4 := xx4.size
   have v4 := o4.lt
   refine (afS hR4 (by omega) (by omega) (by omega) (by omega) (by omega)).mono ?_
   rintro r u4 ⟨bb4, rfl, hRv4, xv4⟩
   obtain ⟨ba5, bc5, rfl⟩ := hRv4.form (by omega)
   simp (disch := omega) only [B9, B7, aA]
   refine bW (o4.ext xv4 (fun h => h)) rfl (by simp [one]) (by simp) fun w5 o5 x5 s5 => ?_
   simp only [aV, aHL, aHN] at o5
   have hR5 := hRv4.ext x5 (fun b _ _ => by omega)
   have xx5 : aS w w5 cM := (xx4.seq xv4).new x5 (by omega)
   have oT5 := oT.ext xx5 (fun h => h)
   have l5 := dE (off := 4) oT5 (by simp [r6])
   simp only [r6, aIs, aHM, aHG, aHO] at l5
   have q5 := cX (off := 0) o5 (by simp)
   simp only [aHM, aHG, aHO] at q5
   simp (disch := omega) only [l5, aA, q5]
   have y5 := xx5.size
   have v5 := o5.lt
   refine (afS hR5 (by omega) (by omega) (by omega) (by omega) (by omega)).mono ?_
   rintro r u5 ⟨bb5, rfl, hRv5, xv5⟩
   obtain ⟨ba6, bc6, rfl⟩ := hRv5.form (by omega)
   simp (disch := omega) only [B9, B7, aA]
   refine bW (o5.ext xv5 (fun h => h)) rfl (by simp [one]) (by simp) fun w6 o6 x6 s6 => ?_
   simp only [aV, aHL, aHN] at o6
   have hR6 := hRv5.ext x6 (fun b _ _ => by omega)
   have xx6 : aS w w6 cM := (xx5.seq xv5).new x6 (by omega)
   obtain ⟨gs1, gs2, gs3⟩ := amJ hG B (fun _ => 0) (k : Int)
   have y6 := xx6.size
   unfold Nc NV OG NH
   refine aBE (st := (sts t B 3 (fun _ => 0) (k : Int)).1) (left := (sts t B 3 (fun _ => 0) (k : Int)).2) (lo := w.heap.size) (hi := hi) (B := B) hn (oT.ext xx6 (fun h => h)) (hT.ext xx6) ⟨_, _, o6, hR6⟩ (by omega) (by omega) gs1 (by omega) (by omega) (by omega) fun w7 out os7 hB7 oT7 hT7 x7 => ?_
   have x07 : aS w w7 cM := xx6.new x7 (by omega)
   obtain ⟨_, _, hlen⟩ := anO (B := B) (n := n) (left := (sts t B 3 (fun _ => 0) (k : Int)).2) gs1
   obtain ⟨hb1, hb2, _⟩ := anO (B := B) (n := n) (left := (sts t B 3 (fun _ => 0) (k : Int)).2) gs1
   rw [<- apK] at os7 hB7 hlen hb1 hb2
   generalize hq : runT t B n k = q at *
   obtain ⟨ca, cc, o7, hR7⟩ := hB7
   have l7 := cX (off := 0) o7 (by simp)
   simp only [aHM, aHG, aHO] at l7
   unfold Ft
   simp (disch := omega) only [aC, l7, true_and, aA]
   refine (aDL hR7 (by omega) (by omega) (by omega)).mono ?_
   rintro r w8 ⟨rfl, x8⟩
   have x08 := x07.seq x8
   have lz' := lz (x08.seq (aS.dr _ _))
   have o58 := oF.ext x08 (fun h => h)
   by_cases hneg : q.2 < 0
   .have d1 : decide (q.2 < 0) = true := by simpa using hneg
    rw [if_pos hneg] at hB
    simp (disch := omega) only [aX, d1, dM, aA, lz', true_and, aF]
    exact aaQ (dN o58) rfl fun w' x _ => err hB (((x08.seq (aS.dr _ _)).mono fun _ _ h => h.elim).seq x)
   .have d1 : decide (q.2 < 0) = false := by simpa using hneg
    rw [if_neg hneg] at hB
    by_cases hps : 0 < q.2
    .have d2 : decide (0 < q.2) = true := by simpa using hps
     rw [if_pos hps] at hB
     simp (disch := omega) only [aX, d1, dM, d2, aA, aF, lz', true_and, aE]
     exact aaQ (dN o58) rfl fun w' x _ => err hB (((x08.seq (aS.dr _ _)).mono fun _ _ h => h.elim).seq x)
    .have d2 : decide (0 < q.2) = false := by simpa using hps
     rw [if_neg hps] at hB
     have oT8 := dN (oT7.ext x8 (fun h => h))
     have l9 := fO (off := 0) oT8 (by simp [r6])
     simp only [r6, aHM, aHG, aHO] at l9
     simp (disch := omega) only [aX, d1, dM, d2, aA, aE, l9, true_and]
     refine aaQ (dN o58) rfl fun w' x o9 => ?_
     have xd : aS w8 w' (fun y => y = p5) := (aS.dr _ _).seq x
     refine hk _ _ ?_ ((x08.mono fun _ _ h => h.elim).seq xd)
     unfold aiC
     rw [hB]
     refine ⟨out, a, c, rfl, ?_, ((hT7.ext x8)).own o58 o9 (fun u x => by simp [z6]) xd⟩
     rw [hlen]
     exact ((os7.ext x8 (fun _ _ h => h)).ext xd (fun b hb h => by omega)).lower (by omega)
theorem aEp {p pr : Nat} {w : aJ2} {e : Int} {c cr : List aJ3} (o : cJ w p c) (hc : c.length = 6) (r : cJ w pr cr) (hr : cr[1]? = some (.int .i64 e)) (hne : pr ≠ p) {RR : aJ3 -> aJ2 -> Prop}
 (hR : ∀ w', aS w w' (fun y => y = p) -> RR (.tuple #[.slice none 0 0, Gy, .int .i64 e]) w') :
 aC pg (aJ 36 (.pointer (some ⟨p, 0, none⟩)) Gy) w fun _u w' => ldC (w'.cell? ⟨pr, 1, none⟩) w' (far pg 30 ⟨pr, 1, none⟩ w') = Result.ok (Next.value (.int .i64 e)) w' /\
  kI pg 36 (.pointer (some ⟨p, 0, none⟩)) w' fun r1 => RR (.tuple #[.slice none 0 0, r1, .int .i64 e]) w' := by
 match c, hc with
 | [c0, c1, c2, c3, c4, c5], _ =>
   unfold Gy
   refine lA o rfl (by simp [one]) (by simp) fun w6 o6 x6 s6 => ?_
   have q := (r.ext x6 hne).cell (off := 1)
   rw [hr] at q
   refine ⟨by rw [q] <;> rfl, ?_⟩
   refine Ah o6 (by simp [aV]) ?_
   simp only [aV, aHL, aHN, aHM, aHG, aHO]
   exact hR _ x6
theorem Zz {x : ByteArray} {o : Nat -> TT} {a : Nat -> Option Addr} {c : Nat -> Nat} {w : aJ2} (hl : x.size <= 1000000) (hT : Rb3 w o a c) (hO : anQ o) :
 aR pg sD #[.string x, .agg (r6 o a c).toArray] w (fun r w' => aiC w' w.heap.size (tC (lL x) o) r /\ aS w w' cM) := by
 refine aiS ?_
 obtain ⟨RR, hRR⟩ : ∃ RR : aJ3 -> aJ2 -> Prop, RR = fun r w' => aiC w' w.heap.size (tC (lL x) o) r /\ aS w w' cM := ⟨_, rfl⟩
 rw [<- hRR]
 have hll := kK x
 have err : ∀ {e : Int} {w' : aJ2}, tC (lL x) o = .error e -> aS w w' cM -> RR (.tuple #[.slice none 0 0, Gy, .int .i64 e]) w' := fun h x => by
  rw [hRR]; unfold aiC; rw [h]; exact ⟨rfl, x⟩
 unfold apU Jx KQ
 refine fV fun w1 o1 x1 s1 => ?_
 have o1 : cJ w1 w.heap.size (r6 o a c) := o1
 refine jS fun w2 o2 x2 s2 => ?_
 refine jS fun w3 o3 x3 s3 => ?_
 have o1 := (o1.ext x2 (fun h => h)).ext x3 (fun h => h)
 have o2 : cJ w3 w1.heap.size z6 := o2.ext x3 (fun h => h)
 have o3 : cJ w3 w2.heap.size z6 := o3
 have x03 := (x1.seq x2).seq x3
 have z1 := x1.size
 obtain ⟨p3, hp3⟩ : ∃ p3, p3 = w.heap.size := ⟨_, rfl⟩
 obtain ⟨p5, hp5⟩ : ∃ p5, p5 = w1.heap.size := ⟨_, rfl⟩
 obtain ⟨pn, hpn⟩ : ∃ pn, pn = w2.heap.size := ⟨_, rfl⟩
 rw [<- hp3] at o1 ⊢
 rw [<- hp5] at o2 ⊢
 rw [<- hpn] at o3 ⊢
 have z3 := x3.size
 have lz : ∀ {w' : aJ2}, aS w3 w' cM -> (aH 36 (.pointer (some ⟨pn, 0, none⟩))).run pg w' = .ok (.value Gy) w' := fun x => by
  have := fO (off := 0) (o3.ext x (fun h => h)) (by simp [z6])
  simp only [z6, aHM, aHG, aHO] at this
  exact this
 have fin : ∀ {w5 w' : aJ2}, aS w3 w5 cM -> aS w5 w' (fun y => y = p5) -> aS w w' cM := fun h x => (x03.seq h).new x (by omega)
 simp (disch := omega) only [aC, uU, eD, and_true, true_and, aA]
 refine (amM (x := x)).mono ?_
 rintro r w4 ⟨hN, x4⟩
 unfold aqM at hN
 cases hn : SP (lL x) with
 | error e =>
   rw [hn] at hN
   obtain ⟨he, n, x', rfl⟩ := hN
   have hR : tC (lL x) o = .error e := by unfold tC; rw [hn]
   have n1 : (e != 0) = true := by simpa using he
   simp (disch := omega) only [B9, B7, aA, cR]
   refine kO fun w5 o5 x5 s5 => ?_
   refine iM o5 rfl (by simp [one]) (by simp) fun w6 o6 x6 s6 => ?_
   simp only [aV, aHL, aHN] at o6
   have c6' := o6.cell (off := 1)
   have c6d := (dN o6).cell (off := 1)
   simp only [aHJ, aHK] at c6' c6d
   have x36 : aS w3 w6 cM := x4.seq (x5.new x6 (aHS _))
   have lz' := lz (x36.seq (aS.dr _ _))
   simp (disch := omega) only [fK, aHI, Result.ok.injEq, Next.value.injEq, and_true, aA, jL, true_and, gP, zU, c6', aI, eT, n1, lz', c6d, aF]
   exact aEp (dN (o2.ext x36 (fun h => h))) rfl (dN o6) rfl (by have := x4.size; omega) fun w' x => err hR (fin (x36.seq (aS.dr _ _)) x)
 | ok y =>
   obtain ⟨n, l'⟩ := y
   rw [hn] at hN
   obtain ⟨x', rfl, hx'⟩ := hN
   obtain ⟨hn1, hl'⟩ := atC hn
   have hR : tC (lL x) o = if n = 0 then (if l' = [] then .ok ([], o) else .error 15) else aqZ o n l' := by unfold tC; rw [hn]
   have n0 : ((0 : Int) != 0) = false := rfl
   have hlx' := kK x'
   simp (disch := omega) only [B9, B7, aA, cR]
   refine kO fun w5 o5 x5 s5 => ?_
   refine iM o5 rfl (by simp [one]) (by simp) fun w6 o6 x6 s6 => ?_
   simp only [aV, aHL, aHN] at o6
   obtain ⟨pr, hpr⟩ : ∃ pr, pr = w4.heap.size := ⟨_, rfl⟩
   rw [<- hpr] at o6 ⊢
   have y4 := x4.size
   have x36 : aS w3 w6 cM := x4.seq (x5.new x6 (aHS _))
   have o16 := o1.ext x36 (fun h => h)
   have o26 := o2.ext x36 (fun h => h)
   have q0 := o6.cell (off := 0)
   have q1 := o6.cell (off := 1)
   simp only [aHJ, aHK] at q0 q1
   by_cases hn0 : n = 0
   .subst hn0
    rw [if_pos rfl] at hR
    have n2 : (((0 : Nat) : Int) == 0) = true := rfl
    by_cases hl0 : l' = []
    .rw [if_pos hl0] at hR
     have d1 : decide (0 < (x'.size : Int)) = false := by rw [<- hlx', hx', hl0] <;> rfl
     have l1 := fO (off := 0) (dN o16) (by simp [r6])
     simp only [r6, aHM, aHG, aHO] at l1
     simp (disch := omega) only [fK, aHI, Result.ok.injEq, Next.value.injEq, and_true, aA, jL, true_and, n2, gP, zU, aF, q1, aI, eT, n0, q0, rV, dM, d1, l1, aE]
     refine aaQ (dN o26) rfl fun w' x _ => ?_
     rw [hRR]; unfold aiC; rw [hR]
     have x' := fin (x36.seq (aS.dr _ _)) x
     exact ⟨⟨_, a, c, rfl, rN.nil _ _ _, hT.ext x'⟩, x'⟩
    .rw [if_neg hl0] at hR
     have hpos := aII.2 hl0
     have d1 : decide (0 < (x'.size : Int)) = true := by rw [<- hlx', hx']; simp; exact hpos
     have lz' := lz (x36.seq (aS.dr _ _))
     simp (disch := omega) only [fK, aHI, Result.ok.injEq, Next.value.injEq, and_true, aA, jL, true_and, n2, gP, zU, aF, q1, aI, eT, n0, lz', q0, rV, dM, d1, aE]
     exact aaQ (dN o26) rfl fun w' x _ => err hR (fin (x36.seq (aS.dr _ _)) x)
   rw [if_neg hn0] at hR
   have n2 : ((n : Int) == 0) = false := by simp; exact hn0
   have l6 := gI (off := 0) o6 (by simp)
   simp only [aHM, aHG, aHO] at l6
   simp (disch := omega) only [fK, aHI, Result.ok.injEq, Next.value.injEq, and_true, aA, jL, true_and, n2, gP, zU, aE, q1, aI, eT, n0, l6]
   refine (F5 (n := 1) (by omega)).mono ?_
   rintro r w7 ⟨x2', rfl, hx2, x7⟩
   have x37 := x36.seq x7
   rw [hx'] at hx2 ⊢
   simp (disch := omega) only [B9, B7, aA, CA, Ee, cZ, eT]
   refine iM (o6.ext x7 (fun h => h)) rfl (by simp [one]) (by simp) fun w8 o8 x8 s8 => ?_
   simp only [aV, aHL, aHN] at o8
   have y7 := x7.size
   have x38 : aS w3 w8 cM := x37.new x8 (by omega)
   have o18 := o1.ext x38 (fun h => h)
   have o28 := o2.ext x38 (fun h => h)
   have tkn := Xh 1 (aHS 1)
   have u0 := o8.cell (off := 0)
   have u1 := o8.cell (off := 1)
   have u1d := (dN o8).cell (off := 1)
   simp only [aHJ, aHK] at u0 u1 u1d
   rw [Qm] at hR
   cases l' with
   | nil =>
     simp only [tkn] at hx2 u0 u1 u1d o8
     have n1 : ((10 : Int) != 0) = true := rfl
     have lz' := lz (x38.seq (aS.dr _ _))
     simp (disch := omega) only [u1, aI, aA, eT, n1, lz', u1d, true_and, aF]
     exact aEp (dN o28) rfl (dN o8) rfl (by omega) fun w' x => err hR (fin (x38.seq (aS.dr _ _)) x)
   | cons m r =>
     simp only [acZ] at hx2 u0 u1 u1d o8 ⊢
     have hm8 : m.toNat < 256 := aIc m
     have hm1 : rS [m] = m.toNat := by simp [rS]
     have hH : MB o (m :: r) = if m.toNat % 4 ≠ 0 then .error 11 else D4 m.toNat o 3 o r := rfl
     rw [hm1]
     generalize m.toNat = y at *
     have et : (y : Int).tmod 4 = ((y % 4 : Nat) : Int) := rfl
     by_cases h4 : y % 4 ≠ 0
     .have n1 : (((y % 4 : Nat) : Int) != 0) = true := by simp; omega
      rw [if_pos h4] at hH
      rw [hH] at hR
      have lz' := lz (x38.seq (aS.dr _ _))
      simp (disch := omega) only [u1, aI, et, n1, aF, aA, eT, n0, lz', true_and, aE]
      exact aaQ (dN o28) rfl fun w' x _ => err hR (fin (x38.seq (aS.dr _ _)) x)
     .have n1 : (((y % 4 : Nat) : Int) != 0) = false := by simp; omega
      rw [if_neg h4] at hH
      rw [hH] at hR
      have d64 : (y : Int).tdiv 64 = ((y / 64 : Nat) : Int) := rfl
      have d16 : (y : Int).tdiv 16 = ((y / 16 : Nat) : Int) := rfl
      have d4 : (y : Int).tdiv 4 = ((y / 4 : Nat) : Int) := rfl
      have r16 : ((y / 16 : Nat) : Int).tmod 4 = ((y / 16 % 4 : Nat) : Int) := rfl
      have r4 : ((y / 4 : Nat) : Int).tmod 4 = ((y / 4 % 4 : Nat) : Int) := rfl
      have m0 : y / 64 = Ta y 0 := by unfold Ta; simp; omega
      have m1 : y / 16 % 4 = Ta y 1 := rfl
      have m2 : y / 4 % 4 = Ta y 2 := rfl
      have f0 := amX y 0
      have f1 := amX y 1
      have f2 := amX y 2
      have g16 : IntKind.u64.wrap ((y / 16 : Nat) : Int) = ((y / 16 : Nat) : Int) := hP (by omega) (by omega)
      have g4 : IntKind.u64.wrap ((y / 4 : Nat) : Int) = ((y / 4 : Nat) : Int) := hP (by omega) (by omega)
      rw [m0] at d64
      rw [m1] at r16
      rw [m2] at r4
      have l8 := fO (off := 0) o18 (by simp [r6])
      simp only [r6, aHM, aHG, aHO] at l8
      have h64 : IntKind.u64.wrap ((Ta y 0 : Nat) : Int) = ((Ta y 0 : Nat) : Int) := hP (by omega) (by omega)
      have h640 : IntKind.i64.wrap ((Ta y 0 : Nat) : Int) = ((Ta y 0 : Nat) : Int) := aT (by omega) (by omega)
      have h641 : IntKind.i64.wrap ((Ta y 1 : Nat) : Int) = ((Ta y 1 : Nat) : Int) := aT (by omega) (by omega)
      have h642 : IntKind.i64.wrap ((Ta y 2 : Nat) : Int) = ((Ta y 2 : Nat) : Int) := aT (by omega) (by omega)
      simp (disch := omega) only [u1, aI, et, n1, d64, h64, h640, d16, g16, r16, h641, d4, g4, r4, h642, aE, aA, eT, n0]
      refine wQ (cells := #[.int .i64 (Ta y 0 : Nat), .int .i64 (Ta y 1 : Nat), .int .i64 (Ta y 2 : Nat)]) (by decide) (by decide) (by kernel_rfl) fun w9 o9 x9 s9 => ?_
      have o9 : cJ w9 w8.heap.size [.int .i64 (Ta y 0 : Nat), .int .i64 (Ta y 1 : Nat), .int .i64 (Ta y 2 : Nat)] := o9
      have y8 := x8.size
      have o19 := o18.ext x9 (fun h => h)
      have l9 := fO (off := 0) o19 (by simp [r6])
      simp only [r6, aHM, aHG, aHO] at l9
      simp (disch := omega) only [l9, aA]
      refine jS fun w10 o10 x10 s10 => ?_
      refine lA o10 rfl (by simp [one]) (by simp) fun w11 o11 x11 s11 => ?_
      have o11 : cJ w11 w9.heap.size (r6 o a c) := o11
      have y9 := x9.size
      have x911 : aS w9 w11 cM := x10.new x11 (aHS _)
      have x811 := x9.seq x911
      have x311 := x38.seq x811
      have v0 := (o8.ext x811 (fun h => h)).cell (off := 0)
      simp only [aHJ, aHK] at v0
      simp (disch := omega) only [v0, aI, aA]
      unfold Kr LK KR Kq
      have hO6 : ∀ k, k < 3 -> (o k).2.length <= 1000000 := fun k hk => by
       rcases aIN (o k).2.length with h | h
       .omega
       .have := hO k hk (aII.1 h)
        rw [this.len]
        have : 2 ^ (o k).1 <= 2 ^ 9 := aHT (by omega) this.lg
        omega
      have hx2s : x2'.size <= 1000000 := by
       have := kK x2'
       rw [hx2] at this
       have : (m :: r).length <= (lL x).length := hl'
       simp at this
       omega
      refine aCm (m := y) (o := o) (a := a) (c := c) (mc := 3) hm8 (o18.ext x811 (fun h => h)) (o28.ext x811 (fun h => h)) (o3.ext x311 (fun h => h)) (o9.ext x911 (fun h => h)) o11 ((hT.ext x03).ext x311) hO6 hx2s ⟨by omega, by omega, by omega, by omega⟩ (by omega) ?_ ?_
      .intro w12 t a2 c2 x3 ht oT12 hT12 x12
       rw [hx2] at ht
       rw [ht] at hR
       have hR : tC (lL x) o = Dd t n (lL x3) := hR
       obtain ⟨hG, hl2⟩ := Q9 (l := m :: r) hO (by rw [hH]; exact ht)
       have x312 : aS w3 w12 cM := x311.new x12 (by have := x38.size; omega)
       have hx3s : x3.size <= 1000000 := by
        have := kK x3
        have : (m :: r).length <= (lL x).length := hl'
        omega
       refine awO hn1 (o2.ext x312 (fun h => h)) (o3.ext x312 (fun h => h)) oT12 hT12 hG hx3s ⟨by have := x38.size; omega, by omega⟩ fun w' r' hr x13 => ?_
       have x' := fin x312 x13
       rw [hRR]
       refine ⟨?_, x'⟩
       rw [hR]
       cases hb : Dd t n (lL x3) with
       | error e => rw [hb] at hr; exact hr
       | ok z =>
         rw [hb] at hr
         obtain ⟨v, a3, c3, e1, e2, e3⟩ := hr
         exact ⟨v, a3, c3, e1, e2.lower (by have := (x03.seq x312).size; omega), e3⟩
      .intro w' e he x12
       rw [hx2] at he
       rw [he] at hR
       refine err hR ?_
       exact (x03.seq x311).trans x12 fun b hb h => by have := x38.size; omega
end Go.Proofs.YtaggdjhhmbnhoaaDoor
