/- Parts of the proof of SequencesMany: merged and given short names by a program of ours. -/
import Derived.Test.YtaggdjhhmbnhoaaDoorSmD
set_option linter.unusedVariables false
set_option linter.unusedSimpArgs false
open Bool renaming false_eq_true → aGW, not_true → aHB, not_false → aId
open Int renaming toNat_natCast → aGO, tdiv_eq_ediv_of_nonneg → aHj, fdiv_eq_ediv_of_nonneg → aIs
open List renaming length_map → aG1, append_assoc → aG2, getD_eq_getElem?_getD → aG3, length_take → aG4, getElem?_append_left → aG6, getElem_mem → aG7, take_succ_cons → aGN, getElem?_cons_zero → aGQ, getElem?_cons_succ → aGR, set_cons_zero → aGS, drop_zero → aGT, set_cons_succ → aGU, take_zero → aGV, getElem?_eq_getElem → aGX, length_append → aGY, mem_cons_self → aH0, mem_singleton → aH2, mem_append → aH7, length_singleton → aH8, length_replicate → aH9, take_add_one → aHA, append_nil → aHC, mem_map → aHH, replicate_succ → aHO, length_pos_iff → aHP, cons_append → aHV, drop_of_length_le → aHW, getElem?_eq_none → aHa, length_cons → aHc, getElem?_map → aHg, length_drop → aHh, take_of_length_le → aHk, getElem_of_mem → aHl, drop_eq_getElem_cons → aHn, length_eq_zero_iff → aHq, getElem?_take_of_lt → aHr, getElem_map → aHs, nil_append → aHv, map_append → aHw, drop_succ_cons → aHx, getElem?_append_right → aHy, takeWhile_sublist → aI2, mem_of_mem_drop → aI7, count_le_length → aI8, mem_of_mem_take → aI9, countP_le_length → aIJ, map_take → aIM, range_succ → aIO, exists_mem_of_ne_nil → aIQ, sum_append → aIR, map_replicate → aIV, drop_left → aIX, ext_getElem? → aIY, getElem?_drop → aIa, mem_of_getElem? → aIc, take_append_drop → aIh, getElem_cons_zero → aIo, map_set → aIq, set_append_right → aIr, getLast?_eq_getElem? → aIu, take_length → aIw, eq_of_mem_replicate → aIx, getElem?_replicate → aIy
open Nat renaming pow_le_pow_right → aG0, zero_add → aGP, le_refl → aGZ, min_eq_left → aHG, add_zero → aHI, add_sub_cancel → aHK, le_trans → aHS, eq_zero_or_pos → aHT, zero_le → aHZ, lt_or_ge → aHd, pow_succ → aHf, mod_eq_of_lt → aHm, two_pow_pos → aHp, mul_le_mul_right → aHt, sub_zero → aIU, sub_self → aIp
open Option renaming isNone_some → aHe, map_some → aHz
open Option.some renaming inj → aG8
open Prod.mk renaming inj → aI1
open UInt8 renaming toNat_lt → aHi
namespace Go.Proofs.YtaggdjhhmbnhoaaDoor
open Go Go.En Go.Pu
set_option maxRecDepth 4000
theorem auB {w0 w : aJa} {p6 pf pc log st sym left x : Nat} {bv : aJb} {L : List Bool} {ps : List Int} {v : aJb} (h : RdS w p6 pf pc log st bv L ps v) (hl : ps.length <= 1000001) (hL : L.length <= 8000000) (hst : st <= L.length) (hx : aS w0 w cM) (hp : w0.heap.size <= p6) (hsym : sym <= 1000000)
 {kn : aJb -> aJb -> aJb -> aJb -> aJb -> aJa -> Prop} {RR : aJb -> aJa -> Prop}
 (hE : ∀ w', NB L x st = none -> aS w0 w' cM -> RR (.tuple #[.agg #[.int .i64 0, .slice none 0 0], .int .i64 0, .int .i64 10]) w')
 (hB : ∀ k st2 w', NB L x st = some (k, st2) -> sym < ps.length + k -> aS w0 w' cM -> RR (.tuple #[.agg #[.int .i64 0, .slice none 0 0], .int .i64 0, .int .i64 11]) w')
 (hK : ∀ k st2 w' v', NB L x st = some (k, st2) -> ¬ sym < ps.length + k -> RdS w' p6 pf pc log st2 bv L (ps ++ List.replicate k 0) v' -> aS w0 w' cM -> kn (.int .i64 sym) (.pointer (some ⟨p6, 0, none⟩)) (.pointer (some ⟨pf, 0, none⟩)) (.pointer (some ⟨pc, 0, none⟩)) (.int .i64 left) w') :
 xU kn RR (.int .i64 sym) (.pointer (some ⟨p6, 0, none⟩)) (.pointer (some ⟨pf, 0, none⟩)) (.pointer (some ⟨pc, 0, none⟩)) (.int .i64 left) (.int .i64 x) w := by
 have h6 := h.h6
 have hf := h.hf
 unfold xU KB
 simp (disch := omega) only [aC, cW, aA]
 unfold JT KN Lk
 refine cG.rule (fun m (t : aJb) w' => ∃ (k0 st' : Nat) (bt : Bool) (v' : aJb), t = .bool bt /\ RdS w' p6 pf pc log st' bv L (ps ++ List.replicate k0 0) v' /\ aS w0 w' cM /\ st' <= L.length /\ k0 <= 3 * st' /\
  (bt = true -> NB L x st = (match noR L m st' with | none => none | some (k, s) => some (k0 + k, s)) /\ L.length < 2 * m + st') /\ (bt = false -> NB L x st = some (k0, st'))) (L.length + 1)
  ⟨0, st, _, v, rfl, by simpa using h, hx, hst, by omega, ?_, ?_⟩ ?_
 .intro hb
  have hx1 : x = 1 := by simp at hb; omega
  subst hx1
  refine ⟨?_, by omega⟩
  unfold NB
  rw [if_pos rfl]
  cases noR L (L.length + 1) st with
  | none => rfl
  | some y => simp
 .intro hb
  have hx1 : x ≠ 1 := by
   intro h; subst h; simp at hb
  unfold NB
  rw [if_neg hx1]
 rintro m t w1 ⟨k0, st', bt, v', rfl, h1, x1, hst', hk0, ht, hfa⟩
 unfold Dj J6
 cases bt with
 | false =>
   have hb := hfa rfl
   obtain ⟨av, cv, hv⟩ := h1.os.len
   have c1 := h1.oc.cell (off := 1)
   subst hv
   simp only [aGQ, aGR, aGY, aH9] at c1
   have hlen : ((ps ++ List.replicate k0 0).length : Int) = ((ps.length + k0 : Nat) : Int) := by simp
   unfold FU
   by_cases hgt : sym < ps.length + k0
   .have d1 : decide ((sym : Int) < ((ps.length + k0 : Nat) : Int)) = true := by simp only [decide_eq_true_eq]; omega
    simp (disch := omega) only [aC, aW, aGP, jR, aA, cL, c1, aI, eA, dP, d1, jE, bO, if_true, aF, dV, aE]
    exact abY (RR := RR) (e := 11) h1.o6 x1 hp fun w' h => hB _ _ _ hb hgt h
   .have d1 : decide ((sym : Int) < ((ps.length + k0 : Nat) : Int)) = false := by simp only [decide_eq_false_iff_not]; omega
    have d2 : decide ((left : Int) < 0) = false := by simp
    simp (disch := omega) only [aC, aW, aGP, jR, aA, cL, c1, aI, eA, dP, d1, dG, bO, aGW, if_false, bP, aX, d2, aE]
    exact hK _ _ _ _ hb hgt h1 x1
 | true =>
   obtain ⟨hb, hm⟩ := ht rfl
   obtain ⟨m, rfl⟩ : ∃ m', m = m' + 1 := ⟨m - 1, by omega⟩
   rw [atT] at hb
   have lf := fD (off := 0) h1.of (by simp)
   simp only [aGT, aGN, aGV] at lf
   unfold Jj T2 JR
   simp (disch := omega) only [aC, lf, jR, aA, aF]
   refine (Uw (n := 2) h1.bl (by omega) hst' (by omega)).mono ?_
   rintro r w2 ⟨⟨hsh, rfl⟩ | ⟨hsh, rfl⟩, x2⟩
   .have n1 : ((10 : Int) != 0) = true := rfl
    rw [if_pos (by omega)] at hb
    obtain ⟨bn, bc, hbv, _⟩ := LU h1.bl
    simp (disch := omega) only [SE, SF, SD, aA, eT]
    refine dD (h1.ext x2).of rfl (by subst hbv; simp [one]) (by simp) fun w3 o3 x3 s3 => ?_
    simp (disch := omega) only [n1, aF]
    exact abY (RR := RR) (e := 10) ((h1.ext x2).o6.ext x3 (by omega)) ((x1.seq x2).new x3 (by omega)) hp fun w' h => hE _ hb h
   .have n1 : ((0 : Int) != 0) = false := rfl
    rw [if_neg (by omega)] at hb
    obtain ⟨bn, bc, hbv, _⟩ := LU h1.bl
    have hlt := DD L st' 2
    simp (disch := omega) only [SE, SF, SD, aA, eT]
    refine dD (h1.ext x2).of rfl (by subst hbv; simp [one]) (by simp) fun w3 o3 x3 s3 => ?_
    simp only [aV, aGS, aGU] at o3
    have h3 := (h1.ext x2).setF x3 o3
    have x03 : aS w0 w3 cM := (x1.seq x2).new x3 (by omega)
    have z03 := x03.size
    simp (disch := omega) only [n1, aE]
    refine aAO h3 (by omega) (by simp; omega) fun w4 v4 h4 x4 => ?_
    have hpc := h3.hf
    have x04 : aS w0 w4 cM := x03.trans x4 fun b hb h => by omega
    rw [aG2, List.replicate_append_replicate] at h4
    refine ⟨m, by omega, k0 + iX L st' 2, st' + 2, _, v4, rfl, h4, x04, hsh, by omega, ?_, ?_⟩
    .intro hq
     have h3' : iX L st' 2 = 3 := by simp at hq; omega
     rw [if_neg (by omega)] at hb
     refine ⟨?_, by omega⟩
     rw [hb, h3']
     cases noR L m (st' + 2) with
     | none => rfl
     | some y =>
       obtain ⟨k, s⟩ := y
       simp; omega
    .intro hq
     have h3' : iX L st' 2 ≠ 3 := by
      intro h; rw [h] at hq; simp at hq
     rw [if_pos (by omega)] at hb
     exact hb
theorem asM {log p6 pf pc sym : Nat} {w0 w : aJa} {bv v : aJb} {L : List Bool} {res : Except Int (List Int × Nat)} (hlp : w0.heap.size <= p6) (hl : L.length <= 8000000) (hsym : sym <= 1000000) (hlog : log <= 15)
 (h : RdS w p6 pf pc log 4 bv L [] v) (h4 : 4 <= L.length) (hx : aS w0 w cM)
 (hres : U7 L sym (L.length + 1) 4 (2 ^ log) [] = res)
 {RR : aJb -> aJa -> Prop} (hE : ∀ e w', res = .error e -> aS w0 w' cM -> RR (.tuple #[.agg #[.int .i64 0, .slice none 0 0], .int .i64 0, .int .i64 e]) w')
 (hO : ∀ ps st v w', res = .ok (ps, st) -> sN w' w0.heap.size 1 v ps.length (ps.map (Value.int .i64)) -> aS w0 w' cM -> RR (.tuple #[.agg #[.int .i64 log, v], .int .i64 (((st + 7) / 8 : Nat)), .int .i64 0]) w') :
 CE RR (.int .i64 sym) (.pointer (some ⟨p6, 0, none⟩)) (.pointer (some ⟨pf, 0, none⟩)) (.pointer (some ⟨pc, 0, none⟩)) (.int .i64 (2 ^ log : Nat)) w := by
 have hp15 : 2 ^ log <= 2 ^ 15 := aG0 (by omega) hlog
 have h6 := h.h6
 have hf := h.hf
 unfold CE J4 Kn
 refine cG.rule (fun m (t : aJb) w' => ∃ (st left : Nat) (ps : List Int) (v : aJb), t = .int .i64 left /\ U7 L sym m st left ps = res /\ L.length < m + st /\ st <= L.length /\ left <= 32768 /\ ps.length <= 1000000 /\
  RdS w' p6 pf pc log st bv L ps v /\ aS w0 w' cM) (L.length + 1)
  ⟨4, 2 ^ log, [], v, rfl, hres, by omega, h4, by omega, by simp, h, hx⟩ ?_
 rintro m t w1 ⟨st, left, ps, v, rfl, hr, hm, hst, hleft, hpl, h1, x1⟩
 have hx0 := x1.size
 obtain ⟨m, rfl⟩ : ∃ m', m = m' + 1 := ⟨m - 1, by omega⟩
 obtain ⟨bn, bc, hbv, _⟩ := LU h1.bl
 unfold DM JG
 by_cases h0 : left = 0
 .have d1 : decide ((0 : Int) < (left : Int)) = false := by simp; omega
  rw [amC, if_pos h0] at hr
  obtain ⟨av, cv, hv⟩ := h1.os.len
  subst hv hbv
  have lc := lG (off := 0) (dO h1.oc) (by simp)
  have lc' := lG (off := 0) h1.oc (by simp)
  have lf := fD (off := 0) (dO h1.of) (by simp)
  have lf' := fD (off := 0) h1.of (by simp)
  simp only [aGT, aGN, aGV] at lc lc' lf lf'
  unfold FW
  simp (disch := omega) only [aC, dP, d1, eC, and_true, true_and, aA, lc, lf, aE]
  refine (aA8 (by omega)).mono ?_
  rintro r w2 ⟨rfl, x2⟩
  have x12 : aS w1 w2 cM := (aS.dr w1 cM).seq x2
  have h2 := h1.ext x12
  have lc2 := lG (off := 0) h2.oc (by simp)
  simp only [aGT, aGN, aGV] at lc2
  simp (disch := omega) only [lc2, true_and]
  refine iH h2.o6 rfl (by simp [one]) (by simp) fun w6 o6 x6 s6 => ?_
  refine nE o6 (by simp [aV]) ?_
  simp only [aV, aGS, aGU, aGT, aGN, aGV]
  have ov6 := h2.os.ext x6 (fun b hb h => by omega)
  refine hO ps st _ w6 hr.symm ⟨ov6.1, ?_⟩ ((x1.seq x12).new x6 (by omega))
  rcases ov6.2 with h | ⟨b, c, rest, q1, q2, q3⟩
  .exact .inl h
  .exact .inr ⟨b, c, rest, q1, by omega, q3⟩
 .have d1 : decide ((0 : Int) < (left : Int)) = true := by simp; omega
  rw [aEe h0] at hr
  have lf := fD (off := 0) h1.of (by simp)
  simp only [aGT, aGN, aGV] at lf
  unfold JX Ug Ky
  simp (disch := omega) only [aC, dP, d1, jR, aA, aW, aGP, dZ, aT, cL, lf, aF]
  refine (aA0 h1.bl hst (by omega) (by omega) hleft).mono ?_
  rintro r w2 ⟨hv2, x2⟩
  have h2 := h1.ext x2
  cases hval : Vj L st left with
  | none =>
    rw [hval] at hr hv2
    obtain ⟨st', rfl⟩ := hv2
    have n1 : ((10 : Int) != 0) = true := rfl
    simp (disch := omega) only [SE, SF, SD, aA, eT, dZ, aT, cW]
    refine dD h2.of rfl (by subst hbv; simp [one]) (by simp) fun w3 o3 x3 s3 => ?_
    simp (disch := omega) only [n1, aF]
    exact abY (RR := RR) (e := 10) (h2.o6.ext x3 (by omega)) ((x1.seq x2).new x3 (by omega)) hlp fun w' h => hE _ _ hr.symm h
  | some y =>
    obtain ⟨x, st1⟩ := y
    rw [hval] at hr hv2
    simp only at hr
    obtain rfl := hv2
    obtain ⟨b1, b2, b3⟩ := Uk hval (by omega)
    have n1 : ((0 : Int) != 0) = false := rfl
    simp (disch := omega) only [SE, SF, SD, aA, eT, dZ, aT, cW]
    refine dD h2.of rfl (by subst hbv; simp [one]) (by simp) fun w3 o3 x3 s3 => ?_
    simp only [aV, aGS, aGU] at o3
    have h3 := h2.setF x3 o3
    have x03 : aS w0 w3 cM := (x1.seq x2).new x3 (by omega)
    have c3 := h3.oc.cell (off := 1)
    simp only [aGQ, aGR] at c3
    simp (disch := omega) only [n1, c3, aI, aA, aE]
    refine aC3 h3 ((x : Int) - 1) (by omega) fun w4 v4 h4 x4 => ?_
    have z03 := x03.size
    have hpc := h3.hf
    have x04 : aS w0 w4 cM := x03.trans x4 fun b hb h => by omega
    have hpn := lK (p := (x : Int) - 1) (by omega)
    have hfin : ∀ (left' : Nat), left' = left - (cR ((x : Int) - 1)).toNat -> xU (fun _ _ _ _ aU w'' => ∃ m', m' < m + 1 /\ ∃ (st left : Nat) (ps : List Int) (v : aJb), aU = .int .i64 left /\ U7 L sym m' st left ps = res /\ L.length < m' + st /\ st <= L.length /\ left <= 32768 /\ ps.length <= 1000000 /\
        RdS w'' p6 pf pc log st bv L ps v /\ aS w0 w'' cM) RR (.int .i64 sym) (.pointer (some ⟨p6, 0, none⟩)) (.pointer (some ⟨pf, 0, none⟩)) (.pointer (some ⟨pc, 0, none⟩)) (.int .i64 left') (.int .i64 x) w4 := by
     intro left' hl'
     have hlen1 : (ps ++ [(x : Int) - 1]).length = ps.length + 1 := by simp
     refine auB (left := left') h4 (by omega) hl b2 x04 hlp hsym ?_ ?_ ?_
     .intro w' hbe hx
      rw [hbe] at hr
      exact hE _ _ hr.symm hx
     .intro k st2 w' hbe hgt hx
      rw [hbe] at hr
      simp only at hr
      rw [if_pos (by omega)] at hr
      exact hE _ _ hr.symm hx
     .intro k st2 w' v' hbe hgt h5 hx
      rw [hbe] at hr
      simp only at hr
      rw [if_neg (by omega), <- hl'] at hr
      have hb2 : st1 <= st2 /\ st2 <= L.length := by
       unfold NB at hbe
       split at hbe
       .obtain ⟨q1, q2, _⟩ := akL hbe; omega
       .obtain ⟨rfl, rfl⟩ := aI1 (aG8 hbe); omega
      rw [aG2, List.singleton_append] at h5
      exact ⟨m, by omega, st2, left', _, v', rfl, hr, by omega, hb2.2, by omega, by simp; omega, h5, hx⟩
    by_cases hx0 : x = 0
    .subst hx0
     have n2 : (((0 : Nat) : Int) == 0) = true := rfl
     have e1 : (left : Int) - 1 = ((left - 1 : Nat) : Int) := by omega
     simp (disch := omega) only [n2, e1, aF]
     exact hfin _ rfl
    .have n2 : ((x : Int) == 0) = false := beq_eq_false_iff_ne.2 (by omega)
     have e0 : (x : Int) - 1 = ((x - 1 : Nat) : Int) := by omega
     have e1 : (left : Int) - ((x : Int) - 1) = ((left - (x - 1) : Nat) : Int) := by omega
     simp (disch := omega) only [n2, e1, aE]
     refine hfin _ ?_
     unfold cR
     rw [if_neg (by omega), e0, aGO]
theorem axW {s : ByteArray} {most : Int} {sym : Nat} {w : aJa} (hl : s.size <= 1000000) (hsym : sym <= 1000000) :
 aR pg IB #[.string s, .int .i64 most, .int .i64 sym] w (fun r w' => Y2 w' w.heap.size (vV (bE (lC s)) most sym) r /\ aS w w' cM) := by
 refine aiB ?_
 obtain ⟨RR, hRR⟩ : ∃ RR : aJb -> aJa -> Prop, RR = fun r w' => Y2 w' w.heap.size (vV (bE (lC s)) most sym) r /\ aS w w' cM := ⟨_, rfl⟩
 rw [<- hRR]
 have hll := kG s
 have hbl := lQ (lC s)
 unfold amB J8 I8
 refine nP fun w1 o1 x1 s1 => ?_
 refine (amY hl).mono ?_
 rintro r w2 ⟨ob2, x2⟩
 have hbl2 : Bl w2 r (bE (lC s)) := ob2.sl
 have hat := sN.atI ob2
 obtain ⟨bn, bc, rfl, _⟩ := LU hbl2
 have z1 := x1.size
 have z2 := x2.size
 simp (disch := omega) only [aC, vD, jR, aA]
 refine yR fun w3 o3 x3 s3 => ?_
 refine dD o3 rfl (by simp [one]) (by simp) fun w4 o4 x4 s4 => ?_
 simp only [aV, aGS, aGU] at o4
 have z3 := x3.size
 have z4 := x4.size
 have x24 : aS w2 w4 cM := x3.new x4 (by omega)
 have lf := fD (off := 0) o4 (by simp)
 simp only [aGT, aGN, aGV] at lf
 have hbl4 := hbl2.ext x24 (cD _)
 have e0 : (0 : Int) = ((0 : Nat) : Int) := rfl
 rw [e0] at lf
 simp (disch := omega) only [lf, aA]
 refine (Uw (st := 0) (n := 4) hbl4 (by omega) (by omega) (by omega)).mono ?_
 rintro r w5 ⟨⟨hsh, rfl⟩ | ⟨hsh, rfl⟩, x5⟩
 .have n1 : ((10 : Int) != 0) = true := rfl
  have hrl : vV (bE (lC s)) most sym = .error 10 := by unfold vV; rw [if_pos (by omega)]
  rw [hrl] at hRR
  simp (disch := omega) only [SE, SF, SD, aA, eT, cZ, aT, bM, pQ]
  refine dD (o4.ext x5 (fun h => h)) rfl (by simp [one]) (by simp) fun w6 o6 x6 s6 => ?_
  simp (disch := omega) only [n1, aF]
  exact abY (RR := RR) (e := 10) ((((o1.ext x2 (fun h => h)).ext x24 (fun h => h)).ext x5 (fun h => h)).ext x6 (by omega)) ((((x1.seq x2).seq x24).seq x5).new x6 (by omega)) (aGZ _) fun w' h => by rw [hRR]; exact ⟨rfl, h⟩
 .have n1 : ((0 : Int) != 0) = false := rfl
  have hlt := DD (bE (lC s)) 0 4
  have hrl : vV (bE (lC s)) most sym = (if most < ((iX (bE (lC s)) 0 4 + 5 : Nat) : Int) ∨ 15 < iX (bE (lC s)) 0 4 + 5 then .error 12 else match U7 (bE (lC s)) sym ((bE (lC s)).length + 1) 4 (2 ^ (iX (bE (lC s)) 0 4 + 5)) [] with
   | .error e => .error e
   | .ok (ps, st) => .ok (iX (bE (lC s)) 0 4 + 5, ps, (st + 7) / 8)) := by unfold vV; rw [if_neg (by omega)] <;> rfl
  rw [hrl] at hRR
  generalize iX (bE (lC s)) 0 4 = x at *
  have e1 : (x : Int) + 5 = ((x + 5 : Nat) : Int) := by omega
  have z5 := x5.size
  simp (disch := omega) only [aGP, SE, SF, SD, aA, eT, cZ, aT, bM, pQ]
  refine dD (o4.ext x5 (fun h => h)) rfl (by simp [one]) (by simp) fun w6 o6 x6 s6 => ?_
  simp only [aV, aGS, aGU] at o6
  have z6 := x6.size
  have x06 : aS w w6 cM := (((x1.seq x2).seq x24).seq x5).new x6 (by omega)
  have o16 := ((((o1.ext x2 (fun h => h)).ext x24 (fun h => h)).ext x5 (fun h => h)).ext x6 (by omega))
  have hbl6 : Bl w6 _ _ := (hbl4.ext x5 (cD _)).ext x6 (hat _ fun b hb hh => by omega)
  simp (disch := omega) only [n1, e1, aE]
  refine nP fun w7 o7 x7 s7 => ?_
  refine iH o7 rfl (by simp [one]) (by simp) fun w8 o8 x8 s8 => ?_
  simp only [aV, aGS, aGU] at o8
  have x68 : aS w6 w8 cM := x7.new x8 (by omega)
  have x08 : aS w w8 cM := x06.seq x68
  have o18 := o16.ext x68 (fun h => h)
  have c8 := o8.cell (off := 0)
  simp only [aGQ, aGR] at c8
  by_cases hmo : most < ((x + 5 : Nat) : Int)
  .have d1 : decide (most < ((x + 5 : Nat) : Int)) = true := by simpa using hmo
   rw [if_pos (.inl hmo)] at hRR
   simp (disch := omega) only [cQ, aA, bZ, c8, aI, dP, d1, jE, bO, if_true, aF, dV]
   exact abY (RR := RR) (e := 12) o18 x08 (aGZ _) fun w' h => by rw [hRR]; exact ⟨rfl, h⟩
  have d1 : decide (most < ((x + 5 : Nat) : Int)) = false := by simpa using hmo
  by_cases h15 : 15 < x + 5
  .have d2 : decide ((15 : Int) < ((x + 5 : Nat) : Int)) = true := by simp; omega
   rw [if_pos (.inr h15)] at hRR
   simp (disch := omega) only [cQ, aA, bZ, c8, aI, dP, d1, dG, bO, aGW, if_false, bP, d2, aF]
   exact abY (RR := RR) (e := 12) o18 x08 (aGZ _) fun w' h => by rw [hRR]; exact ⟨rfl, h⟩
  have d2 : decide ((15 : Int) < ((x + 5 : Nat) : Int)) = false := by simp; omega
  rw [if_neg (by omega)] at hRR
  simp (disch := omega) only [cQ, aA, bZ, c8, aI, dP, d1, dG, bO, aGW, if_false, bP, d2, aE]
  refine (Um (x + 5) (by omega) _).mono ?_
  rintro r w9 ⟨rfl, rfl⟩
  have hpow : ((2 ^ (x + 5) : Nat) : Int) = (2 : Int) ^ (x + 5) := by simp
  rw [<- hpow]
  have hS : RdS w9 w.heap.size w2.heap.size w6.heap.size (x + 5) 4 (.slice bn (bE (lC s)).length bc) (bE (lC s)) [] (.slice none 0 0) :=
   ⟨o18, o6.ext x68 (fun h => h), o8, sN.nil _ _ _, hbl6.ext x68 (cD _), fun M hM => hat M fun b _ hb => hM b (by omega) (by omega), by omega, by omega⟩
  refine asM (w0 := w) (res := U7 (bE (lC s)) sym ((bE (lC s)).length + 1) 4 (2 ^ (x + 5)) []) (aGZ _) (by omega) hsym (by omega) hS (by omega) x08 rfl ?_ ?_
  .intro e w' he hx
   rw [hRR, he]
   exact ⟨rfl, hx⟩
  .intro ps st v w' he ho hx
   rw [hRR, he]
   exact ⟨⟨v, rfl, ho⟩, hx⟩
end Go.Proofs.YtaggdjhhmbnhoaaDoor
namespace Go.Pu
open Go Go.En
theorem aDM {ps : List Int} (hlo : ∀ p ∈ ps, -1 <= p) (hne : ps ≠ []) (hlast : ps.getLast? ≠ some 0) : 0 < rE ps := by
 have h0 := F7 hlo
 rcases Int.lt_or_eq_of_le h0 with h | h
 .exact h
 .exfalso
  have hz : ∀ q ∈ ps, q = 0 := fun q hq => by
   have h1 := akH hlo hq
   have h2 := hlo q hq
   unfold cR at h1
   split at h1 <;> omega
  refine hlast ?_
  cases hg : ps.getLast? with
  | none => simp at hg; exact absurd hg hne
  | some y => rw [hz y (List.mem_of_getLast? hg)]
theorem auU {left v : Nat} (h : left <= 32768) : (LB left v).length <= 17 := by
 have hb := qT (k := left + 1) (n := 17) (by omega)
 unfold LB
 simp only
 split
 .rw [dH]; omega
 .split <;> rw [dH] <;> omega
theorem aEh : ∀ k : Nat, (noW k).length <= 2 * k + 2 := by
 intro k
 induction k using Nat.strongRecOn with
 | ind k ih =>
   rw [noW]
   split
   .rw [dH]; omega
   .have := ih (k - 3) (by omega)
    rw [aGY, dH]; omega
theorem asZ : ∀ (g left : Nat) (ps : List Int), left <= 32768 -> (XF g left ps).length <= 20 * ps.length
 | 0, left, ps, h => by simp [XF]
 | g + 1, left, [], h => by simp [XF]
 | g + 1, left, p :: ps, h => by
   rw [XF]
   have hk : (ps.takeWhile (· == 0)).length <= ps.length := (aI2 _).length_le
   split
   .have h1 := auU (v := 1) h
    have h2 := aEh (ps.takeWhile (· == 0)).length
    have h3 := asZ g left (ps.drop (ps.takeWhile (· == 0)).length) h
    rw [aHh] at h3
    simp only [aGY, aHc]
    omega
   .have h1 := auU (v := (p + 1).toNat) h
    have h3 := asZ g (left - (cR p).toNat) ps (by omega)
    simp only [aGY, aHc]
    omega
theorem adB {log : Nat} {ps : List Int} (hm : Sw log ps) : (Im log ps).length <= 6000 := by
 have h15 := hm.log15
 have hp : 2 ^ log <= 2 ^ 15 := aG0 (by omega) h15
 have := asZ ps.length (2 ^ log) ps (by omega)
 have := hm.len256
 unfold Im
 rw [aGY, dH]
 omega
theorem alS : ∀ {ps : List Int} {j : Nat}, j < (ps.takeWhile (· == 0)).length -> ps[j]? = some 0
 | [], j, h => by simp at h
 | p :: ps, j, h => by
   rw [List.takeWhile_cons] at h
   by_cases hp : (p == 0) = true
   .rw [if_pos hp] at h
    cases j with
    | zero => simpa using hp
    | succ j => simpa using alS (ps := ps) (j := j) (by simpa using h)
   .rw [if_neg hp] at h; simp at h
theorem aqA : ∀ {ps : List Int} {y : Int}, ps[(ps.takeWhile (· == 0)).length]? = some y -> y ≠ 0
 | [], y, h => by simp at h
 | p :: ps, y, h => by
   rw [List.takeWhile_cons] at h
   by_cases hp : (p == 0) = true
   .rw [if_pos hp] at h
    exact aqA (ps := ps) (by simpa using h)
   .rw [if_neg hp] at h
    simp at h hp
    rw [<- h]; exact hp
theorem aDd {ps : List Int} (hlast : ps.getLast? ≠ some 0) (hne : ps ≠ []) : (ps.takeWhile (· == 0)).length < ps.length := by
 have hk : (ps.takeWhile (· == 0)).length <= ps.length := (aI2 _).length_le
 rcases aHd (ps.takeWhile (· == 0)).length ps.length with h | h
 .exact h
 .exfalso
  have hl : 0 < ps.length := aHP.2 hne
  have := alS (ps := ps) (j := ps.length - 1) (by omega)
  apply hlast
  rw [aIu, this]
end Go.Pu
namespace Go.Proofs.YtaggdjhhmbnhoaaDoor
open Go Go.En Go.Pu
set_option maxRecDepth 4000
theorem aF4 {lo p : Nat} {B : List Bool} {w : aJa} (h : Wr w lo p B) (hB : B.length <= 10000000) :
 aR pg wP #[.pointer (some ⟨p, 0, none⟩)] w (fun r w' => ∃ bytes, aaI B bytes /\ sN w' w.heap.size 1 r bytes.length (bytes.map FQ) /\ aS w w' cM) := by
 refine SY ?_
 obtain ⟨h0, v, bytes, o, os, hh⟩ := h
 have c0 := (dO o).cell (off := 0)
 have c0' := o.cell (off := 0)
 simp only [aGQ, aGR] at c0 c0'
 have hs : Bs w v bytes := by
  have h1 := os.1
  rcases os.2 with ⟨rfl, h2⟩ | ⟨b, c, rest, rfl, h2, h3, h4, h5⟩
  .exact ⟨_, _, _, rfl, by omega, by omega, fun h => by omega⟩
  .refine ⟨_, _, _, rfl, by omega, h5, fun _ => ⟨b, 0, rfl, fun i hi => ?_⟩⟩
   rw [h3.cell, aGP, aG6 (by omega)]
 have hl := hh.len
 unfold RD B0
 simp (disch := omega) only [aC, kJ, aHe, rB, aA, iR, gA, c0', aI, aE]
 refine (Uq hs (by omega)).mono ?_
 rintro r w1 ⟨o1, x1⟩
 exact ⟨bytes, hh, o1, x1⟩
structure WrS (w : aJa) (w0 : aJa) (pc lo pw log : Nat) (sv : aJb) (ps : List Int) (B : List Bool) : Prop where
 oc : cJ w pc [.int .i64 log, sv]
 sl : Sl w0 sv (ps.map (Value.int .i64))
 hw : Wr w lo pw B
 hc : pc < lo
 hx : aS w0 w cM
 hlo : w0.heap.size <= lo
theorem WrS.put {w w' w0 : aJa} {pc lo pw log : Nat} {sv : aJb} {ps : List Int} {B B' : List Bool} (h : WrS w w0 pc lo pw log sv ps B) (hw : Wr w' lo pw B') (hx : aS w w' (fun y => lo <= y)) : WrS w' w0 pc lo pw log sv ps B' :=
 ⟨h.oc.ext hx (by have := h.hc; omega), h.sl, hw, h.hc, h.hx.trans hx fun b hb hh => by have := h.hlo; omega, h.hlo⟩
theorem aBO {w w0 : aJa} {pc lo pw log left i : Nat} {sv : aJb} {ps : List Int} {B : List Bool} {p : Int} (h : WrS w w0 pc lo pw log sv ps B) (hB : B.length <= 1000000) (h0 : 0 < left) (h1 : left <= 32768) (hg : ps[i]? = some p) (hp0 : -1 <= p) (hpl : p <= left)
 {kn : aJb -> aJb -> aJb -> aJb -> aJb -> aJa -> Prop}
 (hK : ∀ w', WrS w' w0 pc lo pw log sv ps (B ++ LB left (p + 1).toNat) -> kn (.pointer (some ⟨pc, 0, none⟩)) (.pointer (some ⟨pw, 0, none⟩)) (.int .i64 left) (.int .i64 i) (.int .i64 p) w') :
 zQ kn (.pointer (some ⟨pc, 0, none⟩)) (.pointer (some ⟨pw, 0, none⟩)) (.int .i64 left) (.int .i64 i) w := by
 unfold zQ
 have hi : i < ps.length := by
  rcases aHd i ps.length with h' | h'
  .exact h'
  .rw [aHa h'] at hg; cases hg
 have hsl := h.sl.ext h.hx (cD _)
 obtain ⟨b', off', c', hv, _, hcell⟩ := hsl.openI (by omega)
 have g1 := hcell i hi
 rw [aGX hi] at hg
 rw [aG8 hg] at g1
 have hoc := h.oc
 subst hv
 have c1 := hoc.cell (off := 1)
 simp only [aGQ, aGR] at c1
 obtain ⟨m, hm, hm1, hm2, hf1, hf2, hf3⟩ := aeH h0 h1
 have e1 : (left : Int) + 1 = ((left + 1 : Nat) : Int) := by omega
 simp (disch := omega) only [aC, bK, aGP, bM, e1, aT, aA, lD, hJ, cL, c1, aI, dJ, aGO, bZ, g1, fW]
 refine (aCy (x := left + 1) (by omega) w).mono ?_
 rintro r w1 ⟨rfl, rfl⟩
 rw [hm]
 obtain ⟨v, hv⟩ : ∃ v : Nat, p + 1 = (v : Int) := ⟨(p + 1).toNat, by omega⟩
 have hvt : (p + 1).toNat = v := by omega
 rw [hvt] at hK
 have hvl : v <= left + 1 := by omega
 have hsh1 := arC (n := m + 1) (by omega)
 have hsh0 := arC (n := m) (by omega)
 have e2 : ((m + 1 : Nat) : Int) - 1 = (m : Int) := by omega
 have hp : 2 ^ m <= 2 ^ 16 := aG0 (by omega) hm2
 unfold LB at hK
 simp only [hm, aHK] at hK
 rw [hf3] at *
 generalize hq : 2 ^ m = q at *
 have e3 : ((2 * q : Nat) : Int) - 2 - (left : Int) = ((2 * q - 2 - left : Nat) : Int) := by omega
 by_cases hfr : v < 2 * q - 2 - left
 .have d1 : decide ((v : Int) < ((2 * q - 2 - left : Nat) : Int)) = true := by simp only [decide_eq_true_eq]; omega
  rw [if_pos hfr] at hK
  simp (disch := omega) only [mE, aGO, hsh1, hv, dZ, e2, aT, aA, aX, e3, d1, bM, fW, hJ, aF]
  refine (PG (n := m) (x := v) h.hw (by omega) (by omega) (by omega)).mono ?_
  rintro r w2 ⟨rfl, hw2, x2⟩
  exact hK w2 (h.put hw2 x2)
 .have d1 : decide ((v : Int) < ((2 * q - 2 - left : Nat) : Int)) = false := by simp only [decide_eq_false_iff_not]; omega
  rw [if_neg hfr] at hK
  by_cases h2 : v < q
  .have d2 : decide ((v : Int) < (q : Int)) = true := by simp only [decide_eq_true_eq]; omega
   rw [if_pos h2] at hK
   simp (disch := omega) only [mE, aGO, hsh1, hv, dZ, e2, aT, aA, hsh0, aX, d2, aF, e3, d1, aE]
   refine (PG (n := m + 1) (x := v) h.hw (by omega) (by omega) (by omega)).mono ?_
   rintro r w2 ⟨rfl, hw2, x2⟩
   exact hK w2 (h.put hw2 x2)
  .have d2 : decide ((v : Int) < (q : Int)) = false := by simp only [decide_eq_false_iff_not]; omega
   have e4 : (v : Int) + ((2 * q - 2 - left : Nat) : Int) = ((v + (2 * q - 2 - left) : Nat) : Int) := by omega
   rw [if_neg h2] at hK
   simp (disch := omega) only [mE, aGO, hsh1, hv, dZ, e2, aT, aA, hsh0, aX, d2, aE, e3, d1, bM, e4, fW, hJ]
   refine (PG (n := m + 1) (x := v + (2 * q - 2 - left)) h.hw (by omega) (by omega) (by omega)).mono ?_
   rintro r w2 ⟨rfl, hw2, x2⟩
   exact hK w2 (h.put hw2 x2)
theorem aBf {w w0 : aJa} {pc lo pw log left i k : Nat} {sv : aJb} {ps : List Int} {B : List Bool} (h : WrS w w0 pc lo pw log sv ps B) (hl : ps.length <= 1000000) (hz : ∀ j, j < k -> ps[i + 1 + j]? = some 0) (hy : ∃ y, ps[i + 1 + k]? = some y /\ y ≠ 0)
 {k3 : aJb -> aJb -> aJb -> aJb -> aJb -> aJa -> Prop}
 (hK : k3 (.pointer (some ⟨pc, 0, none⟩)) (.pointer (some ⟨pw, 0, none⟩)) (.int .i64 left) (.int .i64 i) (.int .i64 k) w) :
 zP k3 (.pointer (some ⟨pc, 0, none⟩)) (.pointer (some ⟨pw, 0, none⟩)) (.int .i64 left) (.int .i64 i) (.int .i64 0) w := by
 unfold zP
 have lt : ∀ {j : Nat} {y : Int}, ps[j]? = some y -> j < ps.length := fun {j y} h => by
  rcases aHd j ps.length with h' | h'
  .exact h'
  .rw [aHa h'] at h; cases h
 obtain ⟨y, hy, hyn⟩ := hy
 have hyl := lt hy
 have hsl := h.sl.ext h.hx (cD _)
 obtain ⟨b', off', c', hv, _, hcell⟩ := hsl.openI (by omega)
 have hoc := h.oc
 subst hv
 have c1 := hoc.cell (off := 1)
 simp only [aGQ, aGR] at c1
 refine cG.rule (fun m (t : aJb) w' => ∃ j : Nat, m = k - j /\ t = .int .i64 j /\ j <= k /\ w' = w) k ⟨0, rfl, rfl, by omega, rfl⟩ ?_
 rintro m t w1 ⟨j, rfl, rfl, hj, rfl⟩
 unfold zR
 have e1 : (i : Int) + 1 + (j : Int) = ((i + 1 + j : Nat) : Int) := by omega
 by_cases hlt : j < k
 .have g0 := hz j hlt
  have hl0 := lt g0
  have g1 := hcell (i + 1 + j) hl0
  rw [aGX hl0] at g0
  rw [aG8 g0] at g1
  have n1 : ((0 : Int) == 0) = true := rfl
  simp (disch := omega) only [aC, bK, aGP, bM, aT, aA, e1, cL, c1, aI, dJ, aGO, bZ, g1, cW, n1, and_true, aF]
  exact ⟨k - (j + 1), by omega, j + 1, rfl, rfl, by omega⟩
 .obtain rfl : j = k := by omega
  have g1 := hcell (i + 1 + j) hyl
  rw [aGX hyl] at hy
  rw [aG8 hy] at g1
  have n1 : (y == 0) = false := by simpa using hyn
  simp (disch := omega) only [aC, bK, aGP, bM, aT, aA, e1, cL, c1, aI, dJ, aGO, bZ, g1, cW, n1, and_true, aE]
  exact hK
theorem aB2 {w w0 : aJa} {pc lo pw log left i k : Nat} {sv : aJb} {ps : List Int} {B : List Bool} (h : WrS w w0 pc lo pw log sv ps B) (hB : B.length <= 1000000) (hk : k <= 1000000)
 {kn : aJb -> aJb -> aJb -> aJb -> aJa -> Prop}
 (hK : ∀ w', WrS w' w0 pc lo pw log sv ps (B ++ noW k) -> kn (.pointer (some ⟨pc, 0, none⟩)) (.pointer (some ⟨pw, 0, none⟩)) (.int .i64 left) (.int .i64 i) w') :
 Ba kn (.pointer (some ⟨pc, 0, none⟩)) (.pointer (some ⟨pw, 0, none⟩)) (.int .i64 left) (.int .i64 i) (.int .i64 k) w := by
 unfold Ba Hi HY
 refine cG.rule (fun m (t : aJb) w' => ∃ C : List Bool, t = .int .i64 m /\ m <= k /\ C ++ noW m = B ++ noW k /\ C.length <= 1000000 + 2 * (k - m) /\ WrS w' w0 pc lo pw log sv ps C) k ⟨B, rfl, aGZ _, rfl, by omega, h⟩ ?_
 rintro m t w1 ⟨C, rfl, hm, hC, hCl, h1⟩
 unfold AR
 rw [noW] at hC
 by_cases h3 : m < 3
 .have d1 : decide ((3 : Int) <= (m : Int)) = false := by simp; omega
  rw [dif_pos h3] at hC
  unfold A0
  simp (disch := omega) only [aC, pD, d1, dZ, aT, aA, fW, hJ, aE]
  refine (PG (n := 2) (x := m) h1.hw (by omega) (by omega) (by omega)).mono ?_
  rintro r w2 ⟨rfl, hw2, x2⟩
  rw [hC] at hw2
  exact hK w2 (h1.put hw2 x2)
 .have d1 : decide ((3 : Int) <= (m : Int)) = true := by simp; omega
  rw [dif_neg h3] at hC
  simp (disch := omega) only [aC, pD, d1, dZ, aT, aA, aF]
  refine (PG (n := 2) (x := 3) h1.hw (by omega) (by omega) (by omega)).mono ?_
  rintro r w2 ⟨rfl, hw2, x2⟩
  have e1 : (m : Int) - 3 = ((m - 3 : Nat) : Int) := by omega
  simp (disch := omega) only [e1]
  refine ⟨m - 3, by omega, C ++ gC 3 2, rfl, by omega, by rw [aG2]; exact hC, ?_, h1.put hw2 x2⟩
  rw [aGY, dH]; omega
theorem azA {w w0 : aJa} {pc lo pw log : Nat} {sv : aJb} {ps : List Int} (hm : Sw log ps) (h : WrS w w0 pc lo pw log sv ps (gC (log - 5) 4)) {RR : aJb -> aJa -> Prop}
 (hR : ∀ w' pw, WrS w' w0 pc lo pw log sv ps (Im log ps) -> vM RR (.pointer (some ⟨pw, 0, none⟩)) w') :
 zM RR (.pointer (some ⟨pc, 0, none⟩)) (.pointer (some ⟨pw, 0, none⟩)) (.int .i64 (2 ^ log : Nat)) w := by
 have hlen := hm.len256
 have h15 := hm.log15
 have hp15 : 2 ^ log <= 2 ^ 15 := aG0 (by omega) h15
 have hD := adB hm
 have hpow : ((2 ^ log : Nat) : Int) = (2 : Int) ^ log := by simp
 generalize hDe : Im log ps = D at *
 unfold zM Ed Ei Ev EX
 refine cG.rule (fun m (t : aJb × aJb) w' => ∃ (i left g : Nat) (B : List Bool), m = ps.length - i /\ t = (.int .i64 left, .int .i64 i) /\ i <= ps.length /\ ps.length - i <= g /\ rE (ps.drop i) = left /\ left <= 32768 /\ B ++ XF g left (ps.drop i) = D /\ WrS w' w0 pc lo pw log sv ps B) ps.length
  ⟨0, 2 ^ log, ps.length, _, rfl, rfl, by omega, by omega, by rw [aGT, hm.sum, hpow], by omega, by rw [aGT]; exact hDe, h⟩ ?_
 rintro m t w1 ⟨i, left, g, B, rfl, rfl, hi, hg, hs, hleft, hB, h1⟩
 have hBl : B.length <= 6000 := by rw [<- hB, aGY] at hD; omega
 have hoc := h1.oc
 obtain ⟨sa, sc, hsv, _⟩ := h1.sl.lenI
 have hsv' := hsv
 subst hsv'
 have c1 := hoc.cell (off := 1)
 simp only [aGQ, aGR] at c1
 unfold zT EE
 by_cases hlt : i < ps.length
 .have d1 : decide ((i : Int) < (ps.length : Int)) = true := by simp; omega
  have hdrop : ps.drop i = ps[i] :: ps.drop (i + 1) := aHn hlt
  have hlo' : ∀ p ∈ ps.drop i, -1 <= p := fun p hp => hm.low p (aI7 hp)
  have hlast : ∀ j, j < ps.length -> (ps.drop j).getLast? ≠ some 0 := fun j hj => by
   rw [List.getLast?_drop, if_neg (by omega)]; exact hm.last
  have hpos : 0 < rE (ps.drop i) := aDM hlo' (fun h => by have := List.drop_eq_nil_iff.1 h; omega) (hlast i hlt)
  have hp0 := hm.low _ (aG7 hlt)
  have hpi := aGX hlt
  generalize ps[i] = p at *
  rw [hdrop, wD] at hs hpos
  have hlo2 : ∀ p ∈ ps.drop (i + 1), -1 <= p := fun p hp => hm.low p (aI7 hp)
  have hn := F7 hlo2
  have hpn := lK hp0
  have hple : p <= cR p := by unfold cR; split <;> omega
  obtain ⟨g, rfl⟩ : ∃ g', g = g' + 1 := ⟨g - 1, by omega⟩
  unfold Ej Eu Pl
  simp (disch := omega) only [aC, bK, aGP, aA, cL, c1, aI, eA, aX, d1, aF]
  refine aBO (left := left) (i := i) h1 (by omega) (by omega) hleft hpi hp0 (by omega) fun w2 h2 => ?_
  unfold ER EZ
  refine (akD _ _).mono ?_
  rintro r w3 ⟨rfl, rfl⟩
  obtain ⟨pq, hpq⟩ : ∃ pq : Nat, cR p = pq := ⟨(cR p).toNat, by omega⟩
  rw [hpq] at hs hpn hple ⊢
  have e1 : (left : Int) - (pq : Int) = ((left - pq : Nat) : Int) := by omega
  have e2 : (i : Int) + 1 = ((i + 1 : Nat) : Int) := by omega
  by_cases h0 : p = 0
  .subst h0
   have n1 : ((0 : Int) != 0) = false := rfl
   obtain rfl : pq = 0 := by
    have : cR 0 = 0 := rfl
    omega
   have hne : ps.drop (i + 1) ≠ [] := by
    intro he
    rw [he] at hpos
    exact absurd hpos (by decide)
   have hlt2 : i + 1 < ps.length := by
    rcases aHd (i + 1) ps.length with h | h
    .exact h
    .exact absurd (List.drop_eq_nil_of_le h) hne
   have hz1 := fun j => alS (ps := ps.drop (i + 1)) (j := j)
   have hz2 := fun y => aqA (ps := ps.drop (i + 1)) (y := y)
   have hz3 := aDd (hlast (i + 1) hlt2) hne
   have hrep := VM (ps.drop (i + 1))
   have hW : XF (g + 1) left (0 :: ps.drop (i + 1)) = LB left 1 ++ (noW ((ps.drop (i + 1)).takeWhile (· == 0)).length ++ XF g left ((ps.drop (i + 1)).drop ((ps.drop (i + 1)).takeWhile (· == 0)).length)) := by rw [XF, if_pos rfl]
   rw [hdrop, hW] at hB
   generalize ((ps.drop (i + 1)).takeWhile (· == 0)).length = k at *
   rw [aHh] at hz3
   simp only [aIa] at hz1 hz2
   have hsum : rE (ps.drop (i + 1 + k)) = left := by
    have : rE (ps.drop (i + 1)) = rE (List.replicate k 0) + rE ((ps.drop (i + 1)).drop k) := by
     conv => lhs; rw [hrep]
     rw [Gq]
    rw [PM, List.drop_drop] at this
    have e0 : cR 0 = 0 := rfl
    omega
   have h2' : WrS w3 w0 pc lo pw log (.slice sa ps.length sc) ps (B ++ LB left 1) := h2
   rw [List.drop_drop] at hB
   have hl1 : (B ++ LB left 1).length <= 6000 := by
    have := congrArg List.length hB
    simp only [aGY] at this ⊢
    omega
   have e3 : (left : Int) - ((0 : Nat) : Int) = (left : Int) := by omega
   unfold Ee Ez
   simp (disch := omega) only [aC, dZ, e3, aT, eT, n1, aA, aE]
   refine aBf (left := left) (k := k) h2' (by omega) hz1 ⟨_, aGX (show i + 1 + k < ps.length by omega), hz2 _ (aGX (by omega))⟩ ?_
   unfold He HQ
   have e4 : (i : Int) + (k : Int) = ((i + k : Nat) : Int) := by omega
   simp (disch := omega) only [aC, bM, e4, aT, aA]
   refine aB2 (left := left) (i := i + k) h2' (by omega) (by omega) fun w4 h4 => ?_
   unfold vX
   have e5 : ((i + k : Nat) : Int) + 1 = ((i + 1 + k : Nat) : Int) := by omega
   simp (disch := omega) only [aC, bM, e5, aT, aA]
   exact ⟨ps.length - (i + 1 + k), by omega, i + 1 + k, left, g, _, rfl, rfl, by omega, by omega, hsum, hleft, by rw [<- hB]; simp [aG2], h4⟩
  .have n1 : (p != 0) = true := by simpa using h0
   have hW : XF (g + 1) left (p :: ps.drop (i + 1)) = LB left (p + 1).toNat ++ XF g (left - pq) (ps.drop (i + 1)) := by rw [XF, if_neg h0, hpq, aGO]
   rw [hdrop, hW, <- aG2] at hB
   unfold vX
   simp (disch := omega) only [aC, dZ, e1, aT, eT, n1, bM, e2, aA, aF]
   exact ⟨ps.length - (i + 1), by omega, i + 1, left - pq, g, _, rfl, rfl, by omega, by omega, by omega, by omega, hB, h2⟩
 .have d1 : decide ((i : Int) < (ps.length : Int)) = false := by simp; omega
  have hnil : ps.drop i = [] := List.drop_eq_nil_of_le (by omega)
  have hB : B = D := by
   rw [hnil] at hB
   cases g with
   | zero => simpa [XF] using hB
   | succ g => simpa [XF] using hB
  rw [hB] at h1
  simp (disch := omega) only [aC, bK, aGP, aA, cL, c1, aI, eA, aX, d1, aE]
  exact hR w1 pw h1
theorem auS {log : Nat} {sv : aJb} {ps : List Int} {w : aJa} (hm : Sw log ps) (hs : Sl w sv (ps.map (Value.int .i64))) :
 aR pg CK #[.agg #[.int .i64 log, sv]] w (fun r w' => ∃ bytes v, r = .tuple #[v, .int .i64 0] /\ aaI (Im log ps) bytes /\ sN w' w.heap.size 1 v bytes.length (bytes.map FQ) /\ aS w w' cM) := by
 refine YX ?_
 have hlen := hm.len256
 have h15 := hm.log15
 have h5 := hm.log5
 unfold X2 Ew Ex
 refine fY fun w1 o1 x1 s1 => ?_
 simp only [Value.cells] at o1
 have l1 := gG o1 (off := 0) (by simp)
 simp only [aGT, aGN, aGV] at l1
 simp (disch := omega) only [aC, l1, dK, aA, bZ]
 refine (aEs (hs.ext x1 (cD _)) (by omega)).mono ?_
 rintro r w2 ⟨rfl, x2⟩
 rw [hm.b]
 have z1 := x1.size
 have z2 := x2.size
 simp (disch := omega) only [Il, aHB, aA, aE]
 refine (atV w2).mono ?_
 rintro r w3 ⟨rfl, hlt, hw3, x3⟩
 have z3 := x3.size
 have o13 := (o1.ext x2 (fun h => h)).ext x3 (fun h => h)
 have c0 := o13.cell (off := 0)
 simp only [aGQ, aGR] at c0
 have e1 : (log : Int) - 5 = ((log - 5 : Nat) : Int) := by omega
 simp (disch := omega) only [c0, aI, aA, dZ, e1, aT, fW, hJ]
 refine (PG (n := 4) (x := log - 5) hw3 (by omega) (by omega) (by simp)).mono ?_
 rintro r w4 ⟨rfl, hw4, x4⟩
 have o14 := o13.ext x4 (by omega)
 have c04 := o14.cell (off := 0)
 simp only [aGQ, aGR] at c04
 have hsh := arC (n := log) (by omega)
 simp (disch := omega) only [c04, aI, aA, mE, aGO, hsh]
 have x04 : aS w w4 cM := ((x1.seq x2).seq x3).trans x4 fun b hb h => by omega
 refine azA (lo := w2.heap.size) (pw := w2.heap.size) hm ⟨o14, hs, hw4, by omega, x04, by omega⟩ ?_
 intro w5 pw h5
 have hD := adB hm
 unfold vM
 refine (aF4 h5.hw (by omega)).mono ?_
 rintro r w6 ⟨bytes, hh, ho, x6⟩
 refine ⟨bytes, r, rfl, hh, ⟨ho.1, ?_⟩, h5.hx.seq x6⟩
 have := h5.hx.size
 rcases ho.2 with h | ⟨b, c, rest, q1, q2, q3⟩
 .exact .inl h
 .exact .inr ⟨b, c, rest, q1, by omega, q3⟩
def aqZ (log : Int) (ns : List Nat) : Bool := decide (5 <= log /\ log <= 15 /\ ns.length <= 256 /\ 2 <= ns.countP iQ /\ ns.countP iQ <= 2 ^ log.toNat /\ ns.sum <= 2147483647)
theorem aCC {ov t4 : aJb} {log : Int} {ns : List Nat} {w : aJa} (hs : Sl w ov (ns.map fun (n : Nat) => Value.int .u32 n)) (hn : ∀ n ∈ ns, n <= 4294967295) (hl : ns.length <= 300) {RR : aJb -> aJa -> Prop}
 (hK : ∀ last, Q4 ns ns.length last -> Fw RR ov (.int .i64 log) t4 (.int .u64 ns.sum) (.int .i64 (ns.countP iQ : Nat)) (.int .i64 last) w) :
 FF RR ov (.int .i64 log) t4 (.int .u64 0) (.int .i64 0) (.int .i64 0) w := by
 unfold FF Mz MG
 obtain ⟨a, c, hv, hc⟩ := hs.len
 rw [aG1] at hv
 subst hv
 simp (disch := omega) only [aC, fU, aA]
 unfold Nr NR
 refine cG.rule (fun m (t : aJb × aJb × aJb × aJb) w' => ∃ i last : Nat, m = ns.length - i /\ t = (.int .u64 (ns.take i).sum, .int .i64 ((ns.take i).countP iQ : Nat), .int .i64 last, .int .i64 i) /\ i <= ns.length /\ Q4 ns i last /\ last <= i /\ w' = w) ns.length
  ⟨0, 0, rfl, by simp, by omega, .inl ⟨rfl, fun j h => by omega⟩, by omega, rfl⟩ ?_
 rintro m t w1 ⟨i, last, rfl, rfl, hi, hla, hli, rfl⟩
 unfold FL Nm
 by_cases hlt : i < ns.length
 .have d1 : decide ((i : Int) < (ns.length : Int)) = true := by simp; omega
  obtain ⟨b, off, rfl, hcell⟩ := slA hs (by omega)
  have g1 := hcell i hlt
  rw [aHg, aGX hlt, <- mC hlt] at g1
  simp only [aHz] at g1
  have hni : ns.getD i 0 <= 4294967295 := by rw [mC hlt]; exact hn _ (aG7 hlt)
  have hsl := azF (B := 4294967295) (l := ns.take i) fun n hn' => hn n (aI9 hn')
  rw [aG4, aHG (by omega)] at hsl
  have hsl2 : i * 4294967295 <= 300 * 4294967295 := aHt _ (by omega)
  have hct : (ns.take i).countP iQ <= i := by
   have := aIJ (l := ns.take i) (p := iQ)
   rw [aG4] at this; omega
  have hsum : (ns.take (i + 1)).sum = (ns.take i).sum + ns.getD i 0 := by rw [PJ hlt, aIR]; simp
  have hcnt : (ns.take (i + 1)).countP iQ = (ns.take i).countP iQ + (if 0 < ns.getD i 0 then 1 else 0) := by
   rw [PJ hlt, List.countP_append, List.countP_singleton]
   unfold iQ; simp only [decide_eq_true_eq]
  have hstep := hla.step
  generalize ns.getD i 0 = n at *
  have e1 : (((ns.take i).sum : Nat) : Int) + (n : Int) = (((ns.take i).sum + n : Nat) : Int) := by omega
  by_cases h0 : 0 < n
  .have d2 : decide ((0 : Int) < (n : Int)) = true := by simp; omega
   rw [if_pos h0] at hcnt hstep
   unfold AH
   simp (disch := omega) only [aC, aX, d1, uO, aGO, bM, aT, aA, tL, g1, aI, nI, hJ, dP, d2, aF, e1, and_true]
   exact ⟨ns.length - (i + 1), by omega, i + 1, i, rfl, by rw [hsum, hcnt] <;> rfl, by omega, hstep, by omega⟩
  .have d2 : decide ((0 : Int) < (n : Int)) = false := by simp; omega
   rw [if_neg h0] at hcnt hstep
   unfold AH
   simp (disch := omega) only [aC, aX, d1, uO, aGO, bM, aT, aA, tL, g1, aI, nI, hJ, dP, d2, aE, e1, and_true, aF]
   exact ⟨ns.length - (i + 1), by omega, i + 1, last, rfl, by rw [hsum, hcnt] <;> rfl, by omega, hstep, by omega⟩
 .have d1 : decide ((i : Int) < (ns.length : Int)) = false := by simp; omega
  obtain rfl : i = ns.length := by omega
  rw [aHk (aGZ _)]
  simp (disch := omega) only [aC, aX, d1, bM, aA, aE]
  exact hK last hla
def abU (R S last i : Nat) (ns : List Nat) : List Nat := (ns.take i).map (qU R S) ++ List.replicate (last + 1 - i) 0
theorem Tq {R S last i : Nat} {ns : List Nat} (h : i <= last + 1) (hl : last < ns.length) : (abU R S last i ns).length = last + 1 := by
 unfold abU; rw [aGY, aG1, aG4, aH9]; omega
theorem Zx {R S last i j : Nat} {ns : List Nat} (h : i <= last + 1) (hl : last < ns.length) (hj : j <= last) : (abU R S last i ns)[j]? = some (if j < i then qU R S (ns.getD j 0) else 0) := by
 unfold abU
 by_cases hji : j < i
 .rw [aG6 (by rw [aG1, aG4]; omega), aHg, aHr hji, aGX (by omega), if_pos hji, mC (by omega)] <;> rfl
 .rw [aHy (by rw [aG1, aG4]; omega), aIy, if_pos (by rw [aG1, aG4]; omega), if_neg hji]
theorem auI {R S last i : Nat} {ns : List Nat} (h : i <= last) (hl : last < ns.length) : (abU R S last i ns).set i (qU R S (ns.getD i 0)) = abU R S last (i + 1) ns := by
 unfold abU
 have hm : ((ns.take i).map (qU R S)).length = i := by rw [aG1, aG4]; omega
 rw [aIr _ _ (by omega), hm, aIp, show last + 1 - i = (last + 1 - (i + 1)) + 1 from by omega, aHO, aGS, PJ (by omega), aHw, aG2] <;> rfl
theorem aBh {R S last i : Nat} {ns : List Nat} (h : i <= last) (hl : last < ns.length) (h0 : ns.getD i 0 = 0) : abU R S last (i + 1) ns = abU R S last i ns := by
 rw [<- auI h hl, h0]
 have hp : qU R S 0 = 0 := by simp [qU]
 rw [hp]
 apply aIY
 intro j
 rw [List.getElem?_set]
 split
 .rename_i hj
  subst hj
  rw [if_pos (by rw [Tq (by omega) hl]; omega), Zx (by omega) hl h, if_neg (by omega)]
 .rfl
abbrev pnC (R S last i : Nat) (ns : List Nat) : List aJb := (abU R S last i ns).map fun (n : Nat) => Value.int .i64 n
theorem aCD {pc pb log there last : Nat} {ov t4 : aJb} {ns : List Nat} {w : aJa} (hs : Sl w ov (ns.map fun (n : Nat) => Value.int .u32 n)) (hn : ∀ n ∈ ns, n <= 4294967295) (hl : last < ns.length) (hl2 : ns.length <= 256) (hlog : log <= 15) (hth : there <= 2 ^ log) (hS0 : 0 < ns.sum) (hS : ns.sum <= 2147483647)
 (hlast : 0 < ns.getD last 0) (oc : cJ w pc [.int .i64 log, .slice (some ⟨pb, 0, none⟩) (last + 1) (last + 1)]) (ob : cJ w pb (pnC (2 ^ log - there) ns.sum last 0 ns)) (hne : pc ≠ pb) (hat : ¬ inB ov (fun y => y = pb)) {RR : aJb -> aJa -> Prop}
 (hK : ∀ (left gr : Nat) w', left + ((ns.take (last + 1)).map (rO (2 ^ log - there) ns.sum)).sum = 2 ^ log - there -> gr <= last -> 0 < ns.getD gr 0 -> cJ w' pb (pnC (2 ^ log - there) ns.sum last (last + 1) ns) -> aS w w' (fun y => y = pb) -> DB RR t4 (.pointer (some ⟨pc, 0, none⟩)) (.int .i64 left) (.int .i64 gr) w') :
 IP RR ov (.int .i64 log) t4 (.int .u64 ns.sum) (.int .i64 there) (.int .i64 last) (.pointer (some ⟨pc, 0, none⟩)) (.int .i64 (2 ^ log - there : Nat)) (.int .i64 last) w := by
 have hp15 : 2 ^ log <= 2 ^ 15 := aG0 (by omega) hlog
 obtain ⟨a, c, hv, hc⟩ := hs.len
 rw [aG1] at hv hc
 subst hv
 obtain ⟨b0, off0, rfl, hcell⟩ := slA hs (by omega)
 have hsub : Sl w (.slice (some ⟨b0, off0, none⟩) (last + 1) c) ((ns.map fun (n : Nat) => Value.int .u32 n).take (last + 1)) := aB9 hs (by omega)
 have hshl := arC (n := log) (by omega)
 generalize hR : 2 ^ log - there = R at *
 have hRl : R <= 32768 := by omega
 generalize hSe : ns.sum = S at *
 unfold IP QL P6
 have e1 : (last : Int) + 1 = ((last + 1 : Nat) : Int) := by omega
 have e2 : iO (some ⟨b0, off0, none⟩) c 0 1 = some ⟨b0, off0, none⟩ := by have := ayR (b := b0) (o := off0) (m := c) (l := 0) (by omega); simpa using this
 simp (disch := omega) only [aC, bM, e1, aT, aA, GZ, e2, aGO, aIU, fU]
 unfold QX QE
 have hmsum : ∀ i, i <= ns.length -> ((ns.take i).map (rO R S)).sum <= R := fun i hi => by
  refine agK ?_ hS0
  have : ns.sum = (ns.take i).sum + (ns.drop i).sum := by rw [<- aIR, aIh]
  omega
 refine cG.rule (fun m (t : aJb × aJb × aJb) w' => ∃ left gr i : Nat, m = last + 1 - i /\ t = (.int .i64 left, .int .i64 gr, .int .i64 i) /\ i <= last + 1 /\ left + ((ns.take i).map (rO R S)).sum = R /\ gr <= last /\ 0 < ns.getD gr 0 /\ cJ w' pb (pnC R S last i ns) /\ aS w w' (fun y => y = pb)) (last + 1)
  ⟨R, last, 0, rfl, rfl, by omega, by simp, by omega, hlast, ob, aS.refl _ _⟩ ?_
 rintro m t w1 ⟨left, gr, i, rfl, rfl, hi, hleft, hgr, hgr0, ob1, x1⟩
 unfold IY Qr
 by_cases hlt : i < last + 1
 .have d1 : decide ((i : Int) < ((last + 1 : Nat) : Int)) = true := by simp only [decide_eq_true_eq]; omega
  have hs1 := hs.ext x1 hat
  obtain ⟨b1, off1, he, hcell1⟩ := slA hs1 (by omega)
  cases he
  have g1 := hcell1 i (by omega)
  rw [aHg, aGX (by omega), <- mC (by omega)] at g1
  simp only [aHz] at g1
  have hni : ns.getD i 0 <= 4294967295 := by rw [mC (by omega)]; exact hn _ (aG7 (by omega))
  have hmore : ((ns.take (i + 1)).map (rO R S)).sum = ((ns.take i).map (rO R S)).sum + rO R S (ns.getD i 0) := by rw [PJ (by omega), aHw, aIR]; simp
  have hml := hmsum (i + 1) (by omega)
  have hset := auI (R := R) (S := S) (i := i) (by omega) hl
  have hzero := aBh (R := R) (S := S) (i := i) (by omega) hl
  have hgi := Zx (R := R) (S := S) (i := i + 1) (j := i) (by omega) hl (by omega)
  have hgg := Zx (R := R) (S := S) (i := i + 1) (j := gr) (by omega) hl hgr
  have hpl := Tq (R := R) (S := S) (i := i) (by omega) hl
  rw [if_pos (by omega)] at hgi
  unfold IF
  generalize hgrv : (if gr < i + 1 then qU R S (ns.getD gr 0) else 0) = pv at *
  generalize hnv : ns.getD i 0 = n at *
  by_cases h0 : n = 0
  .subst h0
   have n1 : (((0 : Nat) : Int) == 0) = true := rfl
   have hm0 : rO R S 0 = 0 := by simp [rO]
   rw [hm0] at hmore
   simp (disch := omega) only [aC, aX, d1, uO, aGO, bM, aT, aA, mE, bK, aGP, true_and, cL, dZ, fW, hJ, tL, g1, aI, cW, n1, nI, pH, DU, cZ, aF]
   exact ⟨last + 1 - (i + 1), by omega, left, gr, i + 1, rfl, rfl, by omega, by omega, hgr, hgr0, by unfold pnC; rw [hzero rfl]; exact ob1, x1⟩
  .have n1 : ((n : Int) == 0) = false := beq_eq_false_iff_ne.2 (by omega)
   have e3 : ((2 ^ log : Nat) : Int) - (there : Int) = (R : Int) := by omega
   have hnR : n * R <= 4294967295 * 32768 := Nat.mul_le_mul hni hRl
   have e4 : (n : Int) * (R : Int) = ((n * R : Nat) : Int) := by simp
   have e5 : ((n * R : Nat) : Int).tdiv (S : Int) = ((rO R S n : Nat) : Int) := by
    rw [aHj (by omega)]; unfold rO; simp
   have n2 : ((S : Int) == 0) = false := beq_eq_false_iff_ne.2 (by omega)
   have hp : qU R S n = 1 + rO R S n := by unfold qU rO; rw [if_neg h0]
   have hml2 : rO R S n <= R := by omega
   rw [hp] at hset hgi
   have c1 := (oc.ext x1 hne).cell (off := 1)
   simp only [aGQ, aGR] at c1
   generalize rO R S n = q at *
   have e6 : (1 : Int) + (q : Int) = ((1 + q : Nat) : Int) := by omega
   have e7 : (left : Int) - (q : Int) = ((left - q : Nat) : Int) := by omega
   simp (disch := omega) only [aC, aX, d1, uO, aGO, bM, aT, aA, mE, hshl, bK, aGP, true_and, cL, dZ, e3, fW, hJ, tL, g1, aI, cW, n1, nI, pH, e4, DU, e5, cZ, e6, c1, dJ, aE, aF]
   refine sH ob1 rfl (by rw [aG1, hpl]; omega) fun w2 ob2 x2 s2 => ?_
   have hset2 : (pnC R S last i ns).set i (.int .i64 (1 + q : Nat)) = pnC R S last (i + 1) ns := by unfold pnC; rw [<- hset, aIq]
   rw [hset2] at ob2
   have x12 := x1.seq x2
   have c2 := (oc.ext x12 hne).cell (off := 1)
   have c2d := (dO (oc.ext x12 hne)).cell (off := 1)
   simp only [aGQ, aGR] at c2 c2d
   have f1 := (dO ob2).cell (off := i)
   have f2 := (dO ob2).cell (off := gr)
   unfold pnC at f1 f2
   rw [aHg, hgi] at f1
   rw [aHg, hgg] at f2
   simp only [aHz] at f1 f2
   have hpv : pv <= 1 + R := by
    rw [<- hgrv]
    split
    .unfold qU
     split
     .omega
     .have h1 : rO R S (ns.getD gr 0) <= R := by
       refine aHS ?_ (hmsum ns.length (aGZ _))
       rw [aHk (aGZ _)]
       have : rO R S (ns.getD gr 0) ∈ ns.map (rO R S) := aHH.2 ⟨_, by rw [mC (by omega)]; exact aG7 _, rfl⟩
       exact arJ this
      unfold rO at h1
      omega
    .omega
   have x13 : aS w (dr w2) (fun y => y = pb) := x12.seq (aS.dr _ _)
   by_cases hbig : pv < 1 + q
   .have d2 : decide ((pv : Int) < ((1 + q : Nat) : Int)) = true := by simp only [decide_eq_true_eq]; omega
    simp (disch := omega) only [c2d, aI, e7, aA, dJ, aGO, aGP, bZ, f2, true_and, f1, dP, d2, aF]
    exact ⟨last + 1 - (i + 1), by omega, left - q, i, i + 1, rfl, rfl, by omega, by omega, by omega, by omega, dO ob2, x13⟩
   .have d2 : decide ((pv : Int) < ((1 + q : Nat) : Int)) = false := by simp only [decide_eq_false_iff_not]; omega
    simp (disch := omega) only [c2d, aI, e7, aA, dJ, aGO, aGP, bZ, f2, true_and, f1, dP, d2, aE]
    exact ⟨last + 1 - (i + 1), by omega, left - q, gr, i + 1, rfl, rfl, by omega, by omega, hgr, hgr0, dO ob2, x13⟩
 .have d1 : decide ((i : Int) < ((last + 1 : Nat) : Int)) = false := by simp only [decide_eq_false_iff_not]; omega
  obtain rfl : i = last + 1 := by omega
  simp (disch := omega) only [aC, aX, d1, mE, aGO, bK, aGP, true_and, aA, cL, dZ, aT, fW, hJ, aE]
  exact hK left gr w1 hleft hgr hgr0 ob1 x1
theorem anB {p4 : Nat} {w0 w : aJa} (o4 : cJ w p4 [.int .i64 0, .slice none 0 0]) (hx : aS w0 w cM) (hp : w0.heap.size <= p4) {RR : aJb -> aJa -> Prop}
 (hR : ∀ w', aS w0 w' cM -> RR (.tuple #[.agg #[.int .i64 0, .slice none 0 0], .int .i64 1]) w') :
 aC pg (aJ 145 (.pointer (some ⟨p4, 0, none⟩)) (.agg #[.int .i64 0, .slice none 0 0])) w fun _u w => kC pg 145 (.pointer (some ⟨p4, 0, none⟩)) w fun r0 => RR (.tuple #[r0, .int .i64 1]) w := by
 refine eX o4 rfl (by simp [one]) (by simp) fun w6 o6 x6 s6 => ?_
 refine lE o6 (by simp [aV]) ?_
 simp only [aV, aGS, aGU, aGT, aGN, aGV]
 exact hR _ (hx.new x6 hp)
def aCl (w : aJa) (base : Nat) (log : Int) (ns : List Nat) (r : aJb) : Prop :=
 (aqZ log ns = false /\ r = .tuple #[.agg #[.int .i64 0, .slice none 0 0], .int .i64 1]) ∨
 (aqZ log ns = true /\ ∃ (l last pb : Nat) (ps : List Nat), log = l /\ Q4 ns ns.length last /\ Sw l (ps.map fun (n : Nat) => (n : Int)) /\ ps.length = last + 1 /\ last < ns.length /\ (∀ i, i < last + 1 -> (0 < ps.getD i 0 ↔ 0 < ns.getD i 0)) /\
  r = .tuple #[.agg #[.int .i64 l, .slice (some ⟨pb, 0, none⟩) (last + 1) (last + 1)], .int .i64 0] /\ base <= pb /\ cJ w pb (ps.map fun (n : Nat) => Value.int .i64 n))
theorem alA {ov : aJb} {log : Int} {ns : List Nat} {w : aJa} (hs : Sl w ov (ns.map fun (n : Nat) => Value.int .u32 n)) (hn : ∀ n ∈ ns, n <= 4294967295) (hl : ns.length <= 300) :
 aR pg B9 #[ov, .int .i64 log] w (fun r w' => aCl w' w.heap.size log ns r /\ aS w w' cM) := by
 refine amN ?_
 obtain ⟨RR, hRR⟩ : ∃ RR : aJb -> aJa -> Prop, RR = fun r w' => aCl w' w.heap.size log ns r /\ aS w w' cM := ⟨_, rfl⟩
 rw [<- hRR]
 have bad : aqZ log ns = false -> ∀ w', aS w w' cM -> RR (.tuple #[.agg #[.int .i64 0, .slice none 0 0], .int .i64 1]) w' := fun h w' hx => by
  rw [hRR]; exact ⟨.inl ⟨h, rfl⟩, hx⟩
 unfold apE MS Ny
 refine iS fun w1 o1 x1 s1 => ?_
 have z1 := x1.size
 have hs1 := hs.ext x1 (cD _)
 refine aCC hs1 hn hl fun last hlast => ?_
 unfold Fw Nv
 obtain ⟨a, c, hv, hc⟩ := hs.len
 rw [aG1] at hv hc
 subst hv
 have no : ¬ (5 <= log /\ log <= 15 /\ ns.length <= 256 /\ 2 <= ns.countP iQ /\ ns.countP iQ <= 2 ^ log.toNat /\ ns.sum <= 2147483647) -> aqZ log ns = false := fun h => by unfold aqZ; exact decide_eq_false h
 have hcl : ns.countP iQ <= ns.length := aIJ
 have hsl := azF (B := 4294967295) hn
 have hsl2 : ns.length * 4294967295 <= 300 * 4294967295 := aHt _ (by omega)
 by_cases h1 : log < 5
 .have d1 : decide (log < 5) = true := by simpa using h1
  simp (disch := omega) only [aC, aX, d1, dY, aA, bM, jE, bO, if_true, aF, dV]
  exact anB (RR := RR) o1 x1 (aGZ _) (bad (no (by omega)))
 have d1 : decide (log < 5) = false := by simpa using h1
 by_cases h2 : 15 < log
 .have d2 : decide (15 < log) = true := by simpa using h2
  simp (disch := omega) only [aC, aX, d1, dY, aA, bM, mE, dZ, dG, bO, aGW, if_false, bP, dP, d2, jE, if_true, aF, dV]
  exact anB (RR := RR) o1 x1 (aGZ _) (bad (no (by omega)))
 have d2 : decide (15 < log) = false := by simpa using h2
 by_cases h3 : ns.length < 1
 .have d3 : decide ((ns.length : Int) < 1) = true := by simp; omega
  simp (disch := omega) only [aC, aX, d1, dY, aA, bM, mE, dZ, dG, bO, aGW, if_false, bP, dP, d2, fU, d3, jE, if_true, aF, dV]
  exact anB (RR := RR) o1 x1 (aGZ _) (bad (no (by omega)))
 have d3 : decide ((ns.length : Int) < 1) = false := by simp; omega
 by_cases h4 : 256 < ns.length
 .have d4 : decide ((256 : Int) < (ns.length : Int)) = true := by simp; omega
  simp (disch := omega) only [aC, aX, d1, dY, aA, bM, mE, dZ, dG, bO, aGW, if_false, bP, dP, d2, fU, d3, d4, jE, if_true, aF, dV]
  exact anB (RR := RR) o1 x1 (aGZ _) (bad (no (by omega)))
 have d4 : decide ((256 : Int) < (ns.length : Int)) = false := by simp; omega
 by_cases h5 : ns.countP iQ < 2
 .have d5 : decide (((ns.countP iQ : Nat) : Int) < 2) = true := by simp only [decide_eq_true_eq]; omega
  simp (disch := omega) only [aC, aX, d1, dY, aA, bM, mE, dZ, dG, bO, aGW, if_false, bP, dP, d2, fU, d3, d4, d5, jE, if_true, aF, dV]
  exact anB (RR := RR) o1 x1 (aGZ _) (bad (no (by omega)))
 have d5 : decide (((ns.countP iQ : Nat) : Int) < 2) = false := by simp only [decide_eq_false_iff_not]; omega
 obtain ⟨l, rfl⟩ : ∃ l : Nat, log = l := ⟨log.toNat, by omega⟩
 have hshl := arC (n := l) (by omega)
 have hp15 : 2 ^ l <= 2 ^ 15 := aG0 (by omega) (by omega)
 rw [aGO] at no
 by_cases h6 : 2 ^ l < ns.countP iQ
 .have d6 : decide (((2 ^ l : Nat) : Int) < ((ns.countP iQ : Nat) : Int)) = true := by simp only [decide_eq_true_eq]; omega
  simp (disch := omega) only [aC, aX, d1, dY, aA, bM, mE, aGO, hshl, dZ, dG, bO, aGW, if_false, bP, dP, d2, fU, d3, d4, d5, d6, jE, if_true, aF, dV]
  exact anB (RR := RR) o1 x1 (aGZ _) (bad (no (by omega)))
 have d6 : decide (((2 ^ l : Nat) : Int) < ((ns.countP iQ : Nat) : Int)) = false := by simp only [decide_eq_false_iff_not]; omega
 by_cases h7 : 2147483647 < ns.sum
 .have d7 : decide ((2147483647 : Int) < ((ns.sum : Nat) : Int)) = true := by simp only [decide_eq_true_eq]; omega
  simp (disch := omega) only [aC, aX, d1, dY, aA, bM, mE, aGO, hshl, dZ, aT, dG, bO, aGW, if_false, bP, dP, d2, fU, d3, d4, d5, d6, d7, aF]
  exact anB (RR := RR) o1 x1 (aGZ _) (bad (no (by omega)))
 have d7 : decide ((2147483647 : Int) < ((ns.sum : Nat) : Int)) = false := by simp only [decide_eq_false_iff_not]; omega
 have hok : aqZ (l : Int) ns = true := by unfold aqZ; rw [aGO]; exact decide_eq_true (by omega)
 have hl2 : last < ns.length /\ 0 < ns.getD last 0 := by
  rcases hlast with ⟨rfl, h⟩ | ⟨q1, q2, _⟩
  .exfalso
   have : ns.countP iQ = 0 := B8 fun n hn => by
    obtain ⟨i, hi, rfl⟩ := aHl hn
    rw [<- mC hi]; exact h i hi
   omega
  .exact ⟨q1, q2⟩
 have hS0 : 0 < ns.sum := by
  have := arJ (l := ns) (n := ns.getD last 0) (by rw [mC hl2.1]; exact aG7 _)
  omega
 have e1 : (last : Int) + 1 = ((last + 1 : Nat) : Int) := by omega
 simp (disch := omega) only [aC, aX, d1, dY, aA, bM, e1, aT, mE, aGO, hshl, dZ, dG, bO, aGW, if_false, bP, dP, d2, fU, d3, d4, d5, d6, d7, aE]
 refine aqH (by omega) (by omega) fun w2 o2 x2 s2 => ?_
 rw [aGO] at o2 ⊢
 simp (disch := omega) only [mA, aA]
 refine iS fun w3 o3 x3 s3 => ?_
 refine eX o3 rfl (by simp [one]) (by simp) fun w4 o4 x4 s4 => ?_
 simp only [aV, aGS, aGU] at o4
 have z2 := x2.size
 have z3 := x3.size
 have x14 : aS w1 w4 cM := (x2.seq x3).new x4 (by omega)
 have e2 : ((2 ^ l : Nat) : Int) - ((ns.countP iQ : Nat) : Int) = ((2 ^ l - ns.countP iQ : Nat) : Int) := by omega
 have l2 := o2.lt
 have hpb : pnC (2 ^ l - ns.countP iQ) ns.sum last 0 ns = List.replicate (last + 1) (Value.int .i64 0) := by
  unfold pnC abU
  simp [aIV]
 have ob4 : cJ w4 w1.heap.size (pnC (2 ^ l - ns.countP iQ) ns.sum last 0 ns) := by
  rw [hpb]; exact (o2.ext x3 (fun h => h)).ext x4 (by omega)
 simp (disch := omega) only [e2]
 refine aCD (pc := w2.heap.size) (pb := w1.heap.size) (hs1.ext x14 (cD _)) hn hl2.1 (by omega) (by omega) (by omega) hS0 (by omega) hl2.2 o4 ob4 (by omega) (fun h => hs.old (avI h fun b hb => by omega)) fun left gr w5 hleft hgr hgr0 ob5 x5 => ?_
 unfold DB
 have o45 := o4.ext x5 (by omega)
 have c5 := o45.cell (off := 1)
 simp only [aGQ, aGR] at c5
 have hgg := Zx (R := 2 ^ l - ns.countP iQ) (S := ns.sum) (i := last + 1) (j := gr) (by omega) hl2.1 hgr
 rw [if_pos (by omega)] at hgg
 have f1 := ob5.cell (off := gr)
 unfold pnC at f1
 rw [aHg, hgg] at f1
 simp only [aHz] at f1
 obtain ⟨hmay, hofl, _, hiff⟩ := aE3 (log := l) (there := ns.countP iQ) (left := left) (gr := gr) (by omega) (by omega) (by omega) rfl (by omega) (by omega) hlast hgr hgr0 hleft
 have hpq : abU (2 ^ l - ns.countP iQ) ns.sum last (last + 1) ns = (ns.take (last + 1)).map (qU (2 ^ l - ns.countP iQ) ns.sum) := by
  unfold abU; rw [aIp]; simp
 have hgd : ((ns.take (last + 1)).map (qU (2 ^ l - ns.countP iQ) ns.sum)).getD gr 0 = qU (2 ^ l - ns.countP iQ) ns.sum (ns.getD gr 0) := by
  rw [hpq] at hgg
  rw [aG3, hgg] <;> rfl
 have hset : (pnC (2 ^ l - ns.countP iQ) ns.sum last (last + 1) ns).set gr (.int .i64 (qU (2 ^ l - ns.countP iQ) ns.sum (ns.getD gr 0) + left : Nat)) = (A3 l (ns.countP iQ) ns.sum last gr left ns).map fun (n : Nat) => Value.int .i64 n := by
  unfold pnC A3
  rw [hpq, hgd, aIq]
 have hpl := Tq (R := 2 ^ l - ns.countP iQ) (S := ns.sum) (i := last + 1) (by omega) hl2.1
 have hpb : qU (2 ^ l - ns.countP iQ) ns.sum (ns.getD gr 0) + left <= 70000 := by
  have hq := agK (R := 2 ^ l - ns.countP iQ) (S := ns.sum) (l := ns) (aGZ _) hS0
  have hq2 := arJ (n := rO (2 ^ l - ns.countP iQ) ns.sum (ns.getD gr 0)) (l := ns.map (rO (2 ^ l - ns.countP iQ) ns.sum)) (aHH.2 ⟨_, by rw [mC (by omega)]; exact aG7 _, rfl⟩)
  have hq3 : qU (2 ^ l - ns.countP iQ) ns.sum (ns.getD gr 0) <= 1 + rO (2 ^ l - ns.countP iQ) ns.sum (ns.getD gr 0) := by
   unfold qU rO
   split
   .exact aHZ _
   .exact aGZ _
  omega
 generalize qU (2 ^ l - ns.countP iQ) ns.sum (ns.getD gr 0) = pv at *
 have e3 : (pv : Int) + (left : Int) = ((pv + left : Nat) : Int) := by omega
 simp (disch := omega) only [aC, bK, aGP, aA, cL, c5, aI, dJ, aGO, bZ, f1, bM, e3, aT]
 refine sH ob5 rfl (by rw [aG1, hpl]; omega) fun w6 ob6 x6 s6 => ?_
 rw [hset] at ob6
 have o46 := o45.ext x6 (by omega)
 have lc := gG (off := 0) o46 (by simp)
 simp only [aGT, aGN, aGV] at lc
 have o16 := ((o1.ext x14 (fun h => h)).ext x5 (by omega)).ext x6 (by omega)
 simp (disch := omega) only [lc, aA]
 refine eX o16 rfl (by simp [one]) (by simp) fun w7 o7 x7 s7 => ?_
 refine lE o7 (by simp [aV]) ?_
 simp only [aV, aGS, aGU, aGT, aGN, aGV]
 rw [hRR]
 refine ⟨.inr ⟨hok, l, last, w1.heap.size, _, rfl, hlast, hmay, hofl, hl2.1, hiff, rfl, z1, ob6.ext x7 (by omega)⟩, ?_⟩
 have x06 : aS w w6 cM := ((x1.seq x14).trans x5 fun b hb h => by omega).trans x6 fun b hb h => by omega
 exact x06.new x7 (aGZ _)
abbrev cN (S : List Int) : List aJb := (Lx S).map fun (n : Nat) => Value.int .u32 n
abbrev aC0 : aJb := .agg #[.int .i64 0, .slice none 0 0]
theorem aFo {S : List Int} {c : Nat} (h : c < 256) : (cN S)[c]? = some (.int .u32 (S.count (c : Int) : Nat)) := by
 rw [aHg, aGX (by rw [qN]; exact h), <- mC, Uu h] <;> rfl
theorem aEN {S : List Int} {c : Nat} (h : c < 256) : (cN S).set c (.int .u32 ((S.count (c : Int) + 1 : Nat))) = cN (S ++ [(c : Int)]) := by
 show _ = (Lx (S ++ [(c : Int)])).map _
 rw [auT h, aIq]
theorem aqF {p : Nat} {w0 w : aJa} {x : Int} {a : Option Addr} {k c : Nat} {n e f : aJb} (o : cJ w p [.int .i64 0, .slice none 0 0]) (hx : aS w0 w cM) (hp : w0.heap.size <= p) {RR : aJb -> aJa -> Prop}
 (hR : ∀ w', aS w0 w' cM -> aS w w' (fun y => y = p) -> RR (.tuple #[.agg #[.int .i64 x, .slice a k c], n, e, f]) w') :
 aC pg (aJ 27 (.pointer (some ⟨p, 0, none⟩)) (.agg #[.int .i64 x, .slice a k c])) w fun _u w => kC pg 27 (.pointer (some ⟨p, 0, none⟩)) w fun r0 => RR (.tuple #[r0, n, e, f]) w := by
 refine eI o rfl (by simp [one]) (by simp) fun w6 o6 x6 s6 => ?_
 refine pR o6 (by simp [aV]) ?_
 simp only [aV, aGS, aGU, aGT, aGN, aGV]
 exact hR _ (hx.new x6 hp) x6
theorem aFu {a : Int} {lv : aJb} {l : List Int} {p4 po : Nat} {last : Int} {w0 w : aJa} (hs : Sl w0 lv (l.map (Value.int .i64))) (hx : aS w0 w cM) (hp4 : w0.heap.size <= p4) (hpo : w0.heap.size <= po) (hne : p4 ≠ po)
 (o4 : cJ w p4 [.int .i64 0, .slice none 0 0]) (oo : cJ w po (cN [])) (hl0 : 0 <= last) (hl1 : last <= 60) (hlen : l.length <= 131072) {RR : aJb -> aJa -> Prop} {kn : aJb -> aJb -> aJb -> aJb -> aJb -> aJb -> aJa -> Prop}
 (hbad : (∃ x ∈ l, ¬ (0 <= x /\ x <= last)) -> ∀ w', aS w0 w' cM -> RR (.tuple #[aC0, .int .i64 0, .slice none 0 0, .int .i64 1]) w')
 (hK : (∀ x ∈ l, 0 <= x /\ x <= last) -> ∀ w', cJ w' p4 [.int .i64 0, .slice none 0 0] -> cJ w' po (cN l) -> aS w0 w' cM →
  kn (.int .i64 a) lv (.pointer (some ⟨p4, 0, none⟩)) (.pointer (some ⟨po, 0, none⟩)) (.int .i64 ((Lx l).countP iQ : Nat)) (.int .i64 (gmx l)) w') :
 zH kn RR (.int .i64 a) lv (.pointer (some ⟨p4, 0, none⟩)) (.int .i64 last) (.pointer (some ⟨po, 0, none⟩)) (.int .i64 0) (.int .i64 0) w := by
 unfold zH Et
 obtain ⟨la, lc, rfl, _⟩ := hs.lenI
 simp (disch := omega) only [aC, eA, aA]
 unfold EB EC
 refine cG.rule (fun m (t : aJb × aJb × aJb) w' => ∃ i : Nat, m = l.length - i /\ t = (.int .i64 ((Lx (l.take i)).countP iQ : Nat), .int .i64 (gmx (l.take i)), .int .i64 i) /\ i <= l.length /\ (∀ x ∈ l.take i, 0 <= x /\ x <= last) /\
  cJ w' po (cN (l.take i)) /\ aS w w' (fun y => y = po)) l.length ⟨0, rfl, ?_, by omega, by simp, by rw [aGV]; exact oo, aS.refl _ _⟩ ?_
 .rw [aGV, arH, B8 (fun n hn => aIx hn)] <;> rfl
 rintro m t w1 ⟨i, rfl, rfl, hi, hok, o1, x1⟩
 have x01 : aS w0 w1 cM := hx.new x1 hpo
 have z1 := x01.size
 have o41 := o4.ext x1 (by omega)
 unfold zN Er
 by_cases hlt : i < l.length
 .have d1 : decide ((i : Int) < (l.length : Int)) = true := by simp; omega
  obtain ⟨lb, off, rfl, hcell⟩ := slA (hs.ext x01 (cD _)) (by omega)
  have g1 := hcell i hlt
  rw [aHg, aGX hlt] at g1
  simp only [aHz] at g1
  have hmem : l[i] ∈ l := aG7 hlt
  have htk : l.take (i + 1) = l.take i ++ [l[i]] := by rw [aHA, aGX hlt] <;> rfl
  generalize l[i] = x at *
  unfold EA EL OO Eg
  by_cases h0 : x < 0
  .have d2 : decide (x < 0) = true := by simpa using h0
   simp (disch := omega) only [aC, aX, d1, dJ, aGO, fF, aA, bM, bZ, g1, aI, d2, jE, bO, if_true, aF, dV]
   exact aqF o41 x01 hp4 fun w' x' _ => hbad ⟨x, hmem, by omega⟩ w' x'
  have d2 : decide (x < 0) = false := by simpa using h0
  by_cases h1 : last < x
  .have d3 : decide (last < x) = true := by simpa using h1
   simp (disch := omega) only [aC, aX, d1, dJ, aGO, fF, aA, bM, bZ, g1, aI, d2, dG, bO, aGW, if_false, bP, dP, d3, aF]
   exact aqF o41 x01 hp4 fun w' x' _ => hbad ⟨x, hmem, by omega⟩ w' x'
  have d3 : decide (last < x) = false := by simpa using h1
  obtain ⟨c, rfl⟩ : ∃ c : Nat, x = c := ⟨x.toNat, by omega⟩
  have f1 := o1.cell (off := c)
  rw [aFo (by omega)] at f1
  have hcnt : (l.take i).count (c : Int) <= i := by
   have := aI8 (a := (c : Int)) (l := l.take i)
   rw [aG4] at this; omega
  have hset := aEN (S := l.take i) (c := c) (by omega)
  have hon : (Lx (l.take (i + 1))).countP iQ = (Lx (l.take i)).countP iQ + if (l.take i).count (c : Int) = 0 then 1 else 0 := by
   rw [htk, auT (by omega), V3 (by rw [qN]; omega) (by omega), Uu (by omega)]
  have hgm : gmx (l.take (i + 1)) = max (gmx (l.take i)) (c : Int) := by rw [htk, aDv]
  have hok' : ∀ x ∈ l.take (i + 1), 0 <= x /\ x <= last := by
   rw [htk]; intro x hx'
   rcases aH7.1 hx' with h | h
   .exact hok x h
   .rw [aH2.1 h]; omega
  have hcb : (Lx (l.take i)).countP iQ <= 256 := by
   have := aIJ (l := Lx (l.take i)) (p := iQ)
   rw [qN] at this; exact this
  have hgm2 : max (gmx (l.take i)) (c : Int) = if (c : Int) > gmx (l.take i) then (c : Int) else gmx (l.take i) := by omega
  rw [hgm2] at hgm
  rw [<- htk] at hset
  generalize (l.take i).count (c : Int) = q at *
  generalize hG : gmx (l.take i) = G at *
  generalize hG2 : gmx (l.take (i + 1)) = G2 at *
  have e1 : (q : Int) + 1 = ((q + 1 : Nat) : Int) := by omega
  simp (disch := omega) only [aC, aX, d1, dJ, aGO, fF, aA, bM, aT, bZ, g1, aI, d2, G9, aGP, tL, dG, bO, aGW, if_false, bP, dP, d3, f1, e1, Yr, aE, aF]
  refine EN o1 rfl (by rw [aG1, qN]; omega) fun w2 o2 x2 s2 => ?_
  rw [hset] at o2
  have f2 := o2.cell (off := c)
  have f2' : (cN (l.take (i + 1)))[c]? = some (.int .u32 ((q + 1 : Nat))) := by
   rw [<- hset, List.getElem?_set_self (by rw [aG1, qN]; omega)]
  rw [f2'] at f2
  have x12 : aS w w2 (fun y => y = po) := x1.seq x2
  unfold zS zC
  by_cases hq : q = 0
  .have n1 : (((q + 1 : Nat) : Int) == 1) = true := by rw [hq] <;> rfl
   rw [if_pos hq] at hon
   simp (disch := omega) only [f2, aI, aC, amS, bM, aT, aA, cW, n1, aF]
   refine ⟨l.length - (i + 1), by omega, i + 1, rfl, ?_, by omega, hok', o2, x12⟩
   rw [hon, hG2, hgm] <;> rfl
  .have n1 : (((q + 1 : Nat) : Int) == 1) = false := beq_eq_false_iff_ne.2 (by omega)
   rw [if_neg hq] at hon
   simp (disch := omega) only [f2, aI, aC, amS, bM, aT, aA, cW, n1, aE]
   refine ⟨l.length - (i + 1), by omega, i + 1, rfl, ?_, by omega, hok', o2, x12⟩
   rw [hon, hG2, hgm] <;> rfl
 .have d1 : decide ((i : Int) < (l.length : Int)) = false := by simp; omega
  obtain rfl : i = l.length := by omega
  rw [aHk (aGZ _)] at *
  simp (disch := omega) only [aC, aX, d1, aA, aE]
  exact hK hok w1 o41 o1 x01
structure Wy (a : Int) (l : List Int) (mode : Int) (lg : Nat) (L : List T3) (bytes : List UInt8) : Prop where
 mode0 : 0 <= mode
 mode2 : mode <= 2
 read : ∀ T more, gE a mode (bytes ++ more) T = .ok ((lg, L), bytes.length)
 has : ∀ x ∈ l, ∃ e ∈ L, e.1 = x
 one : (∀ x ∈ l, ∀ y ∈ l, x = y) -> mode = 1 /\ L.length = 1
 len1 : mode = 1 -> bytes.length = 1
 tab : (∃ ps, Sw lg ps /\ L = jY lg ps) ∨ ∃ c : Int, 0 <= c /\ c <= 60 /\ lg = 0 /\ L = [(c, 0, 0)]
 log9 : lg <= 9
 blen : bytes.length <= 1000
theorem Wy.len {a : Int} {l : List Int} {mode : Int} {lg : Nat} {L : List T3} {bytes : List UInt8} (h : Wy a l mode lg L bytes) : L.length <= 512 := by
 rcases h.tab with ⟨ps, hm, rfl⟩ | ⟨c, _, _, rfl, rfl⟩
 .rw [iW]; exact aG0 (by omega) h.log9
 .simp
theorem aEW {a : Int} (h : 0 <= a /\ a <= 2) : (∀ x ∈ gvP a, x ≠ 0) /\ Yt a <= 6 /\ (gvP a).length <= 53 := by
 rcases (show a = 0 ∨ a = 1 ∨ a = 2 by omega) with rfl | rfl | rfl <;> decide
theorem awH {a : Int} (h : 0 <= a /\ a <= 2) : 8 <= Cp a /\ Cp a <= 9 := by
 rcases (show a = 0 ∨ a = 1 ∨ a = 2 by omega) with rfl | rfl | rfl <;> decide
theorem aCs {a : Int} {l : List Int} {c : Nat} (ha : 0 <= a /\ a <= 2) (hc : (c : Int) <= mM a) (hc2 : c < 256) (h : ∀ x ∈ l, x = (c : Int)) : Wy a l 1 0 [((c : Nat), 0, 0)] [UInt8.ofNat c] := by
 have hcc : ((UInt8.ofNat c).toNat : Nat) = c := by simp; omega
 have := JH ha
 refine ⟨by omega, by omega, fun T more => ?_, fun x hx => ⟨_, aH2.2 rfl, (h x hx).symm⟩, fun _ => ⟨rfl, rfl⟩, fun _ => rfl, .inr ⟨_, by omega, by omega, rfl, rfl⟩, by omega, by simp⟩
 unfold gE
 rw [if_neg (by omega), if_neg (by omega), if_pos rfl]
 show (if mM a < ((UInt8.ofNat c).toNat : Int) then _ else _) = _
 rw [hcc, if_neg (by omega)] <;> rfl
theorem ayN {a : Int} {l : List Int} (ha : 0 <= a /\ a <= 2) (h : ∀ x ∈ l, 0 <= x /\ x < ((gvP a).length : Nat)) (h1 : ¬ (∀ x ∈ l, ∀ y ∈ l, x = y)) : Wy a l 0 (Yt a) (jY (Yt a) (gvP a)) [] := by
 obtain ⟨hnz, hl6, _⟩ := aEW ha
 have hm := akS (a := a) (by omega)
 refine ⟨by omega, by omega, fun T more => ?_, fun x hx => ?_, fun h => absurd h h1, fun h => by omega, .inl ⟨_, hm, rfl⟩, by omega, by simp⟩
 .unfold gE
  rw [if_neg (by omega), if_pos rfl] <;> rfl
 .obtain ⟨h0, h2⟩ := h x hx
  obtain ⟨c, rfl⟩ : ∃ c : Nat, x = c := ⟨x.toNat, by omega⟩
  obtain ⟨i, hi, e⟩ := aoF hm (s := c) (by omega) (hnz _ (aG7 _))
  exact ⟨_, aG7 hi, e⟩
theorem aBr {a : Int} {l : List Int} {lg : Nat} {ps : List Int} {bytes : List UInt8} (ha : 0 <= a /\ a <= 2) (hm : Sw lg ps) (hh : aaI (Im lg ps) bytes) (hlg : (lg : Int) = Cp a) (hps : (ps.length : Int) <= mM a + 1) (h : ∀ x ∈ l, ∃ c : Nat, x = c /\ ∃ h : c < ps.length, ps[c] ≠ 0) (h1 : ¬ (∀ x ∈ l, ∀ y ∈ l, x = y)) :
 Wy a l 2 lg (jY lg ps) bytes := by
 have hmo := awH ha
 have hla := JH ha
 have hD := adB hm
 have hb := hh.len
 refine ⟨by omega, by omega, fun T more => ?_, fun x hx => ?_, fun h => absurd h h1, fun h => by omega, .inl ⟨_, hm, rfl⟩, by omega, by omega⟩
 .unfold gE
  rw [if_neg (by omega), if_neg (by omega), if_neg (by omega), if_neg (by omega), IW, hh.bits, aG2, aDX hm (by omega) (by omega)]
  show Except.ok _ = Except.ok _
  rw [hb]
 .obtain ⟨c, rfl, hc, hn⟩ := h x hx
  obtain ⟨i, hi, e⟩ := aoF hm (s := c) hc hn
  exact ⟨_, aG7 hi, e⟩
def YR (a : Int) (l : List Int) : Prop := (0 <= a /\ a <= 2) /\ l ≠ [] /\ ∀ x ∈ l, 0 <= x /\ x <= mM a
theorem aE9 {a : Int} {l : List Int} {p4 po : Nat} {g : Nat} {w0 w : aJa} (hx : aS w0 w cM) (hg : uA w0) (hp4 : w0.heap.size <= p4) (hpo : w0.heap.size <= po) (hne : p4 ≠ po)
 (o4 : cJ w p4 [.int .i64 0, .slice none 0 0]) (oo : cJ w po (cN l)) (ha : 0 <= a /\ a <= 2) (hlen : l.length <= 131072) (hok : ∀ x ∈ l, 0 <= x /\ x <= mM a) (hgm : gmx l = g) (hcnt : 2 <= (Lx l).countP iQ) {RR : aJb -> aJa -> Prop}
 (hK : ∀ w' mode lg L bytes t v, F1 w' w0.heap.size (lg, L) t -> sN w' w0.heap.size 1 v bytes.length (bytes.map FQ) -> Wy a l mode lg L bytes -> aS w0 w' cM -> RR (.tuple #[t, .int .i64 mode, v, .int .i64 0]) w') :
 vN RR (.int .i64 a) (.pointer (some ⟨p4, 0, none⟩)) (.pointer (some ⟨po, 0, none⟩)) (.int .i64 g) w := by
 have hmo := awH ha
 have hla := JH ha
 obtain ⟨last, hlast⟩ : ∃ n : Nat, mM a = n := ⟨(mM a).toNat, by omega⟩
 obtain ⟨g', hg', hgl, hnl, hget, hle, hct⟩ := aAw (S := l) (n := last) (by omega) (fun x hx => by have := hok x hx; omega)
 obtain rfl : g = g' := by omega
 obtain ⟨ns, hns⟩ : ∃ ns, ns = (Lx l).take (g + 1) := ⟨_, rfl⟩
 rw [<- hns] at hnl hget hct
 have hsum : ns.sum <= 131072 := by rw [hns]; have := arE l (g + 1) (by omega); omega
 have hmem : ∀ n ∈ ns, n <= 4294967295 := fun n hn => by
  rw [hns] at hn
  have := aEP l n (aI9 hn); omega
 have hc53 : ns.countP iQ <= 256 := by have := aIJ (l := ns) (p := iQ); omega
 have hp8 : 2 ^ 8 <= 2 ^ (Cp a).toNat := aG0 (by omega) (by omega)
 have hofOk : aqZ (Cp a) ns = true := by
  unfold aqZ
  exact decide_eq_true ⟨by omega, by omega, by omega, by omega, by omega, by omega⟩
 have hno1 : ¬ (∀ x ∈ l, ∀ y ∈ l, x = y) := fun h => by
  cases l with
  | nil => rw [arH, B8 (fun n hn => aIx hn)] at hcnt; omega
  | cons y l =>
    have hy := hok y (aH0 ..)
    have := aAB (S := y :: l) (c := y.toNat) (by omega) (fun x hx => by have := h x hx y (aH0 ..); omega) (by simp)
    omega
 have hsh : uN ⟨po, 0, none⟩ 256 0 1 = ⟨po, 0, none⟩ := El (by decide)
 have e1 : (g : Int) + 1 = ((g + 1 : Nat) : Int) := by omega
 have hsl : ∀ w', cJ w' po (cN l) -> Sl w' (.slice (some ⟨po, 0, none⟩) (g + 1) 256) (ns.map fun (n : Nat) => Value.int .u32 n) := fun w' o => by
  refine ⟨_, _, _, rfl, by rw [aG1]; exact hnl.symm, by omega, fun _ => ⟨_, _, rfl, fun i hi => ?_⟩⟩
  rw [o.cell, aGP, hns, aIM, aHr hi]
 unfold vN
 have fin : ∀ (w' : aJa) (pc pb : Nat) (lg last : Nat) (ps : List Nat), aS w0 w' cM -> w0.heap.size <= pc -> pc ≠ p4 -> w0.heap.size <= pb -> cJ w' p4 [.int .i64 0, .slice none 0 0] -> (lg : Int) = Cp a -> Q4 ns ns.length last -> Sw lg (ps.map fun (n : Nat) => (n : Int)) -> ps.length = last + 1 -> last < ns.length →
     (∀ i, i < last + 1 -> (0 < ps.getD i 0 ↔ 0 < ns.getD i 0)) -> cJ w' pc [.int .i64 lg, .slice (some ⟨pb, 0, none⟩) (last + 1) (last + 1)] -> cJ w' pb (ps.map fun (n : Nat) => Value.int .i64 n) →
     vY RR (.pointer (some ⟨p4, 0, none⟩)) (.pointer (some ⟨pc, 0, none⟩)) (.int .i64 0) w' := by
  intro w1 pc pb lg la ps x1 hpc hpc4 hpb o41 hlg hlast' hmay hpl hlan hiff oc ob
  unfold vY
  have n1 : ((0 : Int) != 0) = false := rfl
  have l1 := gG (off := 0) oc (by simp)
  simp only [aGT, aGN, aGV] at l1
  have hs1 : Sl w1 (.slice (some ⟨pb, 0, none⟩) (la + 1) (la + 1)) ((ps.map fun (n : Nat) => (n : Int)).map (Value.int .i64)) := by
   rw [List.map_map]
   exact ⟨_, _, _, rfl, by rw [aG1, hpl], aGZ _, fun _ => ⟨_, _, rfl, fun i hi => by rw [ob.cell, aGP] <;> rfl⟩⟩
  simp (disch := omega) only [aC, eT, n1, fF, aA, l1, aE]
  refine (auS hmay hs1).mono ?_
  rintro r w2 ⟨bytes, v, rfl, hh, ho, x2⟩
  have z1 := x1.size
  have z2 := x2.size
  obtain ⟨va, vc, rfl⟩ := ho.len
  have l1 := gG (off := 0) (oc.ext x2 (fun h => h)) (by simp)
  simp only [aGT, aGN, aGV] at l1
  simp (disch := omega) only [Ch, B7, aA, eT, n1, aE, l1]
  refine (akF hmay (hs1.ext x2 (cD _))).mono ?_
  rintro r w3 ⟨b, t, rfl, ⟨rfl, hb1, ob3⟩, x3⟩
  have z3 := x3.size
  have hbl := ob3.lt
  simp (disch := omega) only [Ch, B7, aA]
  refine iK fun w8 o8 x8 s8 => ?_
  refine eI o8 rfl (by simp [one]) (by simp) fun w9 o9 x9 s9 => ?_
  have l2 := gI (off := 0) o9 (by simp [aV])
  simp only [aV, aGS, aGU, aGT, aGN, aGV] at l2
  have x39 : aS w3 w9 cM := x8.new x9 (aGZ _)
  have x29 : aS w2 w9 cM := x3.seq x39
  simp (disch := omega) only [l2, aA]
  refine aqF ((o41.ext x2 (fun h => h)).ext x29 (fun h => h)) ((x1.seq x2).seq x29) hp4 fun w' x xx => ?_
  have h4 := o41.lt
  refine hK w' 2 lg (jY lg (ps.map fun (n : Nat) => (n : Int))) bytes _ _ (.inr ⟨b, rfl, by omega, ?_⟩) ?_ ?_ x
  .exact ((ob3.ext x8 (fun h => h)).ext x9 (by omega)).ext xx (by omega)
  .have h1 := (ho.ext x29 (fun b hb h => h)).ext xx (fun b hb => by omega)
   refine ⟨h1.1, ?_⟩
   rcases h1.2 with h | ⟨b, c, rest, q1, q2, q3⟩
   .exact .inl h
   .exact .inr ⟨b, c, rest, q1, by omega, q3⟩
  .refine aBr ha hmay hh hlg (by rw [aG1]; omega) (fun x hx => ?_) hno1
   have hx1 := hok x hx
   have hx2 := hle x hx
   obtain ⟨c, rfl⟩ : ∃ c : Nat, x = c := ⟨x.toNat, by omega⟩
   have hon : 0 < ns.getD c 0 := by rw [hget c (by omega)]; exact abV hx
   have hcl : c < la + 1 := by
    rcases aHd c (la + 1) with h | h
    .exact h
    .exfalso
     rcases hlast' with ⟨rfl, h0⟩ | ⟨_, _, h0⟩
     .have := h0 c (by omega); omega
     .have := h0 c (by omega) (by omega); omega
   have hp := (hiff c hcl).2 hon
   refine ⟨c, rfl, by rw [aG1]; omega, ?_⟩
   rw [mC (by omega)] at hp
   rw [aHs]; omega
 have res : ∀ {w1 : aJa} {b1 : Nat} {r : aJb}, aCl w1 b1 (Cp a) ns r -> ∃ (lg last pb : Nat) (ps : List Nat), (lg : Int) = Cp a /\ Q4 ns ns.length last /\ Sw lg (ps.map fun (n : Nat) => (n : Int)) /\ ps.length = last + 1 /\ last < ns.length /\ (∀ i, i < last + 1 -> (0 < ps.getD i 0 ↔ 0 < ns.getD i 0)) /\
     r = .tuple #[.agg #[.int .i64 lg, .slice (some ⟨pb, 0, none⟩) (last + 1) (last + 1)], .int .i64 0] /\ b1 <= pb /\ cJ w1 pb (ps.map fun (n : Nat) => Value.int .i64 n) := fun h => by
  rcases h with ⟨h, _⟩ | ⟨_, l, la, pb, ps, h1, h2⟩
  .rw [hofOk] at h; cases h
  .exact ⟨l, la, pb, ps, h1.symm, h2⟩
 have z0 := hx.size
 have l4 := o4.lt
 have lo := oo.lt
 unfold Hp
 refine Ld (Ld ?_ ?_) ?_
 have hds : (dr w).heap.size = w.heap.size := rfl
 .simp (disch := omega) only [aC, bM, e1, aT, eC, Result.ok.injEq, Next.value.injEq, and_true, true_and, aA, qE, hsh, aGO, aIU]
  refine (asQ a _).mono ?_
  rintro r w1 ⟨rfl, hw⟩
  rw [hw]; clear hw w1
  refine (alA (hsl _ (dO oo)) hmem (by omega)).mono ?_
  rintro r w1 ⟨hr, x1⟩
  have x1 : aS w w1 cM := (aS.dr _ _).seq x1
  obtain ⟨lg, la, pb, ps, q1, q2, q3, q4, q5, q6, rfl, q7, q8⟩ := res hr
  have z1 := x1.size
  have lp := q8.lt
  simp (disch := omega) only [Ch, B7, Result.ok.injEq, Next.value.injEq, and_true, aA, true_and]
  refine iS fun w2 o2 x2 s2 => ?_
  refine eX o2 rfl (by simp [one]) (by simp) fun w3 o3 x3 s3 => ?_
  simp only [aV, aGS, aGU] at o3
  have x13 : aS w1 w3 cM := x2.new x3 (aGZ _)
  exact fin w3 _ pb lg la ps ((hx.seq x1).seq x13) (by omega) (by omega) (by omega) ((o4.ext x1 (fun h => h)).ext x13 (fun h => h)) q1 q2 q3 q4 q5 q6 o3 ((q8.ext x2 (fun h => h)).ext x3 (by omega))
 .simp (disch := omega) only [aC, bM, e1, aT, eC, Result.ok.injEq, Next.value.injEq, and_true, true_and, aA, qE, hsh, aGO, aIU]
  refine (asQ a _).mono ?_
  rintro r w1 ⟨rfl, hw⟩
  rw [hw]; clear hw w1
  refine iS fun w2 o2 x2 s2 => ?_
  have x2 : aS w w2 cM := (aS.dr _ _).seq x2
  refine (alA (hsl _ (oo.ext x2 (fun h => h))) hmem (by omega)).mono ?_
  rintro r w1 ⟨hr, x1⟩
  obtain ⟨lg, la, pb, ps, q1, q2, q3, q4, q5, q6, rfl, q7, q8⟩ := res hr
  have z2 := x2.size
  have lp := q8.lt
  simp (disch := omega) only [Ch, B7, Result.ok.injEq, Next.value.injEq, and_true, aA, true_and]
  refine eX (o2.ext x1 (fun h => h)) rfl (by simp [one]) (by simp) fun w3 o3 x3 s3 => ?_
  simp only [aV, aGS, aGU] at o3
  have x13 : aS w w3 cM := (x2.seq x1).new x3 (aGZ _)
  exact fin w3 w.heap.size pb lg la ps (hx.seq x13) (by omega) (by omega) (by omega) (o4.ext x13 (fun h => h)) q1 q2 q3 q4 q5 q6 o3 (q8.ext x3 (by omega))
 .simp (disch := omega) only [aC, bM, e1, aT, eC, Result.ok.injEq, Next.value.injEq, and_true, true_and, aA, qE, hsh, aGO, aIU]
  refine iS fun w2 o2 x2 s2 => ?_
  have x2 : aS w w2 cM := (aS.dr _ _).seq x2
  refine (asQ a _).mono ?_
  rintro r w1 ⟨rfl, hw⟩
  rw [hw]; clear hw w1
  refine (alA (hsl _ (oo.ext x2 (fun h => h))) hmem (by omega)).mono ?_
  rintro r w1 ⟨hr, x1⟩
  obtain ⟨lg, la, pb, ps, q1, q2, q3, q4, q5, q6, rfl, q7, q8⟩ := res hr
  have z2 := x2.size
  have lp := q8.lt
  simp (disch := omega) only [Ch, B7, Result.ok.injEq, Next.value.injEq, and_true, aA, true_and]
  refine eX (o2.ext x1 (fun h => h)) rfl (by simp [one]) (by simp) fun w3 o3 x3 s3 => ?_
  simp only [aV, aGS, aGU] at o3
  have x13 : aS w w3 cM := (x2.seq x1).new x3 (aGZ _)
  exact fin w3 w.heap.size pb lg la ps (hx.seq x13) (by omega) (by omega) (by omega) (o4.ext x13 (fun h => h)) q1 q2 q3 q4 q5 q6 o3 (q8.ext x3 (by omega))
theorem aF8 {a : Int} {lv : aJb} {l : List Int} {p4 : Nat} {w0 w : aJa} (hs : Sl w0 lv (l.map (Value.int .i64))) (hx : aS w0 w cM) (hp4 : w0.heap.size <= p4)
 (o4 : cJ w p4 [.int .i64 0, .slice none 0 0]) (ha : 0 <= a /\ a <= 2) (hne : l ≠ []) (hok : ∀ x ∈ l, 0 <= x /\ x <= mM a) (hall : ∀ x ∈ l, ∀ y ∈ l, x = y) {RR : aJb -> aJa -> Prop}
 (hK : ∀ w' mode lg L bytes t v, F1 w' w0.heap.size (lg, L) t -> sN w' w0.heap.size 1 v bytes.length (bytes.map FQ) -> Wy a l mode lg L bytes -> aS w0 w' cM -> RR (.tuple #[t, .int .i64 mode, v, .int .i64 0]) w') :
 Hs RR lv (.pointer (some ⟨p4, 0, none⟩)) w := by
 have hla := JH ha
 have hl0 : 0 < l.length := aHP.2 hne
 obtain ⟨la, lc, rfl, _⟩ := hs.lenI
 have hsx := hs.ext hx (cD _)
 obtain ⟨lb, off, rfl, hcell⟩ := slA hsx (by omega)
 have g1 := hcell 0 hl0
 rw [aHg, aGX hl0] at g1
 simp only [aHz, aHI] at g1
 have hmem : l[0] ∈ l := aG7 hl0
 have hc := hok _ hmem
 have hall' : ∀ x ∈ l, x = l[0] := fun x hx => hall x hx _ hmem
 generalize l[0] = x at *
 obtain ⟨c, rfl⟩ : ∃ c : Nat, x = c := ⟨x.toNat, by omega⟩
 have t0 : (0 : Int).toNat = 0 := rfl
 have hpos : (0 : Int) < (l.length : Nat) := by omega
 have hW := aCs (l := l) ha hc.2 (by omega) hall'
 have hcc : ((UInt8.ofNat c).toNat : Nat) = c := by simp; omega
 have z0 := hx.size
 have l4 := o4.lt
 have g2 : (dr w).cell? ⟨lb, off, none⟩ = some (.int .i64 (c : Nat)) := g1
 have far : ∀ {w' : aJa} {M : Nat -> Prop}, aS w w' M -> (¬ inB (.slice (some ⟨lb, off, none⟩) l.length lc) M) -> w'.cell? ⟨lb, off, none⟩ = some (.int .i64 (c : Nat)) := fun x hM => by
  have h := slA (hsx.ext x hM) (by omega)
  obtain ⟨b', o', e, h'⟩ := h
  cases e
  have := h' 0 hl0
  rw [aHI, hcell 0 hl0 |>.symm, aHI, g1] at this
  exact this
 have fin : ∀ (w2 : aJa) (b bs : Nat), aS w0 w2 cM -> w0.heap.size <= b -> w0.heap.size <= bs -> cJ w2 b (fe .u8 [((c : Nat), 0, 0)]) -> cJ w2 bs [.int .u8 (c : Nat)] -> cJ w2 p4 [.int .i64 0, .slice (some ⟨b, 0, none⟩) 1 1] →
     vW RR (.pointer (some ⟨p4, 0, none⟩)) (.int .i64 1) (.slice (some ⟨bs, 0, none⟩) 1 1) (.int .i64 0) w2 := by
  intro w2 b bs x2 hb hbs ob obs o42
  unfold vW
  refine pR o42 (by simp) ?_
  simp only [aGT, aGN, aGV]
  refine hK w2 1 0 [((c : Nat), 0, 0)] [UInt8.ofNat c] _ _ (.inr ⟨b, rfl, hb, ob⟩) ?_ hW x2
  refine ⟨rfl, .inr ⟨bs, 1, [], rfl, hbs, ?_, rfl, aGZ _⟩⟩
  have e : [UInt8.ofNat c].map FQ ++ [] = [.int .u8 (c : Nat)] := by
   rw [aHC]
   show [Value.int .u8 ((UInt8.ofNat c).toNat : Nat)] = _
   rw [hcc]
  rw [e]; exact obs
 have hds : (dr w).heap.size = w.heap.size := rfl
 unfold Hs GG
 refine Ld (Ld ?_ ?_) ?_
 .simp (disch := omega) only [aC, dJ, t0, aHI, eC, Result.ok.injEq, Next.value.injEq, and_true, true_and, aA, bZ, g2, aI, kT, Qf]
  refine (aAc (c : Nat) _).mono ?_
  rintro r w1 ⟨b, ⟨rfl, hb1, ob⟩, x1⟩
  have x1 : aS w w1 cM := (aS.dr _ _).seq x1
  have z1 := x1.size
  have lb1 := ob.lt
  have g3 := far x1 (cD _)
  have g4 : (dr w1).cell? ⟨lb, off, none⟩ = some (.int .i64 (c : Nat)) := g3
  simp (disch := omega) only [g3, aI, aA, kT, Qf, Result.ok.injEq, Next.value.injEq, and_true, true_and]
  refine tY (cells := #[.int .u8 (c : Nat)]) (by decide) (by decide) (by kernel_rfl) fun w2 o2 x2 s2 => ?_
  have hds1 : (dr w1).heap.size = w1.heap.size := rfl
  have z2 := x2.size
  refine eI ((o4.ext x1 (fun h => h)).ext x2 (fun h => h)) rfl (by simp [one]) (by simp) fun w3 o3 x3 s3 => ?_
  simp only [aV, aGS, aGU] at o3
  exact fin w3 b w1.heap.size (((hx.seq x1).seq x2).new x3 hp4) (by omega) (by omega) ((ob.ext x2 (fun h => h)).ext x3 (by omega)) (o2.ext x3 (by omega)) o3
 .simp (disch := omega) only [aC, dJ, t0, aHI, eC, Result.ok.injEq, Next.value.injEq, and_true, true_and, aA, bZ, g2, aI, kT, Qf]
  refine (aAc (c : Nat) _).mono ?_
  rintro r w1 ⟨b, ⟨rfl, hb1, ob⟩, x1⟩
  have x1 : aS w w1 cM := (aS.dr _ _).seq x1
  have z1 := x1.size
  have lb1 := ob.lt
  have g3 := far x1 (cD _)
  have g4 : (dr w1).cell? ⟨lb, off, none⟩ = some (.int .i64 (c : Nat)) := g3
  simp (disch := omega) only [g3, aI, aA, kT, Qf, Result.ok.injEq, Next.value.injEq, and_true, true_and]
  refine eI (o4.ext x1 (fun h => h)) rfl (by simp [one]) (by simp) fun w2 o2 x2 s2 => ?_
  simp only [aV, aGS, aGU] at o2
  have hds1 : (dr w1).heap.size = w1.heap.size := rfl
  have z2 := x2.size
  have x02 := (hx.seq x1).new x2 hp4
  have g5 : w2.cell? ⟨lb, off, none⟩ = some (.int .i64 (c : Nat)) := far ((x1.mono (N := fun y => y = p4) fun _ _ h => h.elim).seq x2) (by
   intro h
   exact hs.old (avI h fun y hy => by omega))
  simp (disch := omega) only [g5, aI, true_and]
  refine tY (cells := #[.int .u8 (c : Nat)]) (by decide) (by decide) (by kernel_rfl) fun w3 o3 x3 s3 => ?_
  exact fin w3 b w2.heap.size (x02.seq x3) (by omega) (by omega) ((ob.ext x2 (by omega)).ext x3 (fun h => h)) o3 (o2.ext x3 (fun h => h))
 .simp (disch := omega) only [aC, dJ, t0, aHI, eC, Result.ok.injEq, Next.value.injEq, and_true, true_and, aA, bZ, g2, aI, kT, Qf]
  refine tY (cells := #[.int .u8 (c : Nat)]) (by decide) (by decide) (by kernel_rfl) fun w2 o2 x2 s2 => ?_
  have x2 : aS w w2 cM := (aS.dr _ _).seq x2
  have z2 := x2.size
  have g3 := far x2 (cD _)
  have g4 : (dr w2).cell? ⟨lb, off, none⟩ = some (.int .i64 (c : Nat)) := g3
  simp (disch := omega) only [g3, aI, true_and]
  refine (aAc (c : Nat) _).mono ?_
  rintro r w1 ⟨b, ⟨rfl, hb1, ob⟩, x1⟩
  have hds1 : (dr w2).heap.size = w2.heap.size := rfl
  have z1 := x1.size
  have lb1 := ob.lt
  refine eI ((o4.ext x2 (fun h => h)).ext x1 (fun h => h)) rfl (by simp [one]) (by simp) fun w3 o3 x3 s3 => ?_
  simp only [aV, aGS, aGU] at o3
  exact fin w3 b w.heap.size (((hx.seq x2).seq x1).new x3 hp4) (by omega) (by omega) (ob.ext x3 (by omega)) ((o2.ext x1 (fun h => h)).ext x3 (by omega)) o3
def WrR (w : aJa) (base : Nat) (a : Int) (l : List Int) (r : aJb) : Prop :=
 (¬ YR a l /\ r = .tuple #[aC0, .int .i64 0, .slice none 0 0, .int .i64 1]) ∨
 (YR a l /\ ∃ (mode : Int) (lg : Nat) (L : List T3) (bytes : List UInt8) (t v : aJb), r = .tuple #[t, .int .i64 mode, v, .int .i64 0] /\ F1 w base (lg, L) t /\ sN w base 1 v bytes.length (bytes.map FQ) /\ Wy a l mode lg L bytes)
theorem aDs {a : Int} {lv : aJb} {l : List Int} {w : aJa} (hg : uA w) (hs : Sl w lv (l.map (Value.int .i64))) (hlen : l.length <= 131072) :
 aR pg nV #[.int .i64 a, lv] w (fun r w' => WrR w' w.heap.size a l r /\ aS w w' cM) := by
 refine Zl ?_
 obtain ⟨RR, hRR⟩ : ∃ RR : aJb -> aJa -> Prop, RR = fun r w' => WrR w' w.heap.size a l r /\ aS w w' cM := ⟨_, rfl⟩
 rw [<- hRR]
 have bad : ¬ YR a l -> ∀ w', aS w w' cM -> RR (.tuple #[aC0, .int .i64 0, .slice none 0 0, .int .i64 1]) w' := fun h w' x => by
  rw [hRR]; exact ⟨.inl ⟨h, rfl⟩, x⟩
 have good : YR a l -> ∀ w' mode lg L bytes t v, F1 w' w.heap.size (lg, L) t -> sN w' w.heap.size 1 v bytes.length (bytes.map FQ) -> Wy a l mode lg L bytes -> aS w w' cM -> RR (.tuple #[t, .int .i64 mode, v, .int .i64 0]) w' := fun h w' mode lg L bytes t v h1 h2 h3 x => by
  rw [hRR]; exact ⟨.inr ⟨h, mode, lg, L, bytes, t, v, rfl, h1, h2, h3⟩, x⟩
 unfold YV Ep Eb
 refine iK fun w1 o1 x1 s1 => ?_
 refine (arT (hg.ext x1)).mono ?_
 rintro r w2 ⟨rfl, x2⟩
 have x02 := x1.seq x2
 have o12 := o1.ext x2 (fun h => h)
 have z1 := x1.size
 have z2 := x2.size
 by_cases ha : 0 <= a /\ a <= 2
 rotate_left
 .have d1 : decide (mM a < 0) = true := by rw [amU ha] <;> rfl
  simp (disch := omega) only [aC, aX, d1, fF, aA, jE, bO, if_true, aF, dV]
  exact aqF o12 x02 (aGZ _) fun w' x _ => bad (fun h => ha h.1) w' x
 have hla := JH ha
 have d1 : decide (mM a < 0) = false := by simp; omega
 have hs0 := hs
 obtain ⟨la, lc, rfl, _⟩ := hs.lenI
 by_cases hl0 : l = []
 .have n1 : (((l.length : Nat) : Int) == 0) = true := by rw [hl0] <;> rfl
  simp (disch := omega) only [aC, aX, d1, fF, aA, dG, bO, aGW, if_false, bP, eA, cW, n1, jE, if_true, aF, dV]
  exact aqF o12 x02 (aGZ _) fun w' x _ => bad (fun h => h.2.1 hl0) w' x
 have hlp : 0 < l.length := aHP.2 hl0
 have n1 : (((l.length : Nat) : Int) == 0) = false := beq_eq_false_iff_ne.2 (by omega)
 have d2 : decide ((131072 : Int) < ((l.length : Nat) : Int)) = false := by simp; omega
 have hcs : cN [] = List.replicate 256 (Value.int .u32 0) := by
  show (Lx []).map _ = _
  rw [arH, aIV] <;> rfl
 simp (disch := omega) only [aC, aX, d1, fF, aA, dG, bO, aGW, if_false, bP, eA, cW, n1, dP, d2, aE]
 refine ahG fun w3 o3 x3 s3 => ?_
 have o3 : cJ w3 w2.heap.size (cN []) := by rw [hcs]; exact o3
 have z3 := x3.size
 unfold EP
 refine aFu (w0 := w) hs0 (x02.seq x3) (aGZ _) (by omega) (by omega) (o12.ext x3 (fun h => h)) o3 (by omega) (by omega) hlen (fun ⟨x, hx, hn⟩ => bad fun h => hn (h.2.2 x hx)) fun hok w4 o4 oo x4 => ?_
 have hcok : YR a l := ⟨ha, hl0, hok⟩
 unfold Eh Ec
 have z4 := x4.size
 refine (aAs (hg.ext x4)).mono ?_
 rintro r w5 ⟨gv, rfl, hsg, x5⟩
 have z5 := x5.size
 obtain ⟨ga, gc, rfl, _⟩ := hsg.lenI
 refine iS fun w6 o6 x6 s6 => ?_
 refine eX o6 rfl (by simp [one]) (by simp) fun w7 o7 x7 s7 => ?_
 simp only [aV, aGS, aGU] at o7
 have x57 : aS w5 w7 cM := x6.new x7 (aGZ _)
 have x47 := x5.seq x57
 have x07 := x4.seq x47
 have z7 := x57.size
 have l4 := o4.lt
 have o47 := o4.ext x47 (fun h => h)
 have oo7 := oo.ext x47 (fun h => h)
 unfold ES Ey Pe GY GB
 have hb255 : ∀ x ∈ l, 0 <= x /\ x <= 255 := fun x hx => by have := hok x hx; omega
 have hcp := aEo hb255 hl0
 by_cases h1 : (Lx l).countP iQ = 1
 .have n2 : ((((Lx l).countP iQ : Nat) : Int) == 1) = true := by rw [h1] <;> rfl
  simp (disch := omega) only [aC, cW, n2, aA, aF]
  exact aF8 hs0 x07 (aGZ _) o47 ha hl0 hok (aEl hb255 h1) (good hcok)
 have n2 : ((((Lx l).countP iQ : Nat) : Int) == 1) = false := beq_eq_false_iff_ne.2 (by omega)
 obtain ⟨last, hlast⟩ : ∃ n : Nat, mM a = n := ⟨(mM a).toNat, by omega⟩
 obtain ⟨g, hg', hgl, hnl, hget, hle, hct⟩ := aAw (S := l) (n := last) (by omega) (fun x hx => by have := hok x hx; omega)
 have told : vN RR (.int .i64 a) (.pointer (some ⟨w.heap.size, 0, none⟩)) (.pointer (some ⟨w2.heap.size, 0, none⟩)) (.int .i64 g) w7 :=
  aE9 x07 hg (aGZ _) (by omega) (by omega) o47 oo7 ha hlen hok hg' (by omega) (good hcok)
 rw [hg']
 unfold HM
 by_cases h64 : l.length < 64
 .have d3 : decide (((l.length : Nat) : Int) < 64) = true := by simp; omega
  have c1 := o7.cell (off := 1)
  simp only [aGQ, aGR] at c1
  by_cases hgv : g < (gvP a).length
  .have d4 : decide (((g : Nat) : Int) < (((gvP a).length : Nat) : Int)) = true := by simp; omega
   have l1 := gG (off := 0) o7 (by simp)
   simp only [aGT, aGN, aGV] at l1
   have hm := akS (a := a) (by omega)
   simp (disch := omega) only [aC, cW, n2, eA, bK, aGP, aA, aX, d3, tR, bO, if_true, bP, cL, c1, aI, d4, l1, aF, aE]
   refine (akF hm (hsg.ext x57 (cD _))).mono ?_
   rintro r w8 ⟨b, t, rfl, ⟨rfl, hb1, ob⟩, x8⟩
   have z8 := x8.size
   have hbl := ob.lt
   simp (disch := omega) only [Ch, B7, aA]
   refine iK fun w9 o9 x9 s9 => ?_
   refine eI o9 rfl (by simp [one]) (by simp) fun wa oa xa sa => ?_
   have l2 := gI (off := 0) oa (by simp [aV])
   simp only [aV, aGS, aGU, aGT, aGN, aGV] at l2
   have x8a : aS w8 wa cM := x9.new xa (aGZ _)
   have x7a := x8.seq x8a
   simp (disch := omega) only [l2, aA]
   refine aqF (o47.ext x7a (fun h => h)) (x07.seq x7a) (aGZ _) fun w' x xx => ?_
   refine good hcok w' 0 (Yt a) (jY (Yt a) (gvP a)) [] _ _ (.inr ⟨b, rfl, by omega, ?_⟩) (sN.nil _ _ _) ?_ x
   .exact ((ob.ext x9 (fun h => h)).ext xa (by omega)).ext xx (by omega)
   .refine ayN ha (fun x hx => ?_) fun h => ?_
    .have h1 := hok x hx
     have h2 := hle x hx
     omega
    .obtain ⟨y, hy⟩ := aIQ _ hl0
     have hyb := hb255 y hy
     exact h1 (aAB (S := l) (c := y.toNat) (by omega) (fun x hx => by have := h x hx y hy; omega) hl0)
  .have d4 : decide (((g : Nat) : Int) < (((gvP a).length : Nat) : Int)) = false := by simp; omega
   simp (disch := omega) only [aC, cW, n2, eA, bK, aGP, aA, aX, d3, tR, bO, if_true, bP, cL, c1, aI, d4, aE]
   exact told
 .have d3 : decide (((l.length : Nat) : Int) < 64) = false := by simp; omega
  simp (disch := omega) only [aC, cW, n2, eA, bK, aGP, aA, aX, d3, ED, bO, aGW, if_false, aE, dV]
  exact told
def alX (L : List T3) : Prop := ∀ sy : Int, (∃ e ∈ L, e.1 = sy) -> ∀ s : Nat, s < L.length -> ∃ (i : Nat) (e : T3), L[i]? = some e /\ inE sy s e = true
theorem aBd (c : Int) : alX [(c, 0, 0)] := by
 rintro sy ⟨e, he, rfl⟩ s hs
 obtain rfl := aH2.1 he
 have : s = 0 := by simp at hs; omega
 subst this
 exact ⟨0, _, rfl, by unfold inE; simp⟩
theorem avV {log : Nat} {ps : List Int} (hm : Sw log ps) : alX (jY log ps) := by
 rintro sy ⟨e, he, rfl⟩ s hs
 rw [iW] at hs
 obtain ⟨i, hi, rfl⟩ := aHl he
 have h2 : i < 2 ^ log := by rw [iW] at hi; exact hi
 obtain ⟨sy, hsy, e, hp, _⟩ := Xg hm (uY hm 0) h2
 have hn : ps[sy] ≠ 0 := fun h => by rw [h] at hp; revert hp; decide
 rw [Wt log ps h2, e]
 obtain ⟨i', hi', h1, _⟩ := aEk hm hsy hn hs
 exact ⟨i', _, acX hi', h1⟩
theorem axM {a : Int} {l : List Int} {mode : Int} {lg : Nat} {L : List T3} {bytes : List UInt8} (h : Wy a l mode lg L bytes) : alX L := by
 rcases h.tab with ⟨ps, hm, rfl⟩ | ⟨c, _, _, _, rfl⟩
 .exact avV hm
 .exact aBd c
theorem acC {k : Nat} {l : List Int} {mode : Int} {lg : Nat} {L : List T3} {bytes : List UInt8} (hk : k < 3) (h : Wy (k : Int) l mode lg L bytes) : yQ k (lg, L) := by
 have h1 := h.read (0, []) []
 have h0 := h.mode0
 have h2 := h.mode2
 obtain ⟨m, rfl⟩ : ∃ m : Nat, mode = m := ⟨mode.toNat, by omega⟩
 exact (anF hk (fun h3 => by omega) h1).1
def awD (last : Bool) (L : List T3) (c s t : Nat) (u : List Bool) : Prop := (∃ e, L[s]? = some e /\ e.1 = (c : Int)) /\ (if last then u = [] else StB L s t u)
def auO (r : Nat) : Nat := if r = 0 then 1 else if r = 1 then 2 else 0
def aBu (k : Nat) : Nat := if k = 1 then 0 else if k = 2 then 1 else 2
def ayC (us : Nat -> List Bool) (r : Nat) : List Bool := if r = 0 then [] else if r = 1 then us 1 else if r = 2 then us 1 ++ us 2 else us 1 ++ us 2 ++ us 0
def upU (us : Nat -> List Bool) (k : Nat) (x : List Bool) : Nat -> List Bool := fun i => if i = k then x else us i
theorem Uy (us : Nat -> List Bool) {r : Nat} (h : r < 3) (x : List Bool) : ayC (upU us (auO r) x) (r + 1) = ayC us r ++ x := by
 rcases (show r = 0 ∨ r = 1 ∨ r = 2 by omega) with rfl | rfl | rfl <;> simp [ayC, upU, auO]
theorem aDG (r : Nat) : auO r < 3 := by unfold auO; split <;> (try split) <;> omega
theorem ZY {r k : Nat} (hr : r < 3) (hk : k < 3) : (aBu k < r + 1) ↔ (aBu k < r ∨ k = auO r) := by
 rcases (show r = 0 ∨ r = 1 ∨ r = 2 by omega) with rfl | rfl | rfl <;> rcases (show k = 0 ∨ k = 1 ∨ k = 2 by omega) with rfl | rfl | rfl <;> decide
theorem aBA {r : Nat} (hr : r < 3) : aBu (auO r) = r := by
 rcases (show r = 0 ∨ r = 1 ∨ r = 2 by omega) with rfl | rfl | rfl <;> rfl
theorem aDw {w : aJa} {base : Nat} {L : Nat -> List Nat} {v : Nat -> aJb} {D : Nat -> Nat -> Prop} (h : C3 w base L v D) {k i c : Nat} (hk : k < 3) (hc : (L k)[i]? = some c) :
 ∃ b off cc, v k = .slice (some ⟨b, off, none⟩) (L k).length cc /\ w.cell? ⟨b, off + i, none⟩ = some (.int .i64 c) := by
 have hi : i < (L k).length := by
  rcases aHd i (L k).length with h | h
  .exact h
  .rw [aHa h] at hc; cases hc
 have o := h.row k hk
 rcases o.2 with ⟨_, hz⟩ | ⟨b, c', rest, h1, h2, h3, h4, h5⟩
 .omega
 .refine ⟨b, 0, c', h1, ?_⟩
  rw [h3.cell, aGP, aG6 (by rw [aG1]; exact hi), aHg, hc]
  rfl
theorem auG {k2 : K6} {RR : K1} {la : Option Addr} {n lc pe pt p ps i : Nat} {t : Nat -> TT} {a : Nat -> Option Addr} {L : Nat -> List Nat} {v : Nat -> aJb} {D : Nat -> Nat -> Prop} {st cc : Nat -> Nat} {B : List Bool} {wc w : aJa}
 (hTc : Ol wc t a) (hCc : C3 wc 0 L v D) (xc : aS wc w cM) (hge : wc.heap.size <= pe /\ pe < pt /\ pt < p /\ p < ps) (oE : cJ w pe (vL v)) (oT : cJ w pt (c6 t a)) (oS : cJ w ps (s3L st)) (hW : Ws w (fun b => ps < b) p B)
 (hi : i < n) (hn : n <= 1000000) (hcc : ∀ k, k < 3 -> (L k)[i]? = some (cc k) /\ cc k < kZ k) (hG : ∀ k, k < 3 -> yQ k (t k) /\ alX (t k).2 /\ ∃ e ∈ (t k).2, e.1 = (cc k : Int)) (hst : i + 1 < n -> ∀ k, k < 3 -> st k < (t k).2.length) (hB : B.length <= 90000000)
 (hk : ∀ (w' : aJa) (st' : Nat -> Nat) (us : Nat -> List Bool), cJ w' ps (s3L st') -> (∀ k, k < 3 -> awD (decide (i + 1 = n)) (t k).2 (cc k) (st' k) (st k) (us k)) -> Ws w' (fun b => ps < b) p (B ++ (us 1 ++ us 2 ++ us 0)) -> aS w w' (fun y => y = p ∨ y = ps ∨ ps < y) -> k2 (.slice la n lc) (.pointer (some ⟨pe, 0, none⟩)) (.pointer (some ⟨pt, 0, none⟩)) (.pointer (some ⟨p, 0, none⟩)) (.pointer (some ⟨ps, 0, none⟩)) (.int .i64 i) w') :
 rR k2 RR (.slice la n lc) (.pointer (some ⟨pe, 0, none⟩)) (.pointer (some ⟨pt, 0, none⟩)) (.pointer (some ⟨p, 0, none⟩)) (.pointer (some ⟨ps, 0, none⟩)) (.int .i64 i) (.agg #[.int .i64 1, .int .i64 2, .int .i64 0]) (.int .i64 0) w := by
 have hps := oS.lt
 unfold rR
 refine cG.rule (fun m (x : aJb) w' => ∃ (j : Nat) (st' : Nat -> Nat) (us : Nat -> List Bool), m = j /\ j <= 3 /\ x = .int .i64 (3 - j : Nat) /\ cJ w' ps (s3L st') /\ (∀ k, k < 3 -> aBu k < 3 - j -> awD (decide (i + 1 = n)) (t k).2 (cc k) (st' k) (st k) (us k)) /\ (∀ k, k < 3 -> ¬ aBu k < 3 - j -> st' k = st k) /\
  Ws w' (fun b => ps < b) p (B ++ ayC us (3 - j)) /\ (ayC us (3 - j)).length <= 20 * (3 - j) /\ aS w w' (fun y => y = p ∨ y = ps ∨ ps < y)) 3
  ⟨3, st, fun _ => [], rfl, aGZ _, rfl, oS, fun k _ h => by omega, fun _ _ _ => rfl, by simpa [ayC] using hW, by simp [ayC], aS.refl _ _⟩ ?_
 rintro j x w1 ⟨m, st', us, rfl, hj, rfl, oS1, hD, hU, hW1, hlen, x1⟩
 unfold rJ yU
 rcases j with _ | j
 .have d1 : decide (((3 - 0 : Nat) : Int) < 3) = false := rfl
  simp (disch := omega) only [aC, aX, d1, fH, true_and, aA, dZ, aT, cW, aE]
  exact hk _ st' us oS1 (fun k hk => hD k hk (by unfold aBu; split <;> (try split) <;> omega)) hW1 x1
 obtain ⟨r, hr⟩ : ∃ r, r = 2 - j := ⟨_, rfl⟩
 have hr3 : r < 3 := by omega
 have ek : ((3 - (j + 1) : Nat) : Int) = (r : Int) := by omega
 have ek2 : 3 - (j + 1) = r := by omega
 have ek3 : 3 - j = r + 1 := by omega
 have d1 : decide ((r : Int) < 3) = true := by simp; omega
 have hx : (#[Value.int .i64 1, .int .i64 2, .int .i64 0] : Array aJb)[r]? = some (.int .i64 (auO r : Nat)) := by
  rcases (show r = 0 ∨ r = 1 ∨ r = 2 by omega) with rfl | rfl | rfl <;> rfl
 have hk3 := aDG r
 have hpo := aBA hr3
 obtain ⟨k, hkk⟩ : ∃ k, k = auO r := ⟨_, rfl⟩
 rw [ek]
 rw [ek2] at hD hU hW1 hlen
 rw [<- hkk] at hx hk3 hpo
 obtain ⟨hck, hcl⟩ := hcc k hk3
 obtain ⟨hGk, hRk, hEk⟩ := hG k hk3
 have xc1 : aS wc w1 cM := xc.trans x1 fun b hb h => by have := xc.size; omega
 have hT1 := hTc.ext xc1
 have hC1 := hCc.ext xc1 (fun _ _ _ h => h)
 have oE1 := oE.ext x1 (by omega)
 have oT1 := oT.ext x1 (by omega)
 obtain ⟨b, off, c', ev, hcell⟩ := aDw hC1 hk3 hck
 have cE := oE1.cell (off := k)
 rw [aAy _ hk3, ev] at cE
 have hc53 : kZ k <= 53 := by rcases (show k = 0 ∨ k = 1 ∨ k = 2 by omega) with rfl | rfl | rfl <;> decide
 have hiL : i < (L k).length := by
  rcases aHd i (L k).length with h | h
  .exact h
  .rw [aHa h] at hck; cases hck
 have ew : IntKind.u8.wrap ((cc k : Nat) : Int) = ((cc k : Nat) : Int) := Qf (by omega) (by omega)
 have l1 := gI (off := k * 2) oT1 (by simp [c6]; omega)
 rw [apQ _ _ hk3] at l1
 have hlt512 : (t k).2.length <= 512 := by rw [hGk.len]; exact aG0 (by omega) hGk.lg
 have hlpos : 0 < (t k).2.length := by rw [hGk.len]; exact aHp _
 obtain ⟨tb, htb⟩ := (hT1 k hk3).tbl hlpos
 have n0 : ((0 : Int) != 0) = false := rfl
 by_cases hlast : i + 1 = n
 .have n1 : ((i : Int) == (n : Int) - 1) = true := by simp; omega
  simp (disch := omega) only [aC, aX, d1, BL, aGO, hx, aI, fH, true_and, aA, dZ, aT, cW, n1, aF, sJ, aGP, eK, xR, cL, cE, dJ, bZ, hcell, kT, ew, l1]
  refine (aEd htb (by omega) (cc k : Nat)).mono ?_
  rintro rr w2 ⟨hF, x2⟩
  rcases hF with ⟨s', hs', rfl, hsy, _⟩ | ⟨_, hno⟩
  rotate_left
  .obtain ⟨e, he, hes⟩ := hEk
   obtain ⟨y, hy, rfl⟩ := aHl he
   exact absurd hes (hno y hy)
  have oS2 := oS1.ext x2 (fun h => h)
  simp (disch := omega) only [Ch, B7, aA, eT, n0, aE]
  refine sH oS2 rfl (by simp [s3L]; omega) fun w3 o3 x3 s3 => ?_
  rw [arB _ hk3] at o3
  have e1 : (r : Int) + 1 = ((3 - j : Nat) : Int) := by omega
  unfold nU
  simp (disch := omega) only [aC, bM, e1, aT, aA]
  refine ⟨j, by omega, j, upS st' k s', upU us k [], rfl, by omega, rfl, o3, fun q hq hqp => ?_, fun q hq hqp => ?_, ?_, ?_, ?_⟩
  .rw [ek3, ZY hr3 hq, <- hkk] at hqp
   unfold upS upU
   by_cases hqk : q = k
   .subst hqk
    rw [if_pos rfl, if_pos rfl]
    refine ⟨⟨_, aGX hs', hsy⟩, ?_⟩
    rw [decide_eq_true hlast] <;> rfl
   .rw [if_neg hqk, if_neg hqk]
    exact hD q hq (by rcases hqp with h | h
                      .exact h
                      .exact absurd h hqk)
  .rw [ek3, ZY hr3 hq, <- hkk] at hqp
   unfold upS
   rw [if_neg (fun h => hqp (.inr h))]
   exact hU q hq (fun h => hqp (.inl h))
  .rw [ek3, hkk, Uy us hr3, aHC]
   exact (hW1.ext x2 (fun h => h) (fun _ _ h => h)).ext x3 (by omega) (fun b hb h => by omega)
  .rw [ek3, hkk, Uy us hr3, aHC]; omega
  .exact (x1.more x2).seq (x3.mono fun _ _ h => .inr (.inl h))
 .have n1 : ((i : Int) == (n : Int) - 1) = false := by simp; omega
  have hstk := hst (by omega) k hk3
  have hUk := hU k hk3 (by rw [hpo]; omega)
  have l1d := gI (off := k * 2) (dO oT1) (by simp [c6]; omega)
  rw [apQ _ _ hk3] at l1d
  have c1d := (dO oS1).cell (off := k)
  rw [apZ _ hk3, hUk] at c1d
  simp (disch := omega) only [aC, aX, d1, BL, aGO, hx, aI, fH, true_and, aA, dZ, aT, cW, n1, aE, sJ, aGP, eK, xR, bZ, cL, cE, dJ, hcell, kT, ew, l1d, c1d, aF]
  obtain ⟨tb, htb⟩ := (hT1.ext (aS.dr w1 cM) k hk3).tbl hlpos
  refine (aCf htb hGk.low (by omega) (st k) hstk (cc k : Nat)).mono ?_
  rintro rr w2 ⟨hF, x2⟩
  have x12 : aS w1 w2 cM := (aS.dr _ _).seq x2
  rcases hF with ⟨s', e, hs', hin, rfl⟩ | ⟨hno, _⟩
  rotate_left
  .obtain ⟨y, e, hy, hin⟩ := hRk (cc k : Nat) hEk (st k) hstk
   rw [hno y e hy] at hin; cases hin
  obtain ⟨nb, hnb1, hnb2, hnb3, hnb4⟩ := hGk.low _ (aIc hs')
  obtain ⟨e0, e1', e2⟩ := e
  simp only at hnb1 hnb3 hnb4
  subst hnb1
  unfold inE at hin
  simp only [decide_eq_true_eq, aGO] at hin
  obtain ⟨g0, g1, g2⟩ := hin
  obtain ⟨xx, hxx⟩ : ∃ xx : Nat, (st k : Int) - e2 = xx := ⟨((st k : Int) - e2).toNat, by omega⟩
  have hp2 : (2 : Int) ^ nb = ((2 ^ nb : Nat) : Int) := by simp
  rw [hp2] at g2
  have hxl : xx < 2 ^ nb := by omega
  have hp20 : 2 ^ nb <= 2 ^ 20 := aG0 (by omega) hnb2
  have hs's : s' < (t k).2.length := by
   rcases aHd s' (t k).2.length with h | h
   .exact h
   .rw [aHa h] at hs'; cases hs'
  simp (disch := omega) only [hxx, x40, x41, x42, x43, aA, eT, n0, aE, true_and]
  have hW2 := hW1.ext x12 (fun h => h) (fun _ _ h => h)
  refine (anQ (x := xx) (n := nb) hW2 (fun b hb => by have := x12.size; have := x1.size; omega) (by omega) (by omega) (by rw [aGY]; omega)).mono ?_
  rintro rr w3 ⟨rfl, hW3, x3⟩
  have oS3 := (oS1.ext x12 (fun h => h)).ext x3 (by omega)
  refine sH oS3 rfl (by simp [s3L]; omega) fun w4 o4 x4 s4 => ?_
  rw [arB _ hk3] at o4
  have e1 : (r : Int) + 1 = ((3 - j : Nat) : Int) := by omega
  unfold nU
  simp (disch := omega) only [aC, bM, e1, aT, aA]
  refine ⟨j, by omega, j, upS st' k s', upU us k (gC xx nb), rfl, by omega, rfl, o4, fun q hq hqp => ?_, fun q hq hqp => ?_, ?_, ?_, ?_⟩
  .rw [ek3, ZY hr3 hq, <- hkk] at hqp
   unfold upS upU
   by_cases hqk : q = k
   .subst hqk
    rw [if_pos rfl, if_pos rfl]
    refine ⟨⟨_, hs', g0⟩, ?_⟩
    rw [decide_eq_false hlast]
    exact ⟨_, nb, xx, hs', rfl, hxl, by simp only; omega, rfl⟩
   .rw [if_neg hqk, if_neg hqk]
    exact hD q hq (by rcases hqp with h | h
                      .exact h
                      .exact absurd h hqk)
  .rw [ek3, ZY hr3 hq, <- hkk] at hqp
   unfold upS
   rw [if_neg (fun h => hqp (.inr h))]
   exact hU q hq (fun h => hqp (.inl h))
  .rw [ek3, hkk, Uy us hr3, <- aG2]
   exact hW3.ext x4 (by omega) (fun b hb h => by omega)
  .rw [ek3, hkk, Uy us hr3, aGY, dH]; omega
  .exact ((x1.more x12).seq (x3.mono fun _ _ h => by rcases h with h | h; exact .inl h; exact .inr (.inr h))).seq (x4.mono fun _ _ h => .inr (.inl h))
def vb (q : Sq) (cc : Nat -> Nat) (k : Nat) : List Bool := gC (kv q k - (rF k).getD (cc k) 0) ((kL k).getD (cc k) 0)
def axK (us : Nat -> List Bool) (r : Nat) : List Bool := if r = 0 then [] else if r = 1 then us 0 else if r = 2 then us 0 ++ us 2 else us 0 ++ us 2 ++ us 1
theorem aBK (us : Nat -> List Bool) {r : Nat} (h : r < 3) : axK us (r + 1) = axK us r ++ us (KA r) := by
 rcases (show r = 0 ∨ r = 1 ∨ r = 2 by omega) with rfl | rfl | rfl <;> simp [axK, KA]
theorem aBl {k4 : K6} {lv : aJb} {pe pt p ps pv i : Nat} {L : Nat -> List Nat} {v : Nat -> aJb} {D : Nat -> Nat -> Prop} {cc : Nat -> Nat} {q : Sq} {B : List Bool} {wc w : aJa}
 (hg : uA wc) (hCc : C3 wc 0 L v D) (xc : aS wc w cM) (hge : wc.heap.size <= pe /\ pe < pt /\ pt < p /\ p < ps /\ ps < pv) (oE : cJ w pe (vL v)) (oV : cJ w pv (kvL q)) (hW : Ws w (fun b => ps < b /\ b ≠ pv) p B)
 (hcc : ∀ k, k < 3 -> (L k)[i]? = some (cc k) /\ tW k (kv q k) (cc k)) (hB : B.length <= 90000000)
 (hk : ∀ (w' : aJa), Ws w' (fun b => ps < b /\ b ≠ pv) p (B ++ (vb q cc 0 ++ vb q cc 2 ++ vb q cc 1)) -> aS w w' (fun y => y = p ∨ (ps < y /\ y ≠ pv)) -> k4 lv (.pointer (some ⟨pe, 0, none⟩)) (.pointer (some ⟨pt, 0, none⟩)) (.pointer (some ⟨p, 0, none⟩)) (.pointer (some ⟨ps, 0, none⟩)) (.int .i64 i) w') :
 rY k4 lv (.pointer (some ⟨pe, 0, none⟩)) (.pointer (some ⟨pt, 0, none⟩)) (.pointer (some ⟨p, 0, none⟩)) (.pointer (some ⟨ps, 0, none⟩)) (.int .i64 i) (.pointer (some ⟨pv, 0, none⟩)) (.agg #[.int .i64 0, .int .i64 2, .int .i64 1]) (.int .i64 0) w := by
 have hpv := oV.lt
 unfold rY
 refine cG.rule (fun m (x : aJb) w' => ∃ (j : Nat), m = j /\ j <= 3 /\ x = .int .i64 (3 - j : Nat) /\ Ws w' (fun b => ps < b /\ b ≠ pv) p (B ++ axK (vb q cc) (3 - j)) /\ (axK (vb q cc) (3 - j)).length <= 31 * (3 - j) /\ aS w w' (fun y => y = p ∨ (ps < y /\ y ≠ pv))) 3
  ⟨3, rfl, aGZ _, rfl, by simpa [axK] using hW, by simp [axK], aS.refl _ _⟩ ?_
 rintro j x w1 ⟨m, rfl, hj, rfl, hW1, hlen, x1⟩
 unfold sQ
 rcases j with _ | j
 .have d1 : decide (((3 - 0 : Nat) : Int) < 3) = false := rfl
  simp (disch := omega) only [aC, aX, d1, bM, aT, aA, aE]
  exact hk _ hW1 x1
 obtain ⟨r, hr⟩ : ∃ r, r = 2 - j := ⟨_, rfl⟩
 have hr3 : r < 3 := by omega
 have ek : ((3 - (j + 1) : Nat) : Int) = (r : Int) := by omega
 have ek2 : 3 - (j + 1) = r := by omega
 have ek3 : 3 - j = r + 1 := by omega
 have d1 : decide ((r : Int) < 3) = true := by simp; omega
 have hx : (#[Value.int .i64 0, .int .i64 2, .int .i64 1] : Array aJb)[r]? = some (.int .i64 (KA r : Nat)) := by
  rcases (show r = 0 ∨ r = 1 ∨ r = 2 by omega) with rfl | rfl | rfl <;> rfl
 have hk3 := YZ r
 obtain ⟨k, hkk⟩ : ∃ k, k = KA r := ⟨_, rfl⟩
 rw [ek]
 rw [ek2] at hW1 hlen
 have hOS := aBK (vb q cc) hr3
 rw [<- hkk] at hx hk3 hOS
 obtain ⟨hck, hcv⟩ := hcc k hk3
 have xc1 : aS wc w1 cM := xc.trans x1 fun b hb h => by have := xc.size; omega
 have hC1 := hCc.ext xc1 (fun _ _ _ h => h)
 have oE1 := oE.ext x1 (by omega)
 have oV1 := oV.ext x1 (by omega)
 obtain ⟨b, off, c', ev, hcell⟩ := aDw hC1 hk3 hck
 have cE := oE1.cell (off := k)
 rw [aAy _ hk3, ev] at cE
 have hiL : i < (L k).length := by
  rcases aHd i (L k).length with h | h
  .exact h
  .rw [aHa h] at hck; cases hck
 simp (disch := omega) only [aC, aX, d1, BL, aGO, hx, aI, bM, aT, aA, sJ, aGP, MJ, tL, cL, cE, dJ, bZ, hcell, aF]
 refine (aDm (hg.ext xc1) hk3 hcv.1).mono ?_
 rintro rr w2 ⟨rfl, x2⟩
 have cV := (oV1.ext x2 (fun h => h)).cell (off := k)
 have hkv : (kvL q)[k]? = some (.int .u32 (kv q k : Nat)) := by
  rcases (show k = 0 ∨ k = 1 ∨ k = 2 by omega) with rfl | rfl | rfl <;> rfl
 rw [hkv] at cV
 have hcl := hcv.lt hk3
 have hc1 := hcv.2.1
 have ha := Zq hk3 (cc k)
 have hvb : vb q cc k = gC (kv q k - (rF k).getD (cc k) 0) ((kL k).getD (cc k) 0) := rfl
 have e1 : (r : Int) + 1 = ((3 - j : Nat) : Int) := by omega
 generalize (rF k).getD (cc k) 0 = bg at *
 generalize (kL k).getD (cc k) 0 = ad at *
 obtain ⟨y, hy⟩ : ∃ y, y = kv q k - bg := ⟨_, rfl⟩
 rw [<- hy] at hvb
 have es : IntKind.u32.wrap (((kv q k : Nat) : Int) - (bg : Int)) = (y : Int) := by rw [w32 (by omega) (by omega)]; omega
 have ey : IntKind.u64.wrap (y : Int) = (y : Int) := hJ (by omega) (by omega)
 simp (disch := omega) only [SE, SF, SD, aA, cV, aI, dZ, es, nI, ey]
 refine (anQ (x := y) (n := ad) (hW1.ext x2 (fun h => h) (fun _ _ h => h)) (fun b hb => by have := x2.size; have := x1.size; omega) (by omega) (by omega) (by rw [aGY]; omega)).mono ?_
 rintro rr w3 ⟨rfl, hW3, x3⟩
 simp (disch := omega) only [e1]
 rw [aG2, <- hvb, <- hOS, <- ek3] at hW3
 refine ⟨j, by omega, j, rfl, by omega, rfl, hW3, ?_, (x1.more x2).seq x3⟩
 rw [ek3, hOS, aGY, hvb, dH]; omega
theorem aCL {k6 : K1} {pt p ps : Nat} {t : Nat -> TT} {a : Nat -> Option Addr} {st : Nat -> Nat} {B : List Bool} {w : aJa} (hge : pt < p /\ p < ps) (oT : cJ w pt (c6 t a)) (oS : cJ w ps (s3L st)) (hW : Ws w (fun b => ps < b) p B) (hlg : ∀ k, k < 3 -> (t k).1 <= 9) (hst : ∀ k, k < 3 -> st k < 1000) (hB : B.length <= 90000000)
 (hk : ∀ (w' : aJa), Ws w' (fun b => ps < b) p (B ++ gC (st 2) (t 2).1 ++ gC (st 1) (t 1).1 ++ gC (st 0) (t 0).1) -> aS w w' (fun y => y = p ∨ ps < y) -> k6 (.pointer (some ⟨p, 0, none⟩)) w') :
 sT k6 (.pointer (some ⟨pt, 0, none⟩)) (.pointer (some ⟨p, 0, none⟩)) (.pointer (some ⟨ps, 0, none⟩)) (.agg #[.int .i64 2, .int .i64 1, .int .i64 0]) (.int .i64 0) w := by
 have hps := oS.lt
 have hsum : ∃ f : Nat -> List Bool, f 0 = B /\ f 1 = B ++ gC (st 2) (t 2).1 /\ f 2 = B ++ gC (st 2) (t 2).1 ++ gC (st 1) (t 1).1 /\ f 3 = B ++ gC (st 2) (t 2).1 ++ gC (st 1) (t 1).1 ++ gC (st 0) (t 0).1 := by
  exact ⟨fun r => if r = 0 then B else if r = 1 then B ++ gC (st 2) (t 2).1 else if r = 2 then B ++ gC (st 2) (t 2).1 ++ gC (st 1) (t 1).1 else B ++ gC (st 2) (t 2).1 ++ gC (st 1) (t 1).1 ++ gC (st 0) (t 0).1, rfl, rfl, rfl, rfl⟩
 obtain ⟨f, f0, f1, f2, f3⟩ := hsum
 have hf : ∀ r, r < 3 -> f (r + 1) = f r ++ gC (st (2 - r)) (t (2 - r)).1 := fun r hr => by
  rcases (show r = 0 ∨ r = 1 ∨ r = 2 by omega) with rfl | rfl | rfl
  .rw [f1, f0]
  .rw [f2, f1]
  .rw [f3, f2]
 rw [<- f3] at hk
 unfold sT
 refine cG.rule (fun m (x : aJb) w' => ∃ (j : Nat), m = j /\ j <= 3 /\ x = .int .i64 (3 - j : Nat) /\ Ws w' (fun b => ps < b) p (f (3 - j)) /\ (f (3 - j)).length <= B.length + 9 * (3 - j) /\ aS w w' (fun y => y = p ∨ ps < y)) 3
  ⟨3, rfl, aGZ _, rfl, by rw [show 3 - 3 = 0 from rfl, f0]; exact hW, by rw [show 3 - 3 = 0 from rfl, f0]; omega, aS.refl _ _⟩ ?_
 rintro j x w1 ⟨m, rfl, hj, rfl, hW1, hlen, x1⟩
 unfold sY
 rcases j with _ | j
 .have d1 : decide (((3 - 0 : Nat) : Int) < 3) = false := rfl
  simp (disch := omega) only [aC, aX, d1, bM, aT, aA, true_and, aE]
  exact hk _ hW1 x1
 obtain ⟨r, hr⟩ : ∃ r, r = 2 - j := ⟨_, rfl⟩
 have hr3 : r < 3 := by omega
 have ek : ((3 - (j + 1) : Nat) : Int) = (r : Int) := by omega
 have ek2 : 3 - (j + 1) = r := by omega
 have ek3 : 3 - j = r + 1 := by omega
 have d1 : decide ((r : Int) < 3) = true := by simp; omega
 have hx : (#[Value.int .i64 2, .int .i64 1, .int .i64 0] : Array aJb)[r]? = some (.int .i64 (2 - r : Nat)) := by
  rcases (show r = 0 ∨ r = 1 ∨ r = 2 by omega) with rfl | rfl | rfl <;> rfl
 have hfr := hf r hr3
 obtain ⟨k, hkk⟩ : ∃ k, k = 2 - r := ⟨_, rfl⟩
 have hk3 : k < 3 := by omega
 rw [ek]
 rw [ek2] at hW1 hlen
 rw [<- hkk] at hx hfr
 have hlgk := hlg k hk3
 have hstk := hst k hk3
 have oT1 := dO (oT.ext x1 (by omega))
 have oS1 := dO (oS.ext x1 (by omega))
 have cS := oS1.cell (off := k)
 rw [apZ _ hk3] at cS
 have cT := oT1.cell (off := k * 2)
 have hcT : (c6 t a)[k * 2]? = some (.int .i64 (t k).1) := by
  rcases (show k = 0 ∨ k = 1 ∨ k = 2 by omega) with rfl | rfl | rfl <;> rfl
 rw [hcT] at cT
 have ey : IntKind.u64.wrap ((st k : Nat) : Int) = ((st k : Nat) : Int) := hJ (by omega) (by omega)
 have e1 : (r : Int) + 1 = ((3 - j : Nat) : Int) := by omega
 simp (disch := omega) only [aC, aX, d1, BL, aGO, hx, aI, bM, aT, aA, true_and, xR, aGP, eK, zE, bZ, cS, cT, fW, ey, aF]
 refine (anQ (x := st k) (n := (t k).1) (hW1.ext (aS.dr w1 cM) (fun h => h) (fun _ _ h => h)) (fun b hb => by have h1 : (dr w1).heap.size = w1.heap.size := rfl
                                                                                                              have := x1.size; omega) (by omega) (by omega) (by omega)).mono ?_
 rintro rr w3 ⟨rfl, hW3, x3⟩
 simp (disch := omega) only [e1]
 rw [<- hfr, <- ek3] at hW3
 refine ⟨j, by omega, j, rfl, by omega, rfl, hW3, ?_, x1.seq ((aS.dr _ _).seq x3)⟩
 rw [ek3, hfr, aGY, dH]; omega
def arF (t : Nat -> TT) (st : Nat -> Nat) (X : List Bool) : List Bool := X ++ gC (st 2) (t 2).1 ++ gC (st 1) (t 1).1 ++ gC (st 0) (t 0).1
def aFO (w : aJa) (base : Nat) (l : List Sq) (t : Nat -> TT) (r : aJb) : Prop :=
 ∃ bv bytes X st, r = .tuple #[bv, .int .i64 0] /\ Bs w bv bytes /\ AtI bv base w.heap.size /\ aaI (arF t st X ++ [true]) bytes /\ Enc (t 0).2 (t 1).2 (t 2).2 l (st 0) (st 1) (st 2) X /\ (∀ k, k < 3 -> st k < (t k).2.length) /\ X.length <= 200 * l.length
theorem Ws.wr {w : aJa} {S : Nat -> Prop} {p : Nat} {B : List Bool} (h : Ws w S p B) : Wr w 0 p B := by
 have h1 := h.turn (T := fun b => 0 <= b /\ b ≠ p) (fun h => h.2 rfl) (fun b hb _ => ⟨aHZ _, fun e => h.1 (e ▸ hb)⟩)
 obtain ⟨h0, v, bytes, a, b, c⟩ := h1
 exact ⟨aHZ _, v, bytes, a, b, c⟩
theorem arP (w : aJa) : aR pg pY #[] w (fun r w' => r = .pointer (some ⟨w.heap.size, 0, none⟩) /\ w'.heap.size = w.heap.size + 1 /\ Ws w' (fun _ => False) w.heap.size [] /\ aS w w' cM) := by
 refine Ik ?_
 unfold KG xB
 simp (disch := omega) only [aC, A9, aA]
 refine fY fun w1 o1 x1 s1 => ?_
 simp only [Value.cells] at o1
 exact ⟨rfl, by omega, ⟨fun h => h, _, [], o1, ⟨rfl, .inl ⟨rfl, rfl⟩⟩, avW⟩, x1⟩
theorem ayF {q : Sq} {k s t : Nat} {L : List T3} {cc : Nat -> Nat} {u : List Bool} {last : Bool} (hc : tW k (kv q k) (cc k)) (h : awD last L (cc k) s t u) : ValB k L s (kv q k) (vb q cc k) := by
 obtain ⟨⟨e, he, hes⟩, _⟩ := h
 exact ⟨cc k, e, hc, he, hes, rfl⟩
theorem aCd (q : Sq) (cc : Nat -> Nat) {k : Nat} (hk : k < 3) : (vb q cc k).length <= 31 := by
 unfold vb; rw [dH]; exact Zq hk _
theorem I0 {last : Bool} {L : List T3} {c s t : Nat} {u : List Bool} (hL : Low L) (h : awD last L c s t u) : u.length <= 20 := by
 obtain ⟨_, h2⟩ := h
 split at h2
 .rw [h2]; simp
 .obtain ⟨e, n, x, he, hn, _, _, rfl⟩ := h2
  obtain ⟨m, h3, h4, _⟩ := hL _ (aIc he)
  rw [dH]; omega
theorem aCB {last : Bool} {L : List T3} {c s t : Nat} {u : List Bool} (h : awD last L c s t u) : s < L.length := by
 obtain ⟨⟨e, he, _⟩, _⟩ := h
 rcases aHd s L.length with h | h
 .exact h
 .rw [aHa h] at he; cases he
theorem aCE {lv : aJb} {l : List Sq} {L : Nat -> List Nat} {v : Nat -> aJb} {D : Nat -> Nat -> Prop} {t : Nat -> TT} {a : Nat -> Option Addr} {w : aJa} (hg : uA w) (h : Cl w 3 lv l.length (Zn l)) (h0 : 0 < l.length) (hl : l.length <= 10000) (hC : C3 w 0 L v D) (hK : ∀ k, k < 3 -> WR k l (L k)) (hT : Ol w t a)
 (hG : ∀ k, k < 3 -> yQ k (t k) /\ alX (t k).2 /\ ∀ c ∈ L k, ∃ e ∈ (t k).2, e.1 = (c : Int)) :
 aR pg uR #[lv, .agg (vL v).toArray, .agg (c6 t a).toArray] w (fun r w' => aFO w' w.heap.size l t r /\ aS w w' cM) := by
 refine Se ?_
 obtain ⟨RR, hRR⟩ : ∃ RR : aJb -> aJa -> Prop, RR = fun r w' => aFO w' w.heap.size l t r /\ aS w w' cM := ⟨_, rfl⟩
 rw [<- hRR]
 have hf := h
 obtain ⟨la, lc, rfl, _⟩ := hf
 unfold Pk yC xJ
 refine fY fun w1 o1 x1 s1 => ?_
 refine fY fun w2 o2 x2 s2 => ?_
 obtain ⟨y0, y1, y2, f0, f1, f2⟩ := hC.form
 have o1 : cJ w1 w.heap.size (vL v) := by
  have e : (Value.agg (vL v).toArray).cells.toList = vL v := by unfold vL; rw [f0, f1, f2] <;> rfl
  rw [e] at o1
  exact o1
 have o2 : cJ w2 w1.heap.size (c6 t a) := o2
 refine (arP w2).mono ?_
 rintro r w3 ⟨rfl, hlt3, hW3, x3⟩
 refine aoD fun w4 o4 x4 s4 => ?_
 have o4 : cJ w4 w3.heap.size (s3L (fun _ => 0)) := o4
 have x04 : aS w w4 cM := ((x1.seq x2).seq x3).seq x4
 obtain ⟨pe, hpe⟩ : ∃ pe, pe = w.heap.size := ⟨_, rfl⟩
 obtain ⟨pt, hpt⟩ : ∃ pt, pt = w1.heap.size := ⟨_, rfl⟩
 obtain ⟨p, hp⟩ : ∃ p, p = w2.heap.size := ⟨_, rfl⟩
 obtain ⟨ps, hps⟩ : ∃ ps, ps = w3.heap.size := ⟨_, rfl⟩
 have oE : cJ w4 pe (vL v) := by rw [hpe]; exact ((o1.ext x2 (fun h => h)).ext x3 (fun h => h)).ext x4 (fun h => h)
 have oT : cJ w4 pt (c6 t a) := by rw [hpt]; exact (o2.ext x3 (fun h => h)).ext x4 (fun h => h)
 have hW4 : Ws w4 (fun b => ps < b) p [] := by
  have h1 := hW3.ext x4 (fun h => h) (fun _ h => h.elim)
  rw [hp]
  exact h1.turn (by omega) (fun b h => h.elim)
 rw [<- hpe, <- hpt, <- hp, <- hps]
 rw [<- hps] at o4
 have hge : w.heap.size <= pe /\ pe < pt /\ pt < p /\ p < ps := ⟨by omega, by omega, by omega, by omega⟩
 have hlg : ∀ k, k < 3 -> (t k).1 <= 9 := fun k hk => (hG k hk).1.lg
 unfold yH xL xK
 simp (disch := omega) only [aC, fH, aA, dZ, aT]
 unfold yD yX
 refine cG.rule (fun k (x : aJb) w' => ∃ (m : Nat) (st : Nat -> Nat) (B : List Bool), k = m /\ m <= l.length /\ x = .int .i64 ((m : Int) - 1) /\ cJ w' ps (s3L st) /\ Ws w' (fun b => ps < b) p B /\ (m < l.length -> Enc (t 0).2 (t 1).2 (t 2).2 (l.drop m) (st 0) (st 1) (st 2) B /\ ∀ k, k < 3 -> st k < (t k).2.length) /\ (m = l.length -> B = []) /\ B.length <= 200 * (l.length - m) /\ aS w4 w' (fun y => y = p ∨ y = ps ∨ ps < y)) l.length
  ⟨l.length, fun _ => 0, [], rfl, aGZ _, rfl, o4, hW4, fun h => by omega, fun _ => rfl, by simp, aS.refl _ _⟩ ?_
 rintro k x w5 ⟨m, st, B, rfl, hm, rfl, o5, hW5, hEn, hE0, hBl, x5⟩
 unfold rW xG
 have z04 := x04.size
 have x05 : aS w w5 cM := x04.trans x5 fun b hb h => by omega
 have oE5 := oE.ext x5 (by omega)
 have oT5 := oT.ext x5 (by omega)
 rcases k with _ | i
 .obtain ⟨hEn, hst⟩ := hEn h0
  rw [aGT] at hEn
  have d1 : decide ((0 : Int) <= ((0 : Nat) : Int) - 1) = false := rfl
  simp (disch := omega) only [aC, pD, d1, aA, aE]
  unfold Ag Aq Ar
  simp (disch := omega) only [aC, pX, aA]
  unfold Ak
  have hst' : ∀ k, k < 3 -> st k < 1000 := fun k hk => by
   have h1 := hst k hk
   have h2 : (t k).2.length <= 512 := by rw [(hG k hk).1.len]; exact aG0 (by omega) (hlg k hk)
   omega
  refine aCL ⟨hge.2.2.1, hge.2.2.2⟩ oT5 o5 hW5 hlg hst' (by omega) fun w6 hW6 x6 => ?_
  unfold sX
  have hlen : (B ++ gC (st 2) (t 2).1 ++ gC (st 1) (t 1).1 ++ gC (st 0) (t 0).1).length <= 10000000 := by
   simp only [aGY, dH]
   have := hlg 0 (by omega); have := hlg 1 (by omega); have := hlg 2 (by omega)
   omega
  refine (aBX hW6.wr hlen).mono ?_
  rintro r w7 ⟨bytes, hb7, hh, hat, x7⟩
  rw [hRR]
  have x06 : aS w w6 cM := x05.trans x6 fun b hb h => by omega
  have z6 := x06.size
  refine ⟨⟨r, bytes, B, st, rfl, hb7, fun M hM => hat M fun b h1 h2 => hM b (by omega) h2, hh, hEn, hst, by omega⟩, x06.seq x7⟩
 .have d1 : decide ((0 : Int) <= ((i + 1 : Nat) : Int) - 1) = true := by simp
  have e1 : ((i + 1 : Nat) : Int) - 1 = (i : Int) := by omega
  have d2 : decide ((0 : Int) <= (i : Int)) = true := by simp
  rw [e1]
  simp (disch := omega) only [aC, pD, d2, aA, aF]
  unfold yG xW Gh yM yL
  simp (disch := omega) only [aC, pX, aA]
  unfold xI
  obtain ⟨q, hq⟩ : ∃ q, l[i]? = some q := ⟨_, aGX hm⟩
  have hcx : ∃ cc : Nat -> Nat, ∀ k, k < 3 -> (L k)[i]? = some (cc k) := by
   have hj : ∀ k, k < 3 -> ∃ c, (L k)[i]? = some c := fun k hk => ⟨_, aGX (by rw [(hK k hk).1]; exact hm)⟩
   obtain ⟨c0, h0⟩ := hj 0 (by omega)
   obtain ⟨c1, h1⟩ := hj 1 (by omega)
   obtain ⟨c2, h2⟩ := hj 2 (by omega)
   refine ⟨fun k => if k = 0 then c0 else if k = 1 then c1 else c2, fun k hk => ?_⟩
   rcases (show k = 0 ∨ k = 1 ∨ k = 2 by omega) with rfl | rfl | rfl
   .exact h0
   .exact h1
   .exact h2
  obtain ⟨cc, hcc⟩ := hcx
  have hcv : ∀ k, k < 3 -> tW k (kv q k) (cc k) := fun k hk => (hK k hk).2 i q _ hq (hcc k hk)
  refine auG (n := l.length) (cc := cc) hT hC x05 hge oE5 oT5 o5 hW5 hm (by omega) (fun k hk => ⟨hcc k hk, (hcv k hk).1⟩) (fun k hk => ⟨(hG k hk).1, (hG k hk).2.1, (hG k hk).2.2 _ (aIc (hcc k hk))⟩) (fun h => (hEn h).2) (by omega) fun w6 st' us o6 hS hW6 x6 => ?_
  have z5 := x5.size
  have x06 : aS w w6 cM := x05.trans x6 fun b hb h => by omega
  unfold yV yE
  obtain ⟨b, off, c', e, lq⟩ := akG (TG h x06 (cD _) (by omega)) hq
  cases e
  have lq6 := lq w6 (fun _ => rfl)
  simp only [YB] at lq6
  simp (disch := omega) only [aC, nG, aGO, pX, aA, lq6]
  refine (avA q _).mono ?_
  rintro r w7 ⟨rfl, x7⟩
  refine Vp fun w8 o8 x8 s8 => ?_
  refine T7 o8 rfl (by simp [one, kvL]) (by simp) fun w9 o9 x9 s9 => ?_
  obtain ⟨pv, hpv⟩ : ∃ pv, pv = w7.heap.size := ⟨_, rfl⟩
  rw [<- hpv] at o9 ⊢
  have o9 : cJ w9 pv (kvL q) := o9
  have x69 : aS w6 w9 cM := x7.seq (x8.new x9 (aGZ _))
  have z7 := x7.size
  have hps6 := o6.lt
  have x09 := x06.seq x69
  have hW9 : Ws w9 (fun b => ps < b /\ b ≠ pv) p (B ++ (us 1 ++ us 2 ++ us 0)) := by
   have h1 := hW6.turn (T := fun b => ps < b /\ b < w6.heap.size) (by omega) (fun b hb hl => ⟨hb, hl⟩)
   have h2 := h1.ext x69 (fun h => h) (fun _ _ h => h)
   exact h2.turn (by omega) (fun b hb _ => ⟨hb.1, by omega⟩)
  unfold xY
  have oE9 := (oE5.ext x6 (by omega)).ext x69 (fun h => h)
  refine aBl (q := q) (cc := cc) (i := i) hg hC x09 ⟨hge.1, hge.2.1, hge.2.2.1, hge.2.2.2, by omega⟩ oE9 o9 hW9 (fun k hk => ⟨hcc k hk, hcv k hk⟩) ?_ fun w10 hW10 x10 => ?_
  .have u0 := I0 (hG 0 (by omega)).1.low (hS 0 (by omega))
   have u1 := I0 (hG 1 (by omega)).1.low (hS 1 (by omega))
   have u2 := I0 (hG 2 (by omega)).1.low (hS 2 (by omega))
   simp only [aGY]; omega
  unfold sU
  simp (disch := omega) only [aC, dZ, aT, aA]
  have u0 := I0 (hG 0 (by omega)).1.low (hS 0 (by omega))
  have u1 := I0 (hG 1 (by omega)).1.low (hS 1 (by omega))
  have u2 := I0 (hG 2 (by omega)).1.low (hS 2 (by omega))
  have v0 := aCd q cc (k := 0) (by omega)
  have v1 := aCd q cc (k := 1) (by omega)
  have v2 := aCd q cc (k := 2) (by omega)
  have hdr : l.drop i = q :: l.drop (i + 1) := by
   rw [aHn hm]
   congr 1
   rw [aGX hm] at hq
   exact aG8 hq
  have xz6 := x69.size
  have x6z : aS w4 w10 (fun y => y = p ∨ y = ps ∨ ps < y) := ((x5.seq x6).more x69).seq (x10.mono fun _ _ h => by
   rcases h with h | h
   .exact .inl h
   .exact .inr (.inr h.1))
  have o10 : cJ w10 ps (s3L st') := (o6.ext x69 (fun h => h)).ext x10 (by omega)
  refine ⟨i, by omega, i, st', _, rfl, by omega, rfl, o10, hW10.turn (by omega) (fun b hb _ => hb.1), fun _ => ⟨?_, fun k hk => aCB (hS k hk)⟩, fun h => by omega, ?_, x6z⟩
  .have a0 := ayF (hcv 0 (by omega)) (hS 0 (by omega))
   have a1 := ayF (hcv 1 (by omega)) (hS 1 (by omega))
   have a2 := ayF (hcv 2 (by omega)) (hS 2 (by omega))
   rw [hdr]
   by_cases hlast : i + 1 = l.length
   .have hB0 := hE0 hlast
    have hd0 : l.drop (i + 1) = [] := aHW (by omega)
    have hus : ∀ k, k < 3 -> us k = [] := fun k hk => by
     have := (hS k hk).2
     rw [decide_eq_true hlast] at this
     exact this
    rw [hB0, hd0, hus 0 (by omega), hus 1 (by omega), hus 2 (by omega)]
    simp only [aHv, aHC]
    exact Enc.one a0 a1 a2
   .obtain ⟨hEn1, _⟩ := hEn (by omega)
    have hst : ∀ k, k < 3 -> StB (t k).2 (st' k) (st k) (us k) := fun k hk => by
     have := (hS k hk).2
     rw [decide_eq_false hlast] at this
     exact this
    cases hdd : l.drop (i + 1) with
    | nil =>
      have := congrArg List.length hdd
      rw [aHh] at this
      simp at this; omega
    | cons p' r' =>
      rw [hdd] at hEn1
      have := Enc.cons hEn1 (hst 1 (by omega)) (hst 2 (by omega)) (hst 0 (by omega)) a0 a1 a2
      simp only [aG2] at this ⊢
      exact this
  .simp only [aGY]; omega
theorem aDj {t : Nat -> TT} {st : Nat -> Nat} {X T : List Bool} {l : List Sq} (hE : Enc (t 0).2 (t 1).2 (t 2).2 l (st 0) (st 1) (st 2) X) (hst : ∀ k, k < 3 -> st k < 2 ^ (t k).1) (hT : T.take (arF t st X).length = arF t st X) : runT t T l.length ((arF t st X).length : Nat) = (l, 0) := by
 unfold arF at hT ⊢
 obtain ⟨a1, a2, a3⟩ := amL (B := []) hT rfl (hst 0 (by omega))
 obtain ⟨b1, b2, b3⟩ := amL (B := []) a3 rfl (hst 1 (by omega))
 obtain ⟨c1, c2, c3⟩ := amL (B := []) b3 rfl (hst 2 (by omega))
 have := aB4 hE c3
 unfold runT
 rw [a1, a2, b1, b2, c1, c2]
 exact this
theorem aBD {t : Nat -> TT} {st : Nat -> Nat} {X : List Bool} {l : List Sq} {bytes : List UInt8} (hE : Enc (t 0).2 (t 1).2 (t 2).2 l (st 0) (st 1) (st 2) X) (hst : ∀ k, k < 3 -> st k < 2 ^ (t k).1) (hh : aaI (arF t st X ++ [true]) bytes) : DI t l.length bytes = .ok (l, t) := by
 obtain ⟨h1, h2⟩ := aDk hh
 have h3 := aDj hE hst h2
 unfold DI
 rw [h1]
 simp only
 rw [h3]
 rfl
def Th (m : Nat -> Nat) : Nat := m 0 * 64 + m 1 * 16 + m 2 * 4
theorem asC {m : Nat -> Nat} (hm : ∀ k, k < 3 -> m k <= 3) {k : Nat} (hk : k < 3) : SC (Th m) k = m k := by
 have h0 := hm 0 (by omega); have h1 := hm 1 (by omega); have h2 := hm 2 (by omega)
 unfold SC Th
 rcases (show k = 0 ∨ k = 1 ∨ k = 2 by omega) with rfl | rfl | rfl
 .show (m 0 * 64 + m 1 * 16 + m 2 * 4) / 64 % 4 = m 0; omega
 .show (m 0 * 64 + m 1 * 16 + m 2 * 4) / 16 % 4 = m 1; omega
 .show (m 0 * 64 + m 1 * 16 + m 2 * 4) / 4 % 4 = m 2; omega
theorem aA5 {m : Nat -> Nat} {c : Nat -> List Int} {t : Nat -> TT} {bs : Nat -> List UInt8} (h : ∀ k : Nat, k < 3 -> Wy (k : Int) (c k) (m k : Nat) (t k).1 (t k).2 (bs k)) (o : Nat -> TT) (s : List UInt8) :
 DP (Th m) o 3 o (bs 0 ++ (bs 1 ++ (bs 2 ++ s))) = .ok (Ss (Ss (Ss o 0 (t 0)) 1 (t 1)) 2 (t 2), s) := by
 have hm : ∀ k, k < 3 -> m k <= 3 := fun k hk => by have := (h k hk).mode2; omega
 have e0 := asC hm (k := 0) (by omega)
 have e1 := asC hm (k := 1) (by omega)
 have e2 := asC hm (k := 2) (by omega)
 have r0 := (h 0 (by omega)).read (o 0) (bs 1 ++ (bs 2 ++ s))
 have r1 := (h 1 (by omega)).read (o 1) (bs 2 ++ s)
 have r2 := (h 2 (by omega)).read (o 2) s
 rw [DP]
 simp only [show 2 - 2 = 0 from rfl, e0]
 rw [r0]
 simp only [aIX]
 rw [DP]
 simp only [show 2 - 1 = 1 from rfl, e1]
 rw [r1]
 simp only [aIX]
 rw [DP]
 simp only [show 2 - 0 = 2 from rfl, e2]
 rw [r2]
 simp only [aIX]
 rfl
def aBs (n : Nat) (m : Nat -> Nat) (bs : Nat -> List UInt8) (s : List UInt8) : List UInt8 := ahD n ++ (UInt8.ofNat (Th m) :: (bs 0 ++ (bs 1 ++ (bs 2 ++ s))))
theorem aDt {l : List Sq} {m : Nat -> Nat} {c : Nat -> List Int} {t : Nat -> TT} {bs : Nat -> List UInt8} {st : Nat -> Nat} {X : List Bool} {s : List UInt8} (h0 : 0 < l.length) (hl : l.length <= 98047) (h : ∀ k : Nat, k < 3 -> Wy (k : Int) (c k) (m k : Nat) (t k).1 (t k).2 (bs k))
 (hE : Enc (t 0).2 (t 1).2 (t 2).2 l (st 0) (st 1) (st 2) X) (hst : ∀ k, k < 3 -> st k < (t k).2.length) (hh : aaI (arF t st X ++ [true]) s) (o : Nat -> TT) :
 ∃ t', tZ (aBs l.length m bs s) o = .ok (l, t') /\ ∀ k, k < 3 -> t' k = t k := by
 have hg : ∀ k, k < 3 -> yQ k (t k) := fun k hk => acC hk (h k hk)
 have hst' : ∀ k, k < 3 -> st k < 2 ^ (t k).1 := fun k hk => by rw [<- (hg k hk).len]; exact hst k hk
 have hm : ∀ k, k < 3 -> m k <= 2 := fun k hk => by have := (h k hk).mode2; omega
 have m0 := hm 0 (by omega); have m1 := hm 1 (by omega); have m2 := hm 2 (by omega)
 have hmod : Th m < 256 := by unfold Th; omega
 refine ⟨Ss (Ss (Ss o 0 (t 0)) 1 (t 1)) 2 (t 2), ?_, fun k hk => ?_⟩
 .unfold tZ aBs
  rw [aBM hl]
  simp only
  rw [if_neg (by omega)]
  unfold aqC
  simp only
  rw [Qe hmod, if_neg (by unfold Th; omega), aA5 h]
  simp only
  have e0 : Ss (Ss (Ss o 0 (t 0)) 1 (t 1)) 2 (t 2) 0 = t 0 := rfl
  have e1 : Ss (Ss (Ss o 0 (t 0)) 1 (t 1)) 2 (t 2) 1 = t 1 := rfl
  have e2 : Ss (Ss (Ss o 0 (t 0)) 1 (t 1)) 2 (t 2) 2 = t 2 := rfl
  refine aBD (st := st) (X := X) (by rw [e0, e1, e2]; exact hE) (fun k hk => ?_) (by unfold arF at hh ⊢; rw [e0, e1, e2]; exact hh)
  rcases (show k = 0 ∨ k = 1 ∨ k = 2 by omega) with rfl | rfl | rfl
  .rw [e0]; exact hst' 0 hk
  .rw [e1]; exact hst' 1 hk
  .rw [e2]; exact hst' 2 hk
 .rcases (show k = 0 ∨ k = 1 ∨ k = 2 by omega) with rfl | rfl | rfl <;> rfl
def Cw (w : aJa) (p : Nat) (S : Nat -> Prop) (l : List UInt8) : Prop := ¬ S p /\ ∃ v, cJ w p [v] /\ OSS w S 1 v l.length (l.map FQ)
theorem Cw.ext {w w' : aJa} {p : Nat} {S M : Nat -> Prop} {l : List UInt8} (h : Cw w p S l) (x : aS w w' M) (hp : ¬ M p) (hM : ∀ b, S b -> ¬ M b) : Cw w' p S l := by
 obtain ⟨h0, v, h1, h2⟩ := h
 exact ⟨h0, v, h1.ext x hp, NN h2 x hM⟩
theorem Cw.lt {w : aJa} {p : Nat} {S : Nat -> Prop} {l : List UInt8} (h : Cw w p S l) : p < w.heap.size := by
 obtain ⟨_, v, h1, _⟩ := h; exact h1.lt
theorem Cw.turn {w : aJa} {p : Nat} {S T : Nat -> Prop} {l : List UInt8} (h : Cw w p S l) (hT : ∀ b, S b -> b < w.heap.size -> T b) (hp : ¬ T p) : Cw w p T l := by
 obtain ⟨h0, v, h1, h2, h3⟩ := h
 refine ⟨hp, v, h1, h2, ?_⟩
 rcases h3 with h3 | ⟨b, c, rest, g1, g2, g3, g4, g5⟩
 .exact .inl h3
 .exact .inr ⟨b, c, rest, g1, hT b g2 g3.lt, g3, g4, g5⟩
theorem TV {w : aJa} {S : Nat -> Prop} {sz n : Nat} {v : aJb} {l : List aJb} (o3 : OSS w S sz v n l) : ∃ a c, v = .slice a n c := by
 rcases o3.2 with ⟨rfl, rfl⟩ | ⟨b, c, rest, rfl, _⟩
 .exact ⟨_, _, rfl⟩
 .exact ⟨_, _, rfl⟩
theorem azK {w : aJa} {S : Nat -> Prop} {n : Nat} {v : aJb} {l : List aJb} (o3 : OSS w S 1 v n l) : Sl w v l := by
 have : sN w 0 1 v n l := ⟨o3.1, by
  rcases o3.2 with h | ⟨b, c, rest, g1, g2, g3⟩
  .exact .inl h
  .exact .inr ⟨b, c, rest, g1, by omega, g3⟩⟩
 exact this.sl
theorem awV (w : aJa) : aR pg vI #[] w (fun r w' => r = .pointer (some ⟨w.heap.size, 0, none⟩) /\ w.heap.size < w'.heap.size /\ Cw w' w.heap.size (fun b => w.heap.size < b) [] /\ aS w w' cM) := by
 refine Sc ?_
 unfold Ps Al
 simp (disch := omega) only [aC, Ds, aA]
 refine fY fun w1 o1 x1 s1 => ?_
 simp only [Value.cells] at o1
 exact ⟨rfl, by omega, ⟨by omega, _, o1, ⟨rfl, .inl ⟨rfl, rfl⟩⟩⟩, x1⟩
theorem amO {p : Nat} {S : Nat -> Prop} {l m : List UInt8} {v : aJb} {w : aJa} (h : Cw w p S l) (hS : ∀ b, w.heap.size <= b -> S b) (hv : Bs w v m) (hl : l.length + m.length <= 1000000000) :
 aR pg nC #[.pointer (some ⟨p, 0, none⟩), v] w (fun r w' => r = .tuple #[] /\ Cw w' p S (l ++ m) /\ aS w w' (fun y => y = p ∨ S y)) := by
 refine MQ ?_
 unfold Ii vE
 obtain ⟨h0, v0, o, os⟩ := h
 obtain ⟨va, vc, rfl⟩ := TV os
 have c0 := o.cell (off := 0)
 simp only [aGQ, aGR] at c0
 have lp := o.lt
 simp (disch := omega) only [aC, xN, aHe, aId, rB, true_and, aA, nK, gA, c0, aI, aF]
 have hcl := hv.cl
 rw [aG1] at hcl
 refine xT (m := m.length) (news := m.map FQ) (i := Tryd.t5) Tryd.underlying22 Tryd.underlying22 Vb rfl rfl rfl os hcl (asN _) (fun b hb => hS b hb) (by omega) (by rw [show Tryd.t5.bytes = 1 from rfl]; omega) (by decide) fun v3 w3 o3 x3 => ?_
 have op3 := o.ext x3 h0
 obtain ⟨a3, c3, rfl⟩ := TV o3
 refine Gn op3 rfl (by simp) fun w4 o4 x4 s4 => ?_
 simp only [aGS, aGU] at o4
 refine ⟨⟨h0, _, o4, ?_⟩, (x3.mono fun y _ h => .inr h).seq (x4.mono fun y _ h => .inl h)⟩
 have := NN o3 x4 (fun b hb h => h0 (h ▸ hb))
 rw [aGY, aHw]
 exact this
theorem LZ {p x n : Nat} {S : Nat -> Prop} {l : List UInt8} {w : aJa} (h : Cw w p S l) (hS : ∀ b, w.heap.size <= b -> S b) (hx : x < 2 ^ 64) (hn : 1 <= n /\ n <= 8) (hl : l.length <= 100000000) :
 aR pg gO #[.pointer (some ⟨p, 0, none⟩), .int .u64 x, .int .i64 n] w (fun r w' => r = .tuple #[] /\ Cw w' p S (l ++ Pf x n) /\ aS w w' (fun y => y = p ∨ S y)) := by
 refine LD ?_
 unfold Gp tQ tJ
 have d1 : decide ((n : Int) < 1) = false := by simp; omega
 have d2 : decide ((8 : Int) < (n : Int)) = false := by simp; omega
 simp (disch := omega) only [aC, rU, aHe, true_and, aA, dG, bO, aGW, if_false, bP, aX, d1, dP, d2, aE]
 unfold tE tP
 refine cG.rule (fun m (t : aJb) w' => ∃ i : Nat, m = n - i /\ t = .int .i64 i /\ i <= n /\ Cw w' p S (l ++ Pf x i) /\ aS w w' (fun y => y = p ∨ S y)) n
  ⟨0, rfl, rfl, by omega, by rw [Pf, aHC]; exact h, aS.refl _ _⟩ ?_
 rintro m t w1 ⟨i, rfl, rfl, hi, hw, x1⟩
 unfold pE
 by_cases hlt : i < n
 .have d3 : decide ((i : Int) < (n : Int)) = true := by simp; omega
  have e0 : ((8 : Int) * (i : Int)) = ((8 * i : Nat) : Int) := by omega
  have e1 : (x : Int).fdiv (2 ^ (min (8 * i) IntKind.u64.bits)) = ((x / 256 ^ i : Nat) : Int) := by
   rw [axT]; exact Uo x (8 * i) (by omega)
  have e2 : IntKind.u8.wrap ((x / 256 ^ i : Nat) : Int) = (((UInt8.ofNat (x / 256 ^ i % 256)).toNat : Nat) : Int) := by
   rw [UInt8.toNat_ofNat']
   generalize x / 256 ^ i = y
   rw [show IntKind.u8.wrap (y : Int) = (y : Int) % 256 from rfl]
   omega
  obtain ⟨c, hc⟩ : ∃ c, c = UInt8.ofNat (x / 256 ^ i % 256) := ⟨_, rfl⟩
  rw [<- hc] at e2
  obtain ⟨h0, v0, o, os⟩ := hw
  obtain ⟨va, vc, rfl⟩ := TV os
  have c0 := o.cell (off := 0)
  simp only [aGQ, aGR] at c0
  have lp := o.lt
  have hsz := x1.size
  have hpl := Ce i x
  rw [aGY, hpl] at os
  rw [aGY, hpl] at c0
  simp (disch := omega) only [aC, aX, d3, rB, pH, e0, aT, bM, aA, nK, lD, hJ, wV, aGO, e1, pG, e2, gA, c0, aI, aF]
  refine tY (cells := #[.int .u8 c.toNat]) (by decide) (by decide) (by kernel_rfl) fun w2 o2 x2 s2 => ?_
  refine xT (m := 1) (news := [FQ c]) (i := Tryd.t5) Tryd.underlying22 Tryd.underlying22 Vb rfl rfl rfl (NN os x2 (fun _ _ h => h)) (o2.cl (off := 0) (l := [FQ c]) (n := 1) rfl (fun i hi => by rw [aGP] <;> rfl)) (by simp [one, FQ]) (fun b hb => hS b (by omega)) (by omega) (by rw [show Tryd.t5.bytes = 1 from rfl]; omega) (by decide) fun v3 w3 o3 x3 => ?_
  have x13 : aS w1 w3 S := (x2.mono fun _ _ h => h.elim).seq x3
  have op3 := o.ext x13 h0
  obtain ⟨a3, c3, rfl⟩ := TV o3
  refine Gn op3 rfl (by simp) fun w4 o4 x4 s4 => ?_
  simp only [aGS, aGU] at o4
  have x14 : aS w1 w4 (fun y => y = p ∨ S y) := (x13.mono fun y _ h => .inr h).seq (x4.mono fun y _ h => .inl h)
  refine ⟨n - (i + 1), by omega, i + 1, rfl, rfl, by omega, ⟨h0, _, o4, ?_⟩, x1.seq x14⟩
  have := NN o3 x4 (fun b hb h => h0 (h ▸ hb))
  rw [aqK, <- hc, <- aG2, aHw, aGY, aGY, Ce]
  exact this
 .have d3 : decide ((i : Int) < (n : Int)) = false := by simp; omega
  obtain rfl : i = n := by omega
  simp (disch := omega) only [aC, aX, d3, rB, pH, aT, bM, aA, nK, lD, hJ, wV, pG, gA, aE]
  exact ⟨hw, x1⟩
theorem aCg {p : Nat} {S : Nat -> Prop} {l : List UInt8} {w : aJa} (h : Cw w p S l) (hl : l.length <= 1000000000) :
 aR pg sR #[.pointer (some ⟨p, 0, none⟩)] w (fun r w' => sN w' w.heap.size 1 r l.length (l.map FQ) /\ aS w w' cM) := by
 refine Qx ?_
 unfold L4 yS
 obtain ⟨h0, v0, o, os⟩ := h
 obtain ⟨va, vc, rfl⟩ := TV os
 have c0 := o.cell (off := 0)
 simp only [aGQ, aGR] at c0
 simp (disch := omega) only [aC, rU, aHe, rB, aA, nK, gA, c0, aI, aE]
 exact Uq (azK os) hl
def aAL (m : Nat -> Nat) (k : Nat) : Nat := if k = 0 then 0 else if k = 1 then m 0 * 64 else if k = 2 then m 0 * 64 + m 1 * 16 else m 0 * 64 + m 1 * 16 + m 2 * 4
theorem aBF {m : Nat -> Nat} {k x : Nat} (hk : k < 3) (hm : ∀ i, i < k -> m i <= 2) (hx : x <= 2) : aAL m k ||| (x * 2 ^ (6 - 2 * k)) = aAL (upS m k x) (k + 1) /\ aAL m k < 256 := by
 have h1 : ∀ x, x < 3 -> 0 ||| (x * 64) = x * 64 := by decide
 have h2 : ∀ a, a < 3 -> ∀ x, x < 3 -> (a * 64) ||| (x * 16) = a * 64 + x * 16 := by decide
 have h3 : ∀ a, a < 3 -> ∀ b, b < 3 -> ∀ x, x < 3 -> (a * 64 + b * 16) ||| (x * 4) = a * 64 + b * 16 + x * 4 := by decide
 rcases (show k = 0 ∨ k = 1 ∨ k = 2 by omega) with rfl | rfl | rfl
 .exact ⟨h1 x (by omega), by unfold aAL; simp⟩
 .have a := hm 0 (by omega)
  exact ⟨h2 (m 0) (by omega) x (by omega), by show m 0 * 64 < 256; omega⟩
 .have a := hm 0 (by omega)
  have b := hm 1 (by omega)
  exact ⟨h3 (m 0) (by omega) (m 1) (by omega) x (by omega), by show m 0 * 64 + m 1 * 16 < 256; omega⟩
def aoT (bs : Nat -> List UInt8) (k : Nat) : List UInt8 := if k = 0 then [] else if k = 1 then bs 0 else if k = 2 then bs 0 ++ bs 1 else bs 0 ++ bs 1 ++ bs 2
def upB (bs : Nat -> List UInt8) (k : Nat) (x : List UInt8) : Nat -> List UInt8 := fun i => if i = k then x else bs i
theorem aBL {bs : Nat -> List UInt8} {k : Nat} (hk : k < 3) (x : List UInt8) : aoT (upB bs k x) (k + 1) = aoT bs k ++ x := by
 rcases (show k = 0 ∨ k = 1 ∨ k = 2 by omega) with rfl | rfl | rfl <;> simp [aoT, upB]
def TbE (w : aJa) (E : Nat -> Prop) (o : Nat -> TT) (a : Nat -> Option Addr) : Prop := ∀ k, k < 3 -> (o k = (0, []) /\ a k = none) ∨ ∃ b, E b /\ Tbl w 0 b (o k).1 (o k).2 (tvL (o k) (a k))
theorem TbE.tb {w : aJa} {E : Nat -> Prop} {o : Nat -> TT} {a : Nat -> Option Addr} (h : TbE w E o a) : Ol w o a := fun k hk => by
 rcases h k hk with ⟨h1, h2⟩ | ⟨b, _, h⟩
 .left; rw [h1, h2]; exact ⟨rfl, rfl⟩
 .exact .inr ⟨b, h⟩
theorem TbE.ext {w w' : aJa} {E M : Nat -> Prop} {o : Nat -> TT} {a : Nat -> Option Addr} (h : TbE w E o a) (x : aS w w' M) (hM : ∀ b, E b -> ¬ M b) : TbE w' E o a := fun k hk => by
 rcases h k hk with h | ⟨b, hb, h1, h2, h3⟩
 .exact .inl h
 .exact .inr ⟨b, hb, h1, h2, h3.ext x (hM b hb)⟩
theorem C3.extD {w w' : aJa} {base : Nat} {L : Nat -> List Nat} {v : Nat -> aJb} {D : Nat -> Nat -> Prop} {M : Nat -> Prop} (h : C3 w base L v D) (x : aS w w' M) (hM : ∀ k, k < 3 -> ∀ b, D k b -> ¬ M b) : C3 w' base L v D :=
 ⟨fun k hk => (h.row k hk).ext x fun b hb => hM k hk b hb, fun k hk b hb => ⟨(h.bd k hk b hb).1, by have := (h.bd k hk b hb).2; have := x.size; omega⟩, h.sep⟩
def iL (L : List Nat) : List Int := L.map fun (n : Nat) => (n : Int)
theorem aCj {k1 : K6} {RR : K1} {lv wv : aJb} {pe pt : Nat} {L : Nat -> List Nat} {v : Nat -> aJb} {D : Nat -> Nat -> Prop} {w : aJa} (hg : uA w) (oE : cJ w pe (vL v)) (hC : C3 w 0 L v D) (oT : cJ w pt (c6 (fun _ => (0, [])) (fun _ => none))) (hpe : pe ≠ pt) (hD : ∀ k, k < 3 -> ∀ b, D k b -> b ≠ pt) (x0 : ∀ w', aS w w' (fun y => y = pt) -> uA w')
 (hL : ∀ k, k < 3 -> L k ≠ [] /\ (L k).length <= 10000 /\ ∀ c ∈ L k, c < kZ k)
 (hk : ∀ (w' : aJa) (t : Nat -> TT) (a : Nat -> Option Addr) (m : Nat -> Nat) (bs : Nat -> List UInt8) (tv : aJb), (∀ k : Nat, k < 3 -> Wy (k : Int) (iL (L k)) (m k : Nat) (t k).1 (t k).2 (bs k)) -> cJ w' pt (c6 t a) -> Ol w' t a -> Bs w' tv (bs 0 ++ bs 1 ++ bs 2) -> AtI tv w.heap.size w'.heap.size -> aS w w' (fun y => y = pt) -> k1 lv wv (.pointer (some ⟨pe, 0, none⟩)) (.pointer (some ⟨pt, 0, none⟩)) (.int .i64 (Th m)) tv w') :
 uX k1 RR lv wv (.pointer (some ⟨pe, 0, none⟩)) (.pointer (some ⟨pt, 0, none⟩)) (.int .i64 0) (.slice none 0 0) (.int .i64 0) w := by
 have hpt := oT.lt
 unfold uX
 refine cG.rule (fun n (x : aJb × aJb × aJb) w' => ∃ (j : Nat) (t : Nat -> TT) (a : Nat -> Option Addr) (m : Nat -> Nat) (bs : Nat -> List UInt8) (tv : aJb) (E Dt : Nat -> Prop), n = j /\ j <= 3 /\ x = (.int .i64 (aAL m (3 - j) : Nat), tv, .int .i64 (3 - j : Nat)) /\
  (∀ k : Nat, k < 3 - j -> Wy (k : Int) (iL (L k)) (m k : Nat) (t k).1 (t k).2 (bs k)) /\ (∀ k, k < 3 -> ¬ k < 3 - j -> t k = (0, []) /\ a k = none) /\ cJ w' pt (c6 t a) /\ TbE w' E t a /\ OSS w' Dt 1 tv (aoT bs (3 - j)).length ((aoT bs (3 - j)).map FQ) /\ (aoT bs (3 - j)).length <= 1000 * (3 - j) /\
  (∀ b, E b -> w.heap.size <= b /\ b < w'.heap.size) /\ (∀ b, Dt b -> w.heap.size <= b /\ b < w'.heap.size) /\ (∀ b, Dt b -> ¬ E b) /\ aS w w' (fun y => y = pt)) 3
  ⟨3, fun _ => (0, []), fun _ => none, fun _ => 0, fun _ => [], _, fun _ => False, fun _ => False, rfl, aGZ _, rfl, fun k h => by omega, fun _ _ _ => ⟨rfl, rfl⟩, oT, fun _ _ => .inl ⟨rfl, rfl⟩, ⟨rfl, .inl ⟨rfl, rfl⟩⟩, aGZ _, fun _ h => h.elim, fun _ h => h.elim, fun _ h => h.elim, aS.refl _ _⟩ ?_
 rintro j x w1 ⟨n, t, a, m, bs, tv, E, Dt, rfl, hj, rfl, hW, hU, o1, hE, hos, hlen, hEb, hDb, hsep, x1⟩
 have z1 := x1.size
 unfold vH
 rcases j with _ | j
 .have d1 : decide (((3 - 0 : Nat) : Int) < 3) = false := rfl
  simp (disch := omega) only [aC, aX, d1, pH, aT, bM, aA, dZ, aE]
  refine hk _ t a m bs tv (fun k hk => hW k hk) o1 hE.tb (azK hos) (fun M hM => ?_) x1
  rcases hos.2 with ⟨rfl, _⟩ | ⟨b, c, rest, rfl, h2, h3, _⟩
  .exact fun h => h
  .exact At.at b 0 _ c M (hM b (hDb b h2).1 h3.lt)
 obtain ⟨k, hkk⟩ : ∃ k, k = 2 - j := ⟨_, rfl⟩
 have hk3 : k < 3 := by omega
 have ek : ((3 - (j + 1) : Nat) : Int) = (k : Int) := by omega
 have ek2 : 3 - (j + 1) = k := by omega
 have ek3 : 3 - j = k + 1 := by omega
 have d1 : decide ((k : Int) < 3) = true := by simp; omega
 rw [ek]
 rw [ek2] at hW hU hos hlen ⊢
 obtain ⟨hL1, hL2, hL3⟩ := hL k hk3
 have oE1 := oE.ext x1 hpe
 have hC1 := hC.extD x1 (fun k hk b hb => hD k hk b hb)
 have cE := oE1.cell (off := k)
 rw [aAy _ hk3] at cE
 simp (disch := omega) only [aC, aX, d1, sJ, aGO, aGP, eK, pH, aT, bM, aA, dZ, cL, cE, aI, aF]
 have hsl : Sl w1 (v k) ((iL (L k)).map (Value.int .i64)) := by
  have := azK (hC1.row k hk3)
  unfold iL
  rw [List.map_map]
  exact this
 refine (aDs (x0 w1 x1) hsl (by unfold iL; rw [aG1]; omega)).mono ?_
 rintro r w2 ⟨hr, x2⟩
 rcases hr with ⟨hno, _⟩ | ⟨_, mode, lg, T, bytes, tt, bv, rfl, hV, hob, hWr⟩
 .exfalso
  refine hno ⟨by omega, by unfold iL; intro h; exact hL1 (List.map_eq_nil_iff.1 h), fun x hx => ?_⟩
  unfold iL at hx
  obtain ⟨c, hc, rfl⟩ := aHH.1 hx
  have := hL3 c hc
  rw [aAA hk3]
  omega
 have h0 := hWr.mode0
 have h2 := hWr.mode2
 obtain ⟨md, rfl⟩ : ∃ md : Nat, mode = md := ⟨mode.toNat, by omega⟩
 have hbl := hWr.blen
 obtain ⟨ta, rfl⟩ := hV.form
 have z2 := x2.size
 have n0 : ((0 : Int) != 0) = false := rfl
 simp (disch := omega) only [x40, x41, x42, x43, aA, eT, mE, asP]
 refine iK fun w3 o3 x3 s3 => ?_
 refine eI o3 rfl (by simp [one]) (by simp) fun w4 o4 x4 s4 => ?_
 have o4 : cJ w4 w2.heap.size [.int .i64 lg, .slice ta T.length T.length] := o4
 have x24 : aS w2 w4 cM := x3.new x4 (aGZ _)
 have z4 := x24.size
 have x14 := x2.seq x24
 have l4 := gI (off := 0) o4 (by simp)
 simp only [aGT, aGN, aGV] at l4
 simp (disch := omega) only [n0, l4, aA, aE]
 refine eI (o1.ext x14 (fun h => h)) rfl (by simp [one]) (by simp [c6]; omega) fun w5 o5 x5 s5 => ?_
 have o5 : cJ w5 pt (c6 (Ss t k (lg, T)) (upA a k ta)) := by rw [<- azI _ _ hk3]; exact o5
 have e2 : (2 : Int) * (k : Int) = ((2 * k : Nat) : Int) := by omega
 have e6 : (6 : Int) - ((2 * k : Nat) : Int) = ((6 - 2 * k : Nat) : Int) := by omega
 have hm2 : ∀ i, i < k -> m i <= 2 := fun i hi => by have := (hW i hi).mode2; omega
 obtain ⟨hst, hp8⟩ := aBF (m := m) hk3 hm2 (x := md) (by omega)
 have hb64 : IntKind.i64.bits = 64 := rfl
 have hpw : (md : Int) * 2 ^ min (6 - 2 * k) IntKind.i64.bits = ((md * 2 ^ (6 - 2 * k) : Nat) : Int) := by
  rw [hb64, aHG (by omega)]; simp
 have hpl : 2 ^ (6 - 2 * k) <= 2 ^ 6 := aG0 (by omega) (by omega)
 have hml : md * 2 ^ (6 - 2 * k) <= 2 * 2 ^ 6 := Nat.mul_le_mul (by omega) hpl
 have eor := asJ (a := aAL m k) (b := md * 2 ^ (6 - 2 * k)) (by omega) (by omega)
 rw [hst] at eor
 have ew : IntKind.i64.wrap ((md * 2 ^ (6 - 2 * k) : Nat) : Int) = ((md * 2 ^ (6 - 2 * k) : Nat) : Int) := aT (by omega) (by omega)
 simp (disch := omega) only [e2, e6, aGO, hpw, ew, eor]
 have x15 : aS w1 w5 (fun y => y = pt) := (x14.mono fun _ _ h => h.elim).seq x5
 have z5 := x15.size
 have hDpt : ∀ b, Dt b -> b ≠ pt := fun b hb => by have := (hDb b hb).1; omega
 have hos5 : OSS w5 (fun b => Dt b ∨ w5.heap.size <= b) 1 tv (aoT bs k).length ((aoT bs k).map FQ) := by
  have := (hos.ext x15 (fun b hb => hDpt b hb))
  refine ⟨this.1, ?_⟩
  rcases this.2 with h | ⟨b, c, rest, e, hb, r⟩
  .exact .inl h
  .exact .inr ⟨b, c, rest, e, .inl hb, r⟩
 have hob5 := (hob.ext x24 (fun _ _ h => h)).ext x5 (fun b hb h => by omega)
 refine xT (m := bytes.length) (news := bytes.map FQ) (i := Tryd.t5) Tryd.underlying22 Tryd.underlying22 Vb rfl rfl rfl hos5 hob5.cl (asN _) (fun b hb => .inr hb) (by omega) (by rw [show Tryd.t5.bytes = 1 from rfl]; omega) (by decide) fun v6 w6 o6 x6 => ?_
 have z6 := x6.size
 have e1 : (k : Int) + 1 = ((3 - j : Nat) : Int) := by omega
 have hcs := aBL (bs := bs) hk3 bytes
 have hW6 : OSS w6 (fun b => (Dt b ∨ w5.heap.size <= b) /\ b < w6.heap.size) 1 v6 (aoT (upB bs k bytes) (k + 1)).length ((aoT (upB bs k bytes) (k + 1)).map FQ) := by
  rw [hcs, aGY, aHw]
  refine ⟨o6.1, ?_⟩
  rcases o6.2 with h | ⟨b, c, rest, e, hb, ho, r⟩
  .exact .inl h
  .exact .inr ⟨b, c, rest, e, ⟨hb, ho.lt⟩, ho, r⟩
 have hS6 : ∀ b, (Dt b ∨ w5.heap.size <= b) -> b < w5.heap.size -> Dt b := fun b hb hl => by
  rcases hb with h | h
  .exact h
  .omega
 simp (disch := omega) only [e1]
 refine ⟨j, by omega, j, Ss t k (lg, T), upA a k ta, upS m k md, upB bs k bytes, v6, fun b => E b ∨ (w1.heap.size <= b /\ b < w2.heap.size), fun b => (Dt b ∨ w5.heap.size <= b) /\ b < w6.heap.size, rfl, by omega, by rw [ek3], fun i hi => ?_, fun i hi hni => ?_, ?_, ?_, by rw [ek3]; exact hW6, ?_, ?_, ?_, ?_, ?_⟩
 .rw [ek3] at hi
  unfold Ss upS upB
  by_cases he : i = k
  .subst he; simp only [if_pos rfl]; exact hWr
  .simp only [if_neg he]; exact hW i (by omega)
 .rw [ek3] at hni
  unfold Ss upA
  rw [if_neg (by omega), if_neg (by omega)]
  exact hU i hi (by omega)
 .refine o5.ext x6 fun h => ?_
  rcases h with h | h
  .exact hDpt pt h rfl
  .omega
 .intro i hi
  by_cases he : i = k
  .subst he
   rcases hV with ⟨e, e'⟩ | ⟨b, hb1, hb2, hb3⟩
   .have := hWr.has
    rw [Prod.mk.injEq] at e
    obtain ⟨c, hc⟩ := aIQ _ hL1
    obtain ⟨x, hx, _⟩ := hWr.has (c : Int) (aHH.2 ⟨c, hc, rfl⟩)
    rw [e.2] at hx; cases hx
   .have hbl2 := hb3.lt
    have e1 : Ss t i (lg, T) i = (lg, T) := by unfold Ss; rw [if_pos rfl]
    have e2 : upA a i ta i = ta := by unfold upA; rw [if_pos rfl]
    rw [e1, e2]
    refine .inr ⟨b, .inr ⟨hb2, hbl2⟩, hb1, aHZ _, ?_⟩
    refine ((hb3.ext x24 (fun h => h)).ext x5 (by omega)).ext x6 fun h => ?_
    rcases h with h | h
    .have := (hDb b h).2; omega
    .omega
  .have e1 : Ss t k (lg, T) i = t i := by unfold Ss; rw [if_neg he]
   have e2 : upA a k ta i = a i := by unfold upA; rw [if_neg he]
   rw [e1, e2]
   rcases hE i hi with h | ⟨b, hb, h1, h2, h3⟩
   .exact .inl h
   .have hbE := hEb b hb
    refine .inr ⟨b, .inl hb, h1, h2, (h3.ext x15 (by omega)).ext x6 fun h => ?_⟩
    rcases h with h | h
    .exact hsep b h hb
    .omega
 .rw [ek3, hcs, aGY]; omega
 .intro b hb
  rcases hb with hb | hb
  .have := hEb b hb; omega
  .omega
 .intro b hb
  rcases hb.1 with h | h
  .have := (hDb b h).1; omega
  .omega
 .intro b hb hb2
  rcases hb.1 with h | h
  .rcases hb2 with h2 | h2
   .exact hsep b h h2
   .have := (hDb b h).2; omega
  .rcases hb2 with h2 | h2
   .have := hEb b h2; omega
   .omega
 .refine (x1.seq x15).trans x6 fun b hb h => ?_
  rcases h with h | h
  .have := (hDb b h).1; omega
  .omega
def atY (l : List Sq) : Prop := ∀ q ∈ l, ∀ k, k < 3 -> ∃ c, tW k (kv q k) c
def aBU (w : aJa) (base : Nat) (l : List Sq) (r : aJb) : Prop :=
 (¬ atY l /\ r = .tuple #[.slice none 0 0, .int .i64 1]) ∨
 (atY l /\ ∃ (bv : aJb) (bytes : List UInt8), r = .tuple #[bv, .int .i64 0] /\ sN w base 1 bv bytes.length (bytes.map FQ) /\ bytes.length <= 500000 /\ 0 < bytes.length /\ (l = [] -> bytes = [0]) /\
  ∀ o, ∃ t', tZ bytes o = .ok (l, t') /\ (l ≠ [] -> ∀ k, k < 3 -> (∀ p ∈ l, ∀ q ∈ l, p = q) -> (t' k).2.length = 1))
theorem aGv {n : Nat} (h : n < 65536) : ((n : Int).fdiv (2 ^ min (8 : Int).toNat IntKind.i64.bits)) = ((n / 256 : Nat) : Int) := by
 have h8 : min (8 : Int).toNat IntKind.i64.bits = 8 := rfl
 rw [h8, aIs _ (by decide)]
 rfl
theorem axC {x : Nat} (h : x < 2 ^ 62) : amF .i64 (x : Int) 255 = ((x % 256 : Nat) : Int) := by
 unfold amF
 have e : IntKind.i64.bits = 64 := rfl
 have h1 : (BitVec.ofInt 64 (x : Int) &&& BitVec.ofInt 64 255).toNat = x % 256 := by
  rw [BitVec.toNat_and, BitVec.ofInt_natCast, show (255 : Int) = ((255 : Nat) : Int) from rfl, BitVec.ofInt_natCast, BitVec.toNat_ofNat, BitVec.toNat_ofNat, aHm (by omega), aHm (by omega)]
  exact Nat.and_two_pow_sub_one_eq_mod x 8
 rw [e, h1]
 exact aT (by omega) (by omega)
theorem anK {lv : aJb} {l : List Sq} {w : aJa} (hg : uA w) (h : Cl w 3 lv l.length (Zn l)) (hu : ∀ q ∈ l, ∀ k, kv q k < 4294967296) (hl : l.length <= 10000) :
 aR pg rL #[lv] w (fun r w' => aBU w' w.heap.size l r /\ aS w w' cM) := by
 refine S8 ?_
 obtain ⟨RR, hRR⟩ : ∃ RR : aJb -> aJa -> Prop, RR = fun r w' => aBU w' w.heap.size l r /\ aS w w' cM := ⟨_, rfl⟩
 rw [<- hRR]
 have hf := h
 obtain ⟨la, lc, rfl, _⟩ := hf
 unfold Rg Ah Aa
 refine (awV w).mono ?_
 rintro r w1 ⟨rfl, hz1, hw1, x1⟩
 obtain ⟨p, hp⟩ : ∃ p, p = w.heap.size := ⟨_, rfl⟩
 rw [<- hp] at hw1 ⊢
 have d1 : decide (98047 < (l.length : Int)) = false := by simp; omega
 by_cases h0 : l.length = 0
 .have n1 : ((l.length : Int) == 0) = true := by rw [h0] <;> rfl
  have hnil := aHq.1 h0
  simp (disch := omega) only [aC, fH, aA, dP, d1, cW, n1, aX, fW, hJ, wV, Rw, bM, dZ, aT, aF, aE]
  refine tY (cells := #[.int .u8 0]) (by decide) (by decide) (by kernel_rfl) fun w2 o2 x2 s2 => ?_
  rw [hRR]
  refine ⟨.inr ⟨?_, _, [0], rfl, ⟨rfl, .inr ⟨_, 1, [], rfl, by omega, o2, rfl, aGZ _⟩⟩, by simp, by simp, fun _ => rfl, fun o => ⟨o, ?_, fun h => absurd hnil h⟩⟩, x1.seq x2⟩
  .rw [hnil]; intro q hq; cases hq
  .rw [hnil] <;> rfl
 have n1 : ((l.length : Int) == 0) = false := by simp; intro h; subst h; exact h0 rfl
 have hN : ∀ b, w1.heap.size <= b -> p < b := fun b hb => by omega
 have main : ∀ w2, Cw w2 p (fun b => p < b) (ahD l.length) -> aS w w2 cM -> uU RR (.slice la l.length lc) (.pointer (some ⟨p, 0, none⟩)) w2 := by
  intro w2 hw2 x02
  have z02 := x02.size
  have hg2 := hg.ext x02
  have h2 := TG h x02 (cD _) (by omega)
  have hw2' := hw2.turn (T := fun b => p < b /\ b < w2.heap.size) (fun b hb hs => ⟨hb, hs⟩) (by omega)
  unfold uU Bi
  refine (aDT hg2 h2 hu (by omega)).mono ?_
  rintro r w3 ⟨hr, x3⟩
  have x03 := x02.seq x3
  rcases hr with ⟨v, D, L, rfl, hC, hK⟩ | ⟨⟨q, hq, k, hk, hno⟩, y0, y1, y2, rfl⟩
  rotate_left
  .have n2 : ((1 : Int) != 0) = true := rfl
   simp (disch := omega) only [aC, Ch, B7, aA, eT]
   refine Fo fun w4 o4 x4 s4 => ?_
   refine Ku o4 rfl (by simp [one]) (by simp) fun w5 o5 x5 s5 => ?_
   simp (disch := omega) only [n2, aF]
   rw [hRR]
   refine ⟨.inl ⟨fun hc => ?_, rfl⟩, (x03.seq x4).new x5 (by have := x03.size; omega)⟩
   obtain ⟨c, hc⟩ := hc q hq k hk
   exact hno c hc
  have n2 : ((0 : Int) != 0) = false := rfl
  have z3 := x3.size
  have hones := hC.ones
  simp (disch := omega) only [aC, Ch, B7, aA, eT]
  refine Fo fun w4 o4 x4 s4 => ?_
  refine Ku o4 rfl (by simpa [vL] using hones) (by simp [vL]) fun w5 o5 x5 s5 => ?_
  have o5 : cJ w5 w3.heap.size (vL v) := by simpa [vL, aV] using o5
  simp (disch := omega) only [n2, aE]
  refine jQ fun w6 o6 x6 s6 => ?_
  have o6 : cJ w6 w5.heap.size (c6 (fun _ => (0, [])) (fun _ => none)) := o6
  obtain ⟨pe, hpe⟩ : ∃ pe, pe = w3.heap.size := ⟨_, rfl⟩
  obtain ⟨pt, hpt⟩ : ∃ pt, pt = w5.heap.size := ⟨_, rfl⟩
  rw [<- hpe] at o5 ⊢
  rw [<- hpt] at o6 ⊢
  have x36 : aS w3 w6 cM := (x4.new x5 (aGZ _)).seq x6
  have x26 := x3.seq x36
  have x06 := x02.seq x26
  have hC6 := (hC.ext x36 (fun _ _ _ h => h)).lower (aHZ _)
  have hDl : ∀ k, k < 3 -> ∀ b, D k b -> b < w3.heap.size := fun k hk b hb => (hC.bd k hk b hb).2
  unfold Bg BM Bm BF
  have hcoded : atY l := fun q hq k hk => by
   obtain ⟨i, hi, rfl⟩ := aHl hq
   have hlt : i < (L k).length := by rw [(hK k hk).1]; exact hi
   exact ⟨_, (hK k hk).2 i _ _ (aGX hi) (aGX hlt)⟩
  have hLp : ∀ k, k < 3 -> L k ≠ [] /\ (L k).length <= 10000 /\ ∀ c ∈ L k, c < kZ k := fun k hk => by
   refine ⟨fun h => ?_, by rw [(hK k hk).1]; exact hl, fun c hc => ?_⟩
   .have := (hK k hk).1
    rw [h] at this
    simp at this; omega
   .obtain ⟨i, hi, rfl⟩ := aHl hc
    have hlt : i < l.length := by rw [<- (hK k hk).1]; exact hi
    exact ((hK k hk).2 i _ _ (aGX hlt) (aGX hi)).1
  have o56 : cJ w6 pe (vL v) := o5.ext x6 (fun h => h)
  refine aCj (hg.ext x06) o56 hC6 o6 (by omega) (fun k hk b hb => by have := hDl k hk b hb; omega) (fun w' x => hg.ext (x06.trans x fun b hb h => by omega)) hLp fun w7 t a m bs tv hWr o7 hT7 hb7 hat7 x7 => ?_
  have z6 := x36.size
  have x27 : aS w2 w7 cM := x26.trans x7 fun b hb h => by omega
  have x07 := x02.seq x27
  have o57 := o56.ext x7 (by omega)
  have hC7 := hC6.extD x7 (fun k hk b hb => by have := hDl k hk b hb; omega)
  obtain ⟨y0, y1, y2, f0, f1, f2⟩ := hC.form
  have l5 := KH (off := 0) o57 (by simp [vL])
  simp only [vL, aGT, aGN, aGV] at l5
  have l7 := mB (off := 0) o7 (by simp [c6])
  simp only [c6, aGT, aGN, aGV] at l7
  unfold uJ
  simp (disch := omega) only [aC, l5, fW, aA, l7]
  refine (aCE (hg.ext x07) (TG h x07 (cD _) (by omega)) (by omega) hl hC7 hK hT7 (fun k hk => ⟨acC hk (hWr k hk), axM (hWr k hk), fun c hc => (hWr k hk).has (c : Int) (aHH.2 ⟨c, hc, rfl⟩)⟩)).mono ?_
  rintro r w8 ⟨⟨bv, s, X, st, rfl, hb8, hat8, hh, hEn, hst, hX⟩, x8⟩
  have x28 := x27.seq x8
  have hm2 : ∀ k, k < 3 -> m k <= 2 := fun k hk => by have := (hWr k hk).mode2; omega
  have m0 := hm2 0 (by omega); have m1 := hm2 1 (by omega); have m2 := hm2 2 (by omega)
  have hmod : Th m < 256 := by unfold Th; omega
  have ew : IntKind.u64.wrap ((Th m : Nat) : Int) = ((Th m : Nat) : Int) := hJ (by omega) (by omega)
  have b0 := (hWr 0 (by omega)).blen
  have b1 := (hWr 1 (by omega)).blen
  have b2 := (hWr 2 (by omega)).blen
  have hnw : (ahD l.length).length <= 3 := by unfold ahD; split <;> (try split) <;> simp [Pf]
  have z7 := x7.size
  have z8 := x8.size
  have hlg : ∀ k, k < 3 -> (t k).1 <= 9 := fun k hk => (acC hk (hWr k hk)).lg
  have hsl : s.length <= 300000 := by
   have h1 := hh.len
   have g0 := hlg 0 (by omega); have g1 := hlg 1 (by omega); have g2 := hlg 2 (by omega)
   rw [h1]
   unfold arF
   simp only [aGY, dH, aH8]
   omega
  have hw8 := hw2'.ext x28 (fun h => h) (fun _ _ h => h)
  have hw8' := hw8.turn (T := fun b => (p < b /\ b < w2.heap.size) ∨ w8.heap.size <= b) (fun b hb _ => .inl hb) (by omega)
  simp (disch := omega) only [Ch, B7, ew, aA, eT, n2, aE]
  refine (LZ (x := Th m) (n := 1) hw8' (fun b hb => .inr hb) (by omega) (by omega) (by omega)).mono ?_
  rintro r w9 ⟨rfl, hw9, x9⟩
  have hb79 : Bs w9 tv (bs 0 ++ bs 1 ++ bs 2) := (hb7.ext x8 (cD _)).ext x9 (hat7 _ fun b h1 h2 h => by omega)
  have hb89 : Bs w9 bv s := hb8.ext x9 (hat8 _ fun b h1 h2 h => by omega)
  have hw9' := hw9.turn (T := fun b => ((p < b /\ b < w2.heap.size) ∨ w8.heap.size <= b)) (fun b hb _ => hb) (by omega)
  have z9 := x9.size
  refine (amO hw9' (fun b hb => .inr (by omega)) hb79 (by simp only [aGY, Ce]; omega)).mono ?_
  rintro r w10 ⟨rfl, hw10, x10⟩
  have hb810 : Bs w10 bv s := hb89.ext x10 (hat8 _ fun b h1 h2 h => by omega)
  have z10 := x10.size
  refine (amO hw10 (fun b hb => .inr (by omega)) hb810 (by simp only [aGY, Ce]; omega)).mono ?_
  rintro r w11 ⟨rfl, hw11, x11⟩
  have z11 := x11.size
  refine (aCg hw11 (by simp only [aGY, Ce]; omega)).mono ?_
  rintro r w12 ⟨ho, x12⟩
  have hput : Pf (Th m) 1 = [UInt8.ofNat (Th m)] := by
   show [UInt8.ofNat (Th m % 256)] = _
   rw [aHm hmod]
  have hbytes : ahD l.length ++ Pf (Th m) 1 ++ (bs 0 ++ bs 1 ++ bs 2) ++ s = aBs l.length m bs s := by
   unfold aBs
   rw [hput]
   simp only [aG2, aHV, aHv]
  rw [hbytes] at ho
  have hsec : (aBs l.length m bs s).length = (ahD l.length).length + (1 + ((bs 0).length + ((bs 1).length + ((bs 2).length + s.length)))) := by
   unfold aBs
   simp only [aGY, aHc]; omega
  rw [hRR]
  refine ⟨.inr ⟨hcoded, r, _, rfl, ho.lower (by omega), by omega, by omega, fun hn => absurd (by rw [hn] <;> rfl) h0, fun o => ?_⟩, ?_⟩
  .obtain ⟨t', ht, htt⟩ := aDt (by omega) (by omega) hWr hEn hst hh o
   refine ⟨t', ht, fun _ k hk hall => ?_⟩
   rw [htt k hk]
   refine ((hWr k hk).one fun x hx y hy => ?_).2
   unfold iL at hx hy
   obtain ⟨c, hc, rfl⟩ := aHH.1 hx
   obtain ⟨d, hd, rfl⟩ := aHH.1 hy
   obtain ⟨i, hi, rfl⟩ := aHl hc
   obtain ⟨j, hj, rfl⟩ := aHl hd
   have hil : i < l.length := by rw [<- (hK k hk).1]; exact hi
   have hjl : j < l.length := by rw [<- (hK k hk).1]; exact hj
   have q1 := (hK k hk).2 i _ _ (aGX hil) (aGX hi)
   have q2 := (hK k hk).2 j _ _ (aGX hjl) (aGX hj)
   rw [hall _ (aG7 hil) _ (aG7 hjl)] at q1
   rw [q1.one hk q2]
  .have x211 : aS w w11 cM := by
    refine aS.trans (x02.seq x28) (((x9.mono fun _ _ h => h).seq x10).seq x11 : aS w8 w11 (fun y => y = p ∨ ((p < y /\ y < w2.heap.size) ∨ w8.heap.size <= y))) fun b hb h => ?_
    omega
   exact x211.seq x12
 by_cases h128 : l.length < 128
 .have d2 : decide ((l.length : Int) < 128) = true := by simp; omega
  have ew : IntKind.u64.wrap (l.length : Int) = (l.length : Int) := hJ (by omega) (by omega)
  simp (disch := omega) only [aC, fH, aA, dP, d1, cW, n1, aX, d2, fW, ew, wV, Rw, bM, dZ, aT, aF, aE]
  refine (LZ (x := l.length) (n := 1) hw1 hN (by omega) (by omega) (by simp)).mono ?_
  rintro r w2 ⟨rfl, hw2, x2⟩
  refine main w2 ?_ (x1.trans x2 fun b hb h => by omega)
  have e : [] ++ Pf l.length 1 = ahD l.length := by
   unfold ahD
   rw [if_pos h128]
   show [UInt8.ofNat (l.length % 256)] = _
   rw [aHm (by omega)]
  rw [e] at hw2
  exact hw2
 .have d2 : decide ((l.length : Int) < 128) = false := by simp; omega
  have d3 : decide ((l.length : Int) < 32512) = true := by simp; omega
  have e1 := aGv (n := l.length) (by omega)
  have e2 : ((l.length / 256 : Nat) : Int) + 128 = ((l.length / 256 + 128 : Nat) : Int) := by omega
  have ew : IntKind.u64.wrap ((l.length / 256 + 128 : Nat) : Int) = ((l.length / 256 + 128 : Nat) : Int) := hJ (by omega) (by omega)
  have e3 := axC (x := l.length) (by omega)
  have ew3 : IntKind.u64.wrap ((l.length % 256 : Nat) : Int) = ((l.length % 256 : Nat) : Int) := hJ (by omega) (by omega)
  have ew1 : IntKind.i64.wrap ((l.length / 256 + 128 : Nat) : Int) = ((l.length / 256 + 128 : Nat) : Int) := aT (by omega) (by omega)
  simp (disch := omega) only [aC, fH, aA, dP, d1, cW, n1, aX, d2, fW, hJ, d3, wV, e1, Rw, bM, e2, ew1, ew, dZ, aT, aF, aE]
  refine (LZ (x := l.length / 256 + 128) (n := 1) hw1 hN (by omega) (by omega) (by simp)).mono ?_
  rintro r w2 ⟨rfl, hw2, x2⟩
  simp (disch := omega) only [e3]
  have z2 := x2.size
  refine (LZ (x := l.length % 256) (n := 1) hw2 (fun b hb => by omega) (by omega) (by omega) (by simp [Pf])).mono ?_
  rintro r w3 ⟨rfl, hw3, x3⟩
  refine main w3 ?_ ((x1.trans x2 fun b hb h => by omega).trans x3 fun b hb h => by omega)
  have e : [] ++ Pf (l.length / 256 + 128) 1 ++ Pf (l.length % 256) 1 = ahD l.length := by
   unfold ahD
   rw [if_neg h128, if_pos (by omega)]
   show [UInt8.ofNat ((l.length / 256 + 128) % 256)] ++ [UInt8.ofNat (l.length % 256 % 256)] = _
   rw [aHm (show l.length / 256 + 128 < 256 by omega), aHm (show l.length % 256 < 256 by omega)]
   rfl
  rw [e] at hw3
  exact hw3
theorem anC {t : Nat -> TT} (h : ∀ k, k < 3 -> yQ k (t k)) (B : List Bool) (st : Nat -> Nat) (left : Int) : RH t (sts t B 3 st left).1 /\ left - 27 <= (sts t B 3 st left).2 /\ (sts t B 3 st left).2 <= left := by
 have g0 := (h 0 (by omega)).lg
 have g1 := (h 1 (by omega)).lg
 have g2 := (h 2 (by omega)).lg
 have e : (sts t B 3 st left).2 = left - (t 0).1 - (t 1).1 - (t 2).1 := rfl
 refine ⟨fun k hk => ⟨h k hk, ?_⟩, by omega, by omega⟩
 rw [(h k hk).len]
 rcases (show k = 0 ∨ k = 1 ∨ k = 2 by omega) with rfl | rfl | rfl
 .exact XC B left (t 0).1
 .exact XC B (left - (t 0).1) (t 1).1
 .exact XC B (left - (t 0).1 - (t 1).1) (t 2).1
theorem Q0 (o : Nat -> TT) (n : Nat) (l : List UInt8) : aqC o n l = match LP o l with
 | .error e => .error e
 | .ok (t, r) => DI t n r := by
 cases l with
 | nil => rfl
 | cons m l =>
   unfold aqC LP
   by_cases hm : m.toNat % 4 ≠ 0
   .simp only [if_pos hm]
   .simp only [if_neg hm]
    cases DP m.toNat o 3 o l <;> rfl
theorem PB {o t : Nat -> TT} {l r : List UInt8} (ho : aoH o) (h : LP o l = .ok (t, r)) : (∀ k, k < 3 -> yQ k (t k)) /\ r.length <= l.length := by
 cases l with
 | nil => cases h
 | cons m l =>
   have hh : LP o (m :: l) = if m.toNat % 4 ≠ 0 then .error 11 else DP m.toNat o 3 o l := rfl
   rw [hh] at h
   by_cases hm : m.toNat % 4 ≠ 0
   .rw [if_pos hm] at h; cases h
   .rw [if_neg hm] at h
    obtain ⟨h1, h2⟩ := apR ho (by omega) (fun k hk => by omega) h
    exact ⟨h1, by simp; omega⟩
theorem asI {l r : List UInt8} {n : Nat} (h : St l = .ok (n, r)) : n <= 98047 /\ r.length <= l.length := by
 cases l with
 | nil => cases h
 | cons f l =>
   have hf : f.toNat < 256 := aHi f
   rw [St] at h
   split at h
   .cases h; exact ⟨by omega, by simp⟩
   .split at h
    .cases l with
     | nil => cases h
     | cons x l =>
       have hx : x.toNat < 256 := aHi x
       cases h; exact ⟨by omega, by simp; omega⟩
    .match l with
     | [] => cases h
     | [x] => cases h
     | x :: y :: l =>
       have hx : x.toNat < 256 := aHi x
       have hy : y.toNat < 256 := aHi y
       cases h; exact ⟨by omega, by simp; omega⟩
theorem arM {k1 : K5} {t5 n8 : aJb} {pt ps lo hi : Nat} {t : Nat -> TT} {a : Nat -> Option Addr} {st : Nat -> Nat} {l : List UInt8} {left : Int} {w : aJa} (oT : cJ w pt (c6 t a)) (hT : Ol w t a) (oS : cJ w ps (s3L st)) (hB : XG w lo hi l left)
 (h1 : pt < lo) (h2 : lo <= hi) (h3 : hi < ps) (hG : ∀ k, k < 3 -> yQ k (t k)) (hl : l.length <= 1000000) (hb1 : left <= 8 * l.length) (hb2 : -90000000 <= left)
 (hk : ∀ w', cJ w' ps (s3L (sts t (bE l) 3 st left).1) -> XG w' lo hi l (sts t (bE l) 3 st left).2 -> aS w w' (fun y => y = hi ∨ y = ps) -> k1 t5 n8 (.pointer (some ⟨pt, 0, none⟩)) (.pointer (some ⟨hi, 0, none⟩)) (.pointer (some ⟨ps, 0, none⟩)) w') :
 uW k1 t5 n8 (.pointer (some ⟨pt, 0, none⟩)) (.pointer (some ⟨hi, 0, none⟩)) (.pointer (some ⟨ps, 0, none⟩)) (.int .i64 0) w := by
 have hps := oS.lt
 unfold uW
 refine cG.rule (fun n (v : aJb) w' => ∃ (j : Nat) (st' : Nat -> Nat) (left' : Int), n = j /\ j <= 3 /\ v = .int .i64 (3 - j : Nat) /\ cJ w' ps (s3L st') /\ XG w' lo hi l left' /\ sts t (bE l) 3 st left = sts t (bE l) j st' left' /\ left - 20 * (3 - j : Nat) <= left' /\ left' <= left /\ aS w w' (fun y => y = hi ∨ y = ps)) 3
  ⟨3, st, left, rfl, aGZ _, rfl, oS, hB, rfl, by simp, Int.le_refl _, aS.refl _ _⟩ ?_
 rintro j v w1 ⟨n, st', left', rfl, hj, rfl, oS1, hB1, hE, hc1, hc2, x1⟩
 unfold vG
 rcases j with _ | j
 .have d1 : decide (((3 - 0 : Nat) : Int) < 3) = false := rfl
  simp (disch := omega) only [aC, aX, d1, bM, aT, aA, aE]
  rw [hE] at hk
  exact hk _ oS1 hB1 x1
 .obtain ⟨k, hkk⟩ : ∃ k, k = 2 - j := ⟨_, rfl⟩
  have hk3 : k < 3 := by omega
  have ek : ((3 - (j + 1) : Nat) : Int) = (k : Int) := by omega
  have d1 : decide ((k : Int) < 3) = true := by simp; omega
  rw [ek]
  have hN : sts t (bE l) (j + 1) st' left' = sts t (bE l) j (upS st' k (rdL (bE l) left' (t k).1)) (left' - (t k).1) := by rw [hkk] <;> rfl
  have hGk := hG k hk3
  have hlg := hGk.lg
  have oT1 := oT.ext x1 (by omega)
  have l2 := gI (off := k * 2) oT1 (by simp [c6]; omega)
  rw [apQ _ _ hk3] at l2
  simp (disch := omega) only [aC, aX, d1, eK, aGO, aGP, xR, bM, aT, aA, l2, aF]
  obtain ⟨cs, oc, hcs⟩ := hB1.hd
  refine (ayZ hB1 h2 oc.lt (by omega) (by omega) (by omega) hl).mono ?_
  rintro v w2 ⟨rfl, hB2, x2⟩
  have q1 : sO ((bE l).take left'.toNat) (t k).1 = rdL (bE l) left' (t k).1 := rfl
  rw [q1]
  have oS2 := oS1.ext x2 (by omega)
  refine sH oS2 rfl (by simp [s3L]; omega) fun w3 o3 x3 s3 => ?_
  rw [arB _ hk3] at o3
  have e1 : (k : Int) + 1 = ((3 - j : Nat) : Int) := by omega
  simp (disch := omega) only [e1]
  refine ⟨j, by omega, _, _, _, rfl, by omega, rfl, o3, hB2.ext x3 (fun b _ _ => by omega) h2, by rw [hE, hN], by omega, by omega, (x1.seq (x2.mono fun _ _ h => .inl h)).seq (x3.mono fun _ _ h => .inr h)⟩
def apL (w : aJa) (base : Nat) (x : Except Int (List Sq × (Nat -> TT))) (r : aJb) : Prop := match x with
 | .error e => r = .tuple #[.slice none 0 0, Gf, .int .i64 e]
 | .ok (q, t) => ∃ v a, r = .tuple #[v, .agg (c6 t a).toArray, .int .i64 0] /\ sN w base 3 v q.length (Zn q) /\ Ol w t a
theorem TH {p : Nat} {w : aJa} {x0 x1 x2 : Int} {a0 a1 a2 : Option Addr} {n0 n1 n2 : Nat} {c : List aJb} {s e : aJb} (o : cJ w p c) (hc : c.length = 6) {RR : aJb -> aJa -> Prop}
 (hR : ∀ w', aS w w' (fun y => y = p) -> RR (.tuple #[s, .agg #[.int .i64 x0, .slice a0 n0 n0, .int .i64 x1, .slice a1 n1 n1, .int .i64 x2, .slice a2 n2 n2], e]) w') :
 aC pg (aJ 29 (.pointer (some ⟨p, 0, none⟩)) (.agg #[.int .i64 x0, .slice a0 n0 n0, .int .i64 x1, .slice a1 n1 n1, .int .i64 x2, .slice a2 n2 n2])) w fun _u w => kC pg 29 (.pointer (some ⟨p, 0, none⟩)) w fun r1 => RR (.tuple #[s, r1, e]) w := by
 match c, hc with
 | [c0, c1, c2, c3, c4, c5], _ =>
   refine kD o rfl (by simp [one]) (by simp) fun w6 o6 x6 s6 => ?_
   refine Gk o6 (by simp [aV]) ?_
   simp only [aV, aGS, aGU, aGT, aGN, aGV]
   exact hR _ x6
theorem apJ {bv : aJb} {l : List UInt8} {o : Nat -> TT} {a : Nat -> Option Addr} {w : aJa} (hg : uA w) (hb : Bs w bv l) (hl : l.length <= 1000000) (hT : Ol w o a) (hO : aoH o) :
 aR pg tS #[bv, .agg (c6 o a).toArray] w (fun r w' => apL w' w.heap.size (tZ l o) r /\ aS w w' cM) := by
 refine U4 ?_
 obtain ⟨RR, hRR⟩ : ∃ RR : aJb -> aJa -> Prop, RR = fun r w' => apL w' w.heap.size (tZ l o) r /\ aS w w' cM := ⟨_, rfl⟩
 rw [<- hRR]
 have err : ∀ {e : Int} {w' : aJa}, tZ l o = .error e -> aS w w' cM -> RR (.tuple #[.slice none 0 0, Gf, .int .i64 e]) w' := fun h x => by
  rw [hRR]; unfold apL; rw [h]; exact ⟨rfl, x⟩
 unfold TE Bj BO
 refine fY fun w1 o1 x1 s1 => ?_
 have o1 : cJ w1 w.heap.size (c6 o a) := o1
 refine jQ fun w2 o2 x2 s2 => ?_
 have x02 := x1.seq x2
 refine (agF (hb.ext x02 (cD _)) (by omega)).mono ?_
 rintro r w3 ⟨p, rfl, h3, x3⟩
 have hp1 := h3.1
 have hp2 := h3.2.1
 have o1 := (o1.ext x2 (fun h => h)).ext x3 (fun h => h)
 have o2 := o2.ext x3 (fun h => h)
 have x03 := x02.seq x3
 have z2 := x02.size
 refine (avM h3 (by omega)).mono ?_
 rintro r w4 ⟨hN, x4⟩
 have o1 := o1.ext x4 (by omega)
 have o2 := o2.ext x4 (by omega)
 have x04 := x03.new x4 (by omega)
 have fin : ∀ {w5 w' : aJa}, aS w w5 cM -> aS w5 w' (fun y => y = w1.heap.size) -> aS w w' cM := fun h x => h.new x (by omega)
 unfold arN at hN
 cases hn : St l with
 | error e =>
   rw [hn] at hN
   obtain ⟨he, n, l', rfl, h4⟩ := hN
   have hR : tZ l o = .error e := by unfold tZ; rw [hn]
   have n1 : (e != 0) = true := by simpa using he
   refine (UA h4).mono ?_
   rintro r w5 ⟨rfl, hw⟩
   rw [hw]; clear hw w5
   simp (disch := omega) only [aC, eT, n1, dU, aA, cW, true_and, bO, aF]
   refine (UA h4).mono ?_
   rintro r w5 ⟨rfl, hw⟩
   rw [hw]; clear hw w5
   exact TH o2 rfl fun w' x => err hR (fin x04 x)
 | ok y =>
   obtain ⟨n, l'⟩ := y
   rw [hn] at hN
   obtain ⟨rfl, h4⟩ := hN
   obtain ⟨hn1, hl'⟩ := asI hn
   have n1 : ((0 : Int) != 0) = false := rfl
   refine (UA h4).mono ?_
   rintro r w5 ⟨rfl, hw⟩
   rw [hw]; clear hw w5
   have hR : tZ l o = if n = 0 then (if l' = [] then .ok ([], o) else .error 15) else aqC o n l' := by unfold tZ; rw [hn]
   by_cases hn0 : n = 0
   .subst hn0
    rw [if_pos rfl] at hR
    have n2 : (((0 : Nat) : Int) == 0) = true := rfl
    simp (disch := omega) only [aC, eT, n1, dU, aA, cW, n2, true_and, aF, tR, bO, if_true, bP, aE]
    refine (akJ h4).mono ?_
    rintro r w5 ⟨rfl, hw⟩
    rw [hw]; clear hw w5
    by_cases hl0 : l' = []
    .subst hl0
     rw [if_pos rfl] at hR
     have d1 : decide (0 < ((([] : List UInt8).length : Nat) : Int)) = false := rfl
     have l1 := mB (off := 0) (dO o1) (by simp [c6])
     simp only [c6, aGT, aGN, aGV] at l1
     simp (disch := omega) only [dP, d1, aA, l1, true_and, aE]
     refine TH (dO o2) rfl fun w' x => ?_
     rw [hRR]; unfold apL; rw [hR]
     have x' := fin (x04.seq (aS.dr _ _)) x
     exact ⟨⟨_, a, rfl, sN.nil _ _ _, hT.ext x'⟩, x'⟩
    .rw [if_neg hl0] at hR
     have hpos := aHP.2 hl0
     have d1 : decide (0 < ((l'.length : Nat) : Int)) = true := by simp; exact hpos
     simp (disch := omega) only [dP, d1, aA, aF]
     exact TH o2 rfl fun w' x => err hR (fin x04 x)
   .rw [if_neg hn0] at hR
    have n2 : ((n : Int) == 0) = false := by simp; exact hn0
    have l1 := mB (off := 0) o1 (by simp [c6])
    simp only [c6, aGT, aGN, aGV] at l1
    simp (disch := omega) only [aC, eT, n1, dU, aA, cW, n2, true_and, aE, ED, bO, aGW, if_false, dV, l1]
    have hO6 : ∀ k, k < 3 -> (o k).2.length <= 1000000 := fun k hk => by
     rcases aHT (o k).2.length with h | h
     .omega
     .have := hO k hk (aHP.1 h)
      rw [this.len]
      have : 2 ^ (o k).1 <= 2 ^ 9 := aG0 (by omega) this.lg
      omega
    have z4 := x4.size
    refine (aE7 hg x04 (by omega) h4 z4 (by omega) (hT.ext x04) hO6).mono ?_
    rintro r w5 ⟨hTo, x5⟩
    rw [Q0] at hR
    have x05 := x04.new x5 (by omega)
    have o1 := o1.ext x5 (by omega)
    have o2 := o2.ext x5 (by omega)
    have z5 := x5.size
    cases hh : LP o l' with
    | error e =>
      rw [hh] at hR hTo
      obtain ⟨rfl, he⟩ := hTo
      have n3 : (e != 0) = true := by simpa using he
      unfold Gf
      simp (disch := omega) only [Ch, B7, aA, eT]
      refine jQ fun w6 o6 x6 s6 => ?_
      refine kD o6 rfl (by simp [one]) (by simp) fun w7 o7 x7 s7 => ?_
      have x57 : aS w5 w7 cM := x6.new x7 (aGZ _)
      simp (disch := omega) only [n3, aF]
      exact TH (o2.ext x57 (fun h => h)) rfl fun w' x => err hR (fin (x05.seq x57) x)
    | ok y =>
      obtain ⟨t, l2⟩ := y
      rw [hh] at hR hTo
      have hR : tZ l o = DI t n l2 := hR
      obtain ⟨ta, rfl, hT5, h5⟩ := hTo
      obtain ⟨hG, hl2⟩ := PB hO hh
      simp only [c6]
      simp (disch := omega) only [Ch, B7, aA, eT]
      refine jQ fun w6 o6 x6 s6 => ?_
      refine kD o6 rfl (by simp [one]) (by simp) fun w7 o7 x7 s7 => ?_
      have o7 : cJ w7 w5.heap.size (c6 t ta) := o7
      have x57 : aS w5 w7 cM := x6.new x7 (aGZ _)
      have h7 := (h5.up (aGZ _)).ext x57 (fun _ _ _ h => h)
      have x07 := x05.seq x57
      have z7 := x57.size
      simp (disch := omega) only [n1, aE]
      refine (akJ h7).mono ?_
      rintro r w8 ⟨rfl, hw⟩
      rw [hw]; clear hw w8
      refine (apF h7 (by omega) (by omega)).mono ?_
      rintro bv8 w8 ⟨hb8, hat8, h8, x8⟩
      have htk : I1 l2 0 l2.length = (l2, [], 0) := by unfold I1; rw [if_neg (by decide), if_neg (by omega), aIw, List.drop_length]
      rw [htk] at hb8
      simp only at hb8
      have x08 := x07.new x8 (by omega)
      have z8 := x8.size
      have hp5 := h5.2.1
      have o8 := o7.ext x8 (by omega)
      have o2 := (o2.ext x57 (fun h => h)).ext x8 (by omega)
      have hT8 : Ol w8 t ta := (hT5.ext x57).rdr h7 x8
      cases he : Zp l2 with
      | none =>
        have hB : DI t n l2 = .error 11 := by unfold DI; rw [he]
        rw [hB] at hR
        have n3 : ((11 : Int) != 0) = true := rfl
        refine (ajM hb8 he (by omega)).mono ?_
        rintro r w9 ⟨rfl, hw⟩
        rw [hw]; clear hw w9
        simp (disch := omega) only [Ch, B7, aA, eT, n3, aF]
        exact TH o2 rfl fun w' x => err hR (fin x08 x)
      | some k =>
        obtain ⟨hk0, hk1, hk2, _⟩ := OC he
        refine (akP hb8 he (by omega)).mono ?_
        rintro r w9 ⟨hi, rfl, hhi1, hhi2, hB9, x9⟩
        simp (disch := omega) only [Ch, B7, aA, eT, n1, aE]
        refine aoD fun w10 o10 x10 s10 => ?_
        have o10 : cJ w10 w9.heap.size (s3L (fun _ => 0)) := o10
        have x89 := x9.seq x10
        have z10 := x10.size
        unfold B2 Br BJ BV
        refine arM (o8.ext x89 (fun h => h)) (hT8.ext x89) o10 (hB9.ext x10 (fun _ _ _ h => h) hhi1) (by omega) hhi1 hhi2 hG (by omega) (by omega) (by omega) fun w11 o11 hB11 x11 => ?_
        obtain ⟨g1, g2, g3⟩ := anC hG (bE l2) (fun _ => 0) (k : Int)
        have z11 := x11.size
        have z9 := x9.size
        have x011 : aS w w11 cM := (x08.seq x89).trans x11 fun b hb h => by omega
        have x811 : aS w8 w11 cM := x89.trans x11 fun b hb h => by omega
        unfold Bw BH Bu Bp BZ Bf
        refine ayS (n := n) (by omega) hg x011 (o8.ext x811 (fun h => h)) (hT8.ext x811) o11 hB11 (by omega) (by omega) hhi1 hhi2 g1 (by omega) (by omega) (by omega) fun w12 out os12 hB12 oT12 hT12 x12 => ?_
        obtain ⟨_, _, hlen⟩ := anH (B := bE l2) (n := n) (left := (sts t (bE l2) 3 (fun _ => 0) (k : Int)).2) g1
        have hB : DI t n l2 = if (runT t (bE l2) n k).2 < 0 then .error 11 else if 0 < (runT t (bE l2) n k).2 then .error 15 else .ok ((runT t (bE l2) n k).1, t) := by unfold DI; rw [he]
        rw [hB] at hR
        rw [<- amD] at os12 hB12 hlen
        have x012 : aS w w12 cM := x011.trans x12 fun b hb h => by omega
        have x812 : aS w8 w12 cM := x811.trans x12 fun b hb h => by omega
        have o2 := o2.ext x812 (fun h => h)
        unfold wX
        refine (apS hB12).mono ?_
        rintro r w13 ⟨rfl, hw⟩
        rw [hw]; clear hw w13
        generalize hq : runT t (bE l2) n k = q at *
        by_cases hneg : q.2 < 0
        .have d1 : decide (q.2 < 0) = true := by simpa using hneg
         rw [if_pos hneg] at hR
         simp (disch := omega) only [aC, aX, d1, dU, aA, true_and, aF]
         exact TH o2 rfl fun w' x => err hR (fin x012 x)
        .have d1 : decide (q.2 < 0) = false := by simpa using hneg
         rw [if_neg hneg] at hR
         simp (disch := omega) only [aC, aX, d1, dU, aA, true_and, aE]
         refine (apS hB12).mono ?_
         rintro r w13 ⟨rfl, hw⟩
         rw [hw]; clear hw w13
         by_cases hps : 0 < q.2
         .have d2 : decide (0 < q.2) = true := by simpa using hps
          rw [if_pos hps] at hR
          simp (disch := omega) only [dP, d2, aA, aF]
          exact TH o2 rfl fun w' x => err hR (fin x012 x)
         .have d2 : decide (0 < q.2) = false := by simpa using hps
          rw [if_neg hps] at hR
          have l9 := mB (off := 0) (dO oT12) (by simp [c6])
          simp only [c6, aGT, aGN, aGV] at l9
          simp (disch := omega) only [dP, d2, aA, l9, true_and, aE]
          refine TH (dO o2) rfl fun w' x => ?_
          rw [hRR]; unfold apL; rw [hR]
          have x' := fin (x012.seq (aS.dr _ _)) x
          have xd : aS w12 w' (fun y => y = w1.heap.size) := (aS.dr _ _).seq x
          refine ⟨⟨out, ta, rfl, ?_, hT12.own o2 (by simp) (fun u => by simp) xd⟩, x'⟩
          rw [hlen]
          exact (os12.ext xd (fun b hb h => by omega)).lower (by omega)
abbrev rv (x : ByteArray) (e : Int) : aJb := .agg #[.string x, .int .i64 e]
theorem anL {p : Nat} {w : aJa} {x : ByteArray} {e : Int} {c : List aJb} {z : aJb} (o : cJ w p c) (hc : c.length = 2) {RR : aJb -> aJa -> Prop}
 (hR : ∀ w', aS w w' (fun y => y = p) -> RR (.tuple #[rv x e, z]) w') :
 aC pg (aJ 72 (.pointer (some ⟨p, 0, none⟩)) (rv x e)) w fun _u w => kC pg 72 (.pointer (some ⟨p, 0, none⟩)) w fun r0 => RR (.tuple #[r0, z]) w := by
 match c, hc with
 | [c0, c1], _ =>
   refine iI o rfl (by simp [one]) (by simp) fun w6 o6 x6 s6 => ?_
   refine Sn o6 (by simp [aV]) ?_
   simp only [aV, aGS, aGU, aGT, aGN, aGV]
   exact hR _ x6
theorem aBv {x : ByteArray} {e : Int} {n : Nat} {w : aJa} :
 aR pg IK #[rv x e, .int .i64 n] w (fun r w' => ∃ x' s, r = .tuple #[rv x' (I1 (lC x) e n).2.2, .string s] /\ lC x' = (I1 (lC x) e n).2.1 /\ lC s = (I1 (lC x) e n).1 /\ aS w w' cM) := by
 refine aiZ ?_
 obtain ⟨RR, hRR⟩ : ∃ RR : aJb -> aJa -> Prop, RR = fun r w' => ∃ x' s, r = .tuple #[rv x' (I1 (lC x) e n).2.2, .string s] /\ lC x' = (I1 (lC x) e n).2.1 /\ lC s = (I1 (lC x) e n).1 /\ aS w w' cM := ⟨_, rfl⟩
 rw [<- hRR]
 have hll := kG x
 unfold amM MN
 refine fY fun w1 o1 x1 s1 => ?_
 have o1 : cJ w1 w.heap.size [.string x, .int .i64 e] := o1
 refine kE fun w2 o2 x2 s2 => ?_
 have o1 := o1.ext x2 (fun h => h)
 have x02 := x1.seq x2
 have z1 := x1.size
 have c0 := o1.cell (off := 0)
 have c1 := o1.cell (off := 1)
 have l1 := gJ (off := 0) o1 (by simp)
 simp only [aGQ, aGR, aGT, aGN, aGV] at c0 c1 l1
 by_cases he : e = 0
 rotate_left
 .have n1 : (e != 0) = true := by simpa using he
  have ht : I1 (lC x) e n = ([], lC x, e) := by unfold I1; rw [if_pos he]
  simp (disch := omega) only [aC, fG, aGP, aX, aA, gP, zU, jD, c1, aI, eT, n1, l1, aF]
  refine anL o2 rfl fun w' x' => ?_
  rw [hRR, ht]
  exact ⟨x, ⟨#[]⟩, rfl, rfl, rfl, x02.new x' (by omega)⟩
 subst he
 have n1 : ((0 : Int) != 0) = false := rfl
 have d0 : decide ((n : Int) < 0) = false := by simp
 by_cases hsh : x.size < n
 .have d1 : decide ((x.size : Int) < (n : Int)) = true := by simp; omega
  have ht : I1 (lC x) 0 n = ([], lC x, 10) := by unfold I1; rw [if_neg (by decide), if_pos (by omega)]
  simp (disch := omega) only [aC, fG, aGP, aX, d0, aA, gP, zU, aE, jD, c1, aI, eT, n1, c0, rH, dP, d1, aF]
  refine XT o1 rfl (by simp) fun w3 o3 x3 s3 => ?_
  simp only [aGS, aGU] at o3
  have l3 := gJ (off := 0) o3 (by simp)
  simp only [aGT, aGN, aGV] at l3
  simp (disch := omega) only [l3, aA]
  refine anL (o2.ext x3 (by omega)) rfl fun w' x' => ?_
  rw [hRR, ht]
  exact ⟨x, ⟨#[]⟩, rfl, rfl, rfl, (x02.new x3 (by omega)).new x' (by omega)⟩
 .have d1 : decide ((x.size : Int) < (n : Int)) = false := by simp; omega
  have ht : I1 (lC x) 0 n = ((lC x).take n, (lC x).drop n, 0) := by unfold I1; rw [if_neg (by decide), if_neg (by omega)]
  simp (disch := omega) only [aC, fG, aGP, aX, d0, aA, gP, zU, aE, jD, c1, aI, eT, n1, c0, rH, dP, d1, QB, aGO, uM]
  refine aBj o1 rfl (by simp) fun w3 o3 x3 s3 => ?_
  simp only [aGS, aGU] at o3
  have l3 := gJ (off := 0) o3 (by simp)
  simp only [aGT, aGN, aGV] at l3
  simp (disch := omega) only [l3, aA]
  refine anL (o2.ext x3 (by omega)) rfl fun w' x' => ?_
  rw [hRR, ht]
  refine ⟨_, _, rfl, ?_, ?_, (x02.new x3 (by omega)).new x' (by omega)⟩
  .rw [LO, aHk (by rw [aHh]; omega)]
  .rw [LO]; simp
theorem Ft {x : ByteArray} {e : Int} {n : Nat} {w : aJa} (hn : 1 <= n /\ n <= 8) :
 aR pg nT #[rv x e, .int .i64 n] w (fun r w' => ∃ x', r = .tuple #[rv x' (I1 (lC x) e n).2.2, .int .u64 (rC (I1 (lC x) e n).1 : Nat)] /\ lC x' = (I1 (lC x) e n).2.1 /\ aS w w' cM) := by
 refine ZN ?_
 obtain ⟨RR, hRR⟩ : ∃ RR : aJb -> aJa -> Prop, RR = fun r w' => ∃ x', r = .tuple #[rv x' (I1 (lC x) e n).2.2, .int .u64 (rC (I1 (lC x) e n).1 : Nat)] /\ lC x' = (I1 (lC x) e n).2.1 /\ aS w w' cM := ⟨_, rfl⟩
 rw [<- hRR]
 unfold Yj Ea Ef
 refine fY fun w1 o1 x1 s1 => ?_
 have o1 : cJ w1 w.heap.size [.string x, .int .i64 e] := o1
 refine kE fun w2 o2 x2 s2 => ?_
 have o1 := o1.ext x2 (fun h => h)
 have x02 := x1.seq x2
 have z1 := x1.size
 have c1 := o1.cell (off := 1)
 have l1 := gJ (off := 0) o1 (by simp)
 simp only [aGQ, aGR, aGT, aGN, aGV] at c1 l1
 have d1 : decide ((n : Int) < 1) = false := by simp; omega
 have d2 : decide (8 < (n : Int)) = false := by simp; omega
 have main : AN RR (.int .i64 n) (.pointer (some ⟨w.heap.size, 0, none⟩)) (.pointer (some ⟨w1.heap.size, 0, none⟩)) w2 := by
  unfold AN HU
  simp (disch := omega) only [aC, l1, aA]
  refine (aBv).mono ?_
  rintro r w3 ⟨x', s, rfl, hx', hs, x3⟩
  simp (disch := omega) only [Ch, B7, aA]
  refine iI (o1.ext x3 (fun h => h)) rfl (by simp [one]) (by simp) fun w4 o4 x4 s4 => ?_
  simp only [aV, aGS, aGU] at o4
  have z2 := x02.size
  have z3 := x3.size
  have x04 : aS w w4 cM := (x02.seq x3).new x4 (aGZ _)
  have o2 := (o2.ext x3 (fun h => h)).ext x4 (by omega)
  have hlen : (lC s).length <= 8 := by
   rw [hs]; unfold I1
   split
   .simp
   .split
    .simp
    .simp; omega
  have hss := kG s
  unfold H3 GV Ht GD H0
  refine cG.rule (fun m (v : aJb × aJb × aJb) w' => ∃ (i : Nat) (mm : Int), m = s.size - i /\ i <= s.size /\ v = (.int .u64 (rC ((lC s).take i) : Nat), .int .u64 mm, .int .i64 i) /\ (i < 8 -> mm = ((256 ^ i : Nat) : Int)) /\ w' = w4) s.size ⟨0, 1, rfl, by omega, rfl, fun _ => rfl, rfl⟩ ?_
  rintro m v w5 ⟨i, mm, rfl, hi, rfl, hmm, hw⟩
  rw [hw]; clear hw w5
  unfold AJ
  by_cases hlt : i < s.size
  .have d3 : decide ((i : Int) < (s.size : Int)) = true := by simp; omega
   have hmm := hmm (by omega)
   subst hmm
   obtain ⟨c, hc⟩ : ∃ c, c = (lC s)[i]'(by omega) := ⟨_, rfl⟩
   have hg : s[i]'hlt = c := by rw [YS, hc]
   have htk : (lC s).take (i + 1) = (lC s).take i ++ [c] := by rw [aHA, aGX (by omega), <- hc] <;> rfl
   have hnl : rC ((lC s).take (i + 1)) = rC ((lC s).take i) + 256 ^ i * c.toNat := by
    rw [htk, acI, aG4, aHG (by omega)]
   have hb0 := Ur ((lC s).take i)
   have hb1 := Ur ((lC s).take (i + 1))
   rw [aG4, aHG (by omega)] at hb0 hb1
   have hp : 256 ^ i <= 256 ^ 7 := aG0 (by omega) (by omega)
   have hp1 : 256 ^ (i + 1) <= 256 ^ 8 := aG0 (by omega) (by omega)
   have hcl : c.toNat < 256 := aHi c
   have hps : 256 ^ (i + 1) = 256 ^ i * 256 := aHf ..
   have hcm : 256 ^ i * c.toNat <= 256 ^ i * 256 := Nat.mul_le_mul_left _ (by omega)
   rw [hnl] at hb1
   obtain ⟨m2, hm2⟩ : ∃ z, IntKind.u64.wrap (((256 ^ i : Nat) : Int) * 256) = z := ⟨_, rfl⟩
   have hm3 : i + 1 < 8 -> m2 = ((256 ^ (i + 1) : Nat) : Int) := fun h => by
    have hp2 : 256 ^ (i + 1) <= 256 ^ 7 := aG0 (by omega) (by omega)
    rw [<- hm2, hps, Int.natCast_mul]
    exact hJ (by omega) (by omega)
   generalize hcx : c.toNat = cx at *
   have hgx : (s[i]'hlt).toNat = cx := by rw [hg, hcx]
   have ew : IntKind.u64.wrap (cx : Int) = (cx : Int) := hJ (by omega) (by omega)
   have em : (cx : Int) * ((256 ^ i : Nat) : Int) = ((256 ^ i * cx : Nat) : Int) := by rw [Int.natCast_mul, Int.mul_comm]
   generalize rC ((lC s).take i) = N at *
   generalize 256 ^ i = P at *
   generalize P * cx = Z at *
   have ez : IntKind.u64.wrap (Z : Int) = (Z : Int) := hJ (by omega) (by omega)
   have ea : (N : Int) + (Z : Int) = ((N + Z : Nat) : Int) := by omega
   have en : IntKind.u64.wrap ((N + Z : Nat) : Int) = ((N + Z : Nat) : Int) := hJ (by omega) (by omega)
   simp (disch := omega) only [aC, rH, tK, aGO, hgx, pH, hm2, bM, aT, aA, vO, ew, em, ez, ea, en, aX, d3, and_true, aF]
   exact ⟨s.size - (i + 1), by omega, i + 1, m2, rfl, by omega, by rw [hnl] <;> rfl, hm3⟩
  .have d3 : decide ((i : Int) < (s.size : Int)) = false := by simp; omega
   obtain rfl : i = s.size := by omega
   have l4 := gJ (off := 0) o4 (by simp)
   simp only [aGT, aGN, aGV] at l4
   unfold AZ
   simp (disch := omega) only [aC, rH, pH, bM, aT, aA, aX, d3, l4, aE]
   refine anL o2 rfl fun w' x' => ?_
   rw [hRR, <- hss, aIw, hs]
   exact ⟨_, rfl, hx', x04.new x' (by omega)⟩
 by_cases he : e = 0
 .have n1 : (e == 0) = true := by simpa using he
  simp (disch := omega) only [aC, fG, aGP, aA, jD, c1, aI, cW, n1, tR, bO, if_true, bP, aX, d1, dG, aGW, if_false, dP, d2, aE]
  exact main
 .have n1 : (e == 0) = false := by simpa using he
  simp (disch := omega) only [aC, fG, aGP, aA, jD, c1, aI, cW, n1, ED, bO, aGW, if_false, aE, dV]
  exact main
def aoO (l : List UInt8) (r : aJb) : Prop := match St l with
 | .ok (n, rest) => ∃ x', r = .tuple #[rv x' 0, .int .u64 n] /\ lC x' = rest
 | .error e => e ≠ 0 /\ ∃ (n : Nat) (x' : ByteArray), r = .tuple #[rv x' e, .int .u64 n]
theorem amX {x : ByteArray} {w : aJa} :
 aR pg xS #[rv x 0] w (fun r w' => aoO (lC x) r /\ aS w w' cM) := by
 refine ZU ?_
 obtain ⟨RR, hRR⟩ : ∃ RR : aJb -> aJa -> Prop, RR = fun r w' => aoO (lC x) r /\ aS w w' cM := ⟨_, rfl⟩
 rw [<- hRR]
 unfold XO GR
 refine fY fun w1 o1 x1 s1 => ?_
 have o1 : cJ w1 w.heap.size [.string x, .int .i64 0] := o1
 refine kE fun w2 o2 x2 s2 => ?_
 have o1 := o1.ext x2 (fun h => h)
 have x02 := x1.seq x2
 have z1 := x1.size
 have l1 := gJ (off := 0) o1 (by simp)
 simp only [aGT, aGN, aGV] at l1
 simp (disch := omega) only [aC, l1, aA]
 refine (Ft (n := 1) (by omega)).mono ?_
 rintro r w3 ⟨x', rfl, hx', x3⟩
 simp (disch := omega) only [Ch, B7, aA, aX, dZ, pH]
 refine iI (o1.ext x3 (fun h => h)) rfl (by simp [one]) (by simp) fun w4 o4 x4 s4 => ?_
 simp only [aV, aGS, aGU] at o4
 have z2 := x02.size
 have z3 := x3.size
 have x04 : aS w w4 cM := (x02.seq x3).new x4 (aGZ _)
 have o2 := (o2.ext x3 (fun h => h)).ext x4 (by omega)
 have l4 := gJ (off := 0) o4 (by simp)
 simp only [aGT, aGN, aGV] at l4
 generalize lC x = L at *
 have tkn := V0 1 (aGZ 1)
 cases L with
 | nil =>
   simp only [tkn] at hx' o4 l4 ⊢
   have e0 : ((rC ([] : List UInt8) : Nat) : Int) = 0 := rfl
   have d1 : decide ((0 : Int) < 128) = true := rfl
   simp (disch := omega) only [e0, d1, l4, aA, aF]
   refine anL o2 rfl fun w' x5 => ?_
   rw [hRR]
   exact ⟨⟨by decide, 0, x', rfl⟩, x04.new x5 (by omega)⟩
 | cons f r =>
   simp only [afB] at hx' o4 l4 ⊢
   have hf : rC [f] = f.toNat := by simp [rC]
   have hf8 : f.toNat < 256 := aHi f
   rw [hf]
   have hN : St (f :: r) = if f.toNat < 128 then .ok (f.toNat, r) else if f.toNat < 255 then aC7 f.toNat r else aCZ r := rfl
   generalize f.toNat = x at *
   have fin : ∀ {v : aJb} {w5 w' : aJa}, aoO (f :: r) v -> aS w w5 cM -> aS w5 w' (fun y => y = w1.heap.size) -> RR v w' := fun h x5 x6 => by
    rw [hRR]; exact ⟨h, x5.new x6 (by omega)⟩
   by_cases h128 : x < 128
   .have d1 : decide ((x : Int) < 128) = true := by simp; omega
    simp (disch := omega) only [d1, l4, aA, aF]
    refine anL o2 rfl fun w' x5 => fin ?_ x04 x5
    unfold aoO
    rw [hN, if_pos h128]
    exact ⟨x', rfl, hx'⟩
   have d1 : decide ((x : Int) < 128) = false := by simp; omega
   by_cases h255 : x < 255
   .have d2 : decide ((x : Int) < 255) = true := by simp; omega
    simp (disch := omega) only [d1, l4, aA, d2, hJ, aF, aE]
    refine (Ft (n := 1) (by omega)).mono ?_
    rintro v w5 ⟨y, rfl, hy, x5⟩
    rw [hx'] at hy ⊢
    simp (disch := omega) only [Ch, B7, aA, bM]
    refine kE fun w6 o6 x6 s6 => ?_
    refine iI o6 rfl (by simp [one]) (by simp) fun w7 o7 x7 s7 => ?_
    simp only [aV, aGS, aGU] at o7
    have x57 : aS w5 w7 cM := x6.new x7 (aGZ _)
    have x47 := x5.seq x57
    have o2 := o2.ext x47 (fun h => h)
    have l7 := gJ (off := 0) o7 (by simp)
    simp only [aGT, aGN, aGV] at l7
    obtain ⟨m, hm⟩ : ∃ m, m = x - 128 := ⟨_, rfl⟩
    have e1 : (x : Int) - 128 = (m : Int) := by omega
    have e2 : (m : Int) * 256 = ((m * 256 : Nat) : Int) := by omega
    rw [if_neg h128, if_pos h255] at hN
    cases r with
    | nil =>
      simp only [tkn] at hy o7 l7 ⊢
      have e0 : ((rC ([] : List UInt8) : Nat) : Int) = ((0 : Nat) : Int) := rfl
      have e3 : ((m * 256 : Nat) : Int) + ((0 : Nat) : Int) = ((m * 256 : Nat) : Int) := by omega
      simp (disch := omega) only [l7, e1, e2, e0, e3, hJ, aA]
      refine anL o2 rfl fun w' x8 => fin ?_ (x04.seq x47) x8
      unfold aoO
      rw [hN]
      exact ⟨by decide, m * 256, y, by simp⟩
    | cons g s =>
      simp only [afB] at hy o7 l7 ⊢
      have hg : rC [g] = g.toNat := by simp [rC]
      have hg8 : g.toNat < 256 := aHi g
      have hN2 : aC7 x (g :: s) = .ok ((x - 128) * 256 + g.toNat, s) := rfl
      rw [hg]
      generalize g.toNat = z at *
      have e3 : ((m * 256 : Nat) : Int) + (z : Int) = ((m * 256 + z : Nat) : Int) := by omega
      simp (disch := omega) only [l7, e1, e2, e3, hJ, aA]
      refine anL o2 rfl fun w' x8 => fin ?_ (x04.seq x47) x8
      unfold aoO
      rw [hN, hN2, <- hm]
      exact ⟨y, rfl, hy⟩
   .have d2 : decide ((x : Int) < 255) = false := by simp; omega
    simp (disch := omega) only [d1, l4, aA, d2, hJ, aE]
    refine (Ft (n := 2) (by omega)).mono ?_
    rintro v w5 ⟨y, rfl, hy, x5⟩
    rw [hx'] at hy ⊢
    simp (disch := omega) only [Ch, B7, aA, bM]
    refine kE fun w6 o6 x6 s6 => ?_
    refine iI o6 rfl (by simp [one]) (by simp) fun w7 o7 x7 s7 => ?_
    simp only [aV, aGS, aGU] at o7
    have x57 : aS w5 w7 cM := x6.new x7 (aGZ _)
    have x47 := x5.seq x57
    have o2 := o2.ext x47 (fun h => h)
    have l7 := gJ (off := 0) o7 (by simp)
    simp only [aGT, aGN, aGV] at l7
    rw [if_neg h128, if_neg h255] at hN
    cases r with
    | nil =>
      simp only [V0 2 (show 1 <= 2 by omega)] at hy o7 l7 ⊢
      have e0 : ((rC ([] : List UInt8) : Nat) : Int) = ((0 : Nat) : Int) := rfl
      have e3 : ((0 : Nat) : Int) + 32512 = ((32512 : Nat) : Int) := rfl
      simp (disch := omega) only [l7, e0, e3, hJ, aA]
      refine anL o2 rfl fun w' x8 => fin ?_ (x04.seq x47) x8
      unfold aoO
      rw [hN]
      exact ⟨by decide, 32512, y, rfl⟩
    | cons g s =>
      cases s with
      | nil =>
        simp only [aqM] at hy o7 l7 ⊢
        have e0 : ((rC ([] : List UInt8) : Nat) : Int) = ((0 : Nat) : Int) := rfl
        have e3 : ((0 : Nat) : Int) + 32512 = ((32512 : Nat) : Int) := rfl
        simp (disch := omega) only [l7, e0, e3, hJ, aA]
        refine anL o2 rfl fun w' x8 => fin ?_ (x04.seq x47) x8
        unfold aoO
        rw [hN]
        exact ⟨by decide, 32512, y, rfl⟩
      | cons k s =>
        simp only [aCq] at hy o7 l7 ⊢
        have hg : rC [g, k] = g.toNat + 256 * k.toNat := by simp [rC]
        have hg8 : g.toNat < 256 := aHi g
        have hk8 : k.toNat < 256 := aHi k
        have hN3 : aCZ (g :: k :: s) = .ok (g.toNat + 256 * k.toNat + 32512, s) := rfl
        rw [hg]
        have hy6 : g.toNat + 256 * k.toNat < 65536 := by omega
        generalize g.toNat + 256 * k.toNat = z at *
        obtain ⟨u, hu⟩ : ∃ u, u = z + 32512 := ⟨_, rfl⟩
        have e5 : (z : Int) + 32512 = (u : Int) := by omega
        rw [<- hu] at hN3
        simp (disch := omega) only [l7, e5, hJ, aA]
        refine anL o2 rfl fun w' x8 => fin ?_ (x04.seq x47) x8
        unfold aoO
        rw [hN, hN3]
        exact ⟨y, rfl, hy⟩
def zB0 : List Int := [0, 1, 2, 3, 4, 5, 6, 7, 8, 9, 10, 11, 12, 13, 14, 15, 16, 18, 20, 22, 24, 28, 32, 40, 48, 64, 128, 256, 512, 1024, 2048, 4096, 8192, 16384, 32768, 65536]
def zB2 : List Int := [3, 4, 5, 6, 7, 8, 9, 10, 11, 12, 13, 14, 15, 16, 17, 18, 19, 20, 21, 22, 23, 24, 25, 26, 27, 28, 29, 30, 31, 32, 33, 34, 35, 37, 39, 41, 43, 47, 51, 59, 67, 83, 99, 131, 259, 515, 1027, 2051, 4099, 8195, 16387, 32771, 65539]
def pw2 (i : Nat) : Int := if i < 32 then 2 ^ i else 0
def zB1 : List Int := (List.range 32).map pw2
def aBt (a : Int) : List Int := if a = 0 then zB0 else if a = 2 then zB2 else if a = 1 then zB1 else []
theorem aCz (a : Int) : (((aBt a).length : Nat) : Int) = mM a + 1 := by
 unfold aBt mM
 by_cases h0 : a = 0
 .subst h0; rfl
 by_cases h2 : a = 2
 .subst h2; rfl
 by_cases h1 : a = 1
 .subst h1; rfl
 rw [if_neg h0, if_neg h2, if_neg h1, if_neg h0, if_neg h1, if_neg h2] <;> rfl
theorem avQ (a : Int) (w : aJa) : aR pg xV #[.int .i64 a] w (fun r w' => Sl w' r ((aBt a).map (Value.int .u32)) /\ aS w w' cM) := by
 refine XM ?_
 unfold Yk HW HK
 unfold aBt
 by_cases h0 : a = 0
 .subst h0
  have n1 : ((0 : Int) == 0) = true := rfl
  simp (disch := omega) only [aC, cW, n1, if_true, aA, aF]
  refine P1 (cells := (zB0.map (Value.int .u32)).toArray) (by decide) (by decide) (by kernel_rfl) fun w1 o1 x1 s1 => ?_
  exact ⟨⟨_, _, _, rfl, rfl, aGZ _, fun _ => ⟨_, _, rfl, fun i hi => by rw [o1.cell, aGP]⟩⟩, x1⟩
 have n1 : (a == 0) = false := beq_eq_false_iff_ne.2 h0
 by_cases h2 : a = 2
 .subst h2
  rw [if_neg h0, if_pos rfl]
  have n2 : ((2 : Int) == 2) = true := rfl
  simp (disch := omega) only [aC, cW, n1, n2, aA, aF, aE]
  refine P1 (cells := (zB2.map (Value.int .u32)).toArray) (by decide) (by decide) (by kernel_rfl) fun w1 o1 x1 s1 => ?_
  exact ⟨⟨_, _, _, rfl, rfl, aGZ _, fun _ => ⟨_, _, rfl, fun i hi => by rw [o1.cell, aGP]⟩⟩, x1⟩
 have n2 : (a == 2) = false := beq_eq_false_iff_ne.2 h2
 rw [if_neg h0, if_neg h2]
 simp (disch := omega) only [aC, cW, n1, n2, aA, aE]
 unfold Hl GA Hk HN Hx
 by_cases h1 : a = 1
 .subst h1
  have n3 : ((1 : Int) == 1) = true := rfl
  refine cG.rule (fun m (t : aJb × aJb × aJb) w' => ∃ (i : Nat) (v : aJb), m = 32 - i /\ t = (v, .int .u32 (pw2 i), .int .i64 i) /\ i <= 32 /\ sN w' w.heap.size 1 v i ((zB1.take i).map (Value.int .u32)) /\ aS w w' cM) 32
   ⟨0, _, rfl, rfl, by omega, sN.nil _ _ _, aS.refl _ _⟩ ?_
  rintro m t w1 ⟨i, v, rfl, rfl, hi, ho, x1⟩
  unfold vU
  by_cases hlt : i < 32
  .have d1 : decide ((i : Int) < 32) = true := by simp; omega
   have e1 : IntKind.u32.wrap (pw2 i * 2) = pw2 (i + 1) := by
    have : ∀ k : Fin 32, IntKind.u32.wrap (pw2 k.val * 2) = pw2 (k.val + 1) := by decide
    exact this ⟨i, hlt⟩
   have hz : (zB1.take (i + 1)).map (Value.int .u32) = (zB1.take i).map (Value.int .u32) ++ [.int .u32 (pw2 i)] := by
    rw [aHA, aHw]
    unfold zB1
    rw [aHg, List.getElem?_range hlt] <;> rfl
   have z1 := x1.size
   simp (disch := omega) only [aC, aX, d1, pH, e1, bM, aT, aA, if_true, tR, bO, bP, cW, n3, aF]
   refine P1 (cells := #[.int .u32 (pw2 i)]) (by decide) (by decide) (by kernel_rfl) fun w2 o2 x2 s2 => ?_
   have z2 := x2.size
   refine PU (m := 1) (news := [.int .u32 (pw2 i)]) (ho.ext x2 (fun _ _ h => h)) (o2.cl (off := 0) (l := [.int .u32 (pw2 i)]) (n := 1) rfl (fun i hi => by rw [aGP])) (by simp [one]) (by omega) (by omega) fun v3 w3 o3 x3 => ?_
   rw [<- hz] at o3
   exact ⟨32 - (i + 1), by omega, i + 1, v3, rfl, rfl, by omega, o3, (x1.seq x2).trans x3 fun b hb h => by omega⟩
  .have d1 : decide ((i : Int) < 32) = false := by simp; omega
   obtain rfl : i = 32 := by omega
   unfold vT
   simp (disch := omega) only [aC, aX, d1, pH, bM, aT, aA, if_true, ED, bO, aGW, if_false, aE, dV]
   exact ⟨ho.sl, x1⟩
 .have n3 : (a == 1) = false := beq_eq_false_iff_ne.2 h1
  refine cG.rule (fun m (t : aJb × aJb × aJb) w' => m = 0 /\ t = (.slice none 0 0, .int .u32 1, .int .i64 0) /\ w' = w) 0 ⟨rfl, rfl, rfl⟩ ?_
  rintro m t w1 ⟨rfl, rfl, rfl⟩
  unfold vU vT
  have d1 : decide ((0 : Int) < 32) = true := rfl
  rw [if_neg h1]
  simp (disch := omega) only [aC, aX, d1, pH, Yr, bM, aT, aA, tR, bO, if_true, bP, cW, n3, aE]
  exact ⟨Sl.nil _, aS.refl _ _⟩
theorem aC8 {k : Nat} (hk : k < 3) : aBt (k : Int) = (rF k).map fun (n : Nat) => (n : Int) := by
 rcases (show k = 0 ∨ k = 1 ∨ k = 2 by omega) with rfl | rfl | rfl <;> decide +kernel
theorem aER {k : Nat} (hk : k < 3) (w : aJa) : aR pg IT #[.int .i64 k] w (fun r w' => Sl w' r (((kL k).map fun (n : Nat) => (n : Int)).map (Value.int .i64)) /\ aS w w' cM) := by
 refine ahS ?_
 unfold amQ MY Ni
 by_cases h0 : k = 0
 .subst h0
  have n1 : (((0 : Nat) : Int) == 0) = true := rfl
  simp (disch := omega) only [aC, cW, n1, aA, aF]
  refine wC (cells := (((kL 0).map fun (n : Nat) => (n : Int)).map (Value.int .i64)).toArray) (by decide) (by decide) (by kernel_rfl) fun w1 o1 x1 s1 => ?_
  exact ⟨⟨_, _, _, rfl, rfl, aGZ _, fun _ => ⟨_, _, rfl, fun i hi => by rw [o1.cell, aGP]⟩⟩, x1⟩
 have n1 : ((k : Int) == 0) = false := beq_eq_false_iff_ne.2 (by omega)
 by_cases h2 : k = 2
 .subst h2
  have n2 : (((2 : Nat) : Int) == 2) = true := rfl
  simp (disch := omega) only [aC, cW, n1, n2, aA, aF, aE]
  refine wC (cells := (((kL 2).map fun (n : Nat) => (n : Int)).map (Value.int .i64)).toArray) (by decide) (by decide) (by kernel_rfl) fun w1 o1 x1 s1 => ?_
  exact ⟨⟨_, _, _, rfl, rfl, aGZ _, fun _ => ⟨_, _, rfl, fun i hi => by rw [o1.cell, aGP]⟩⟩, x1⟩
 have n2 : ((k : Int) == 2) = false := beq_eq_false_iff_ne.2 (by omega)
 obtain rfl : k = 1 := by omega
 simp (disch := omega) only [aC, cW, n1, n2, aA, aE]
 unfold Np Od M1 NH M5
 have n3 : (((1 : Nat) : Int) == 1) = true := rfl
 refine cG.rule (fun m (t : aJb × aJb) w' => ∃ (i : Nat) (v : aJb), m = 32 - i /\ t = (v, .int .i64 i) /\ i <= 32 /\ sN w' w.heap.size 1 v i (((List.range i).map fun (n : Nat) => (n : Int)).map (Value.int .i64)) /\ aS w w' cM) 32
  ⟨0, _, rfl, rfl, by omega, sN.nil _ _ _, aS.refl _ _⟩ ?_
 rintro m t w1 ⟨i, v, rfl, rfl, hi, ho, x1⟩
 unfold FD
 by_cases hlt : i < 32
 .have d1 : decide ((i : Int) < 32) = true := by simp; omega
  have hz : ((List.range (i + 1)).map fun (n : Nat) => (n : Int)).map (Value.int .i64) = ((List.range i).map fun (n : Nat) => (n : Int)).map (Value.int .i64) ++ [.int .i64 (i : Int)] := by
   rw [aIO, aHw, aHw] <;> rfl
  have z1 := x1.size
  simp (disch := omega) only [aC, aX, d1, bM, aT, aA, tR, bO, if_true, bP, cW, n3, aF]
  refine wC (cells := #[.int .i64 (i : Int)]) (by decide) (by decide) (by kernel_rfl) fun w2 o2 x2 s2 => ?_
  have z2 := x2.size
  refine EJ (m := 1) (news := [.int .i64 (i : Int)]) (ho.ext x2 (fun _ _ h => h)) (o2.cl (off := 0) (l := [.int .i64 (i : Int)]) (n := 1) rfl (fun i hi => by rw [aGP])) (by simp [one]) (by omega) (by omega) fun v3 w3 o3 x3 => ?_
  rw [<- hz] at o3
  exact ⟨32 - (i + 1), by omega, i + 1, v3, rfl, rfl, by omega, o3, (x1.seq x2).trans x3 fun b hb h => by omega⟩
 .have d1 : decide ((i : Int) < 32) = false := by simp; omega
  obtain rfl : i = 32 := by omega
  unfold FR
  simp (disch := omega) only [aC, aX, d1, bM, aT, aA, ED, bO, aGW, if_false, aE, dV]
  exact ⟨ho.sl, x1⟩
theorem aA7 {k c : Nat} {w : aJa} (hk : k < 3) (hc : c < kZ k) :
 aR pg Iz #[.int .i64 k, .int .i64 c] w (fun r w' => r = .tuple #[.int .u32 ((rF k).getD c 0 : Nat), .int .i64 ((kL k).getD c 0 : Nat), .int .i64 0] /\ aS w w' cM) := by
 refine ajF ?_
 have hl1 : 1 <= kZ k := by rcases (show k = 0 ∨ k = 1 ∨ k = 2 by omega) with rfl | rfl | rfl <;> decide
 unfold akN My
 refine (avQ k w).mono ?_
 rintro r w1 ⟨hs, x1⟩
 rw [aC8 hk] at hs
 have hlen : ((rF k).map fun (n : Nat) => (n : Int)).length = kZ k := by simp
 have hs0 := hs
 obtain ⟨b, off, c', rfl, hcc, hcell⟩ := hs.openI (by omega)
 have g1 := hcell c (by omega)
 rw [aHs, <- mC] at g1
 have g1d : (dr w1).cell? ⟨b, off + c, none⟩ = some (.int .u32 ((rF k).getD c 0 : Nat)) := g1
 have n1 : (((kZ k : Nat) : Int) == 0) = false := beq_eq_false_iff_ne.2 (by omega)
 have d1 : decide ((c : Int) < 0) = false := by simp
 have d2 : decide (((kZ k : Nat) : Int) <= (c : Int)) = false := by simp; omega
 simp (disch := omega) only [aC, hlen, fU, aX, d1, uO, aGO, eC, Result.ok.injEq, Next.value.injEq, and_true, true_and, aA, tL, dG, bO, aGW, if_false, bP, pD, d2, aE, cW, n1, g1d, aI]
 refine (aER hk (dr w1)).mono ?_
 rintro r w2 ⟨hs2, x2⟩
 have hlen2 : ((kL k).map fun (n : Nat) => (n : Int)).length = kZ k := by rw [aG1, aCp hk]
 obtain ⟨b2, off2, c2, rfl, hcc2, hcell2⟩ := hs2.openI (by omega)
 have g2 := hcell2 c (by omega)
 rw [aHs, <- mC] at g2
 have hs3 := (hs.ext (aS.dr _ cM) (cD _)).ext x2 (cD _)
 obtain ⟨b', off', c'', hv, _, hcell3⟩ := hs3.openI (by omega)
 cases hv
 have g3 := hcell3 c (by omega)
 rw [aHs, <- mC] at g3
 simp (disch := omega) only [g3, aI, hlen2, dJ, aGO, aA, bZ, g2, true_and]
 exact (x1.seq (aS.dr _ _)).seq x2
def RT (w : aJa) (b log : Nat) (L : List T3) (v : aJb) : Prop := ∃ cc rest, v = .agg #[.int .i64 log, .slice (some ⟨b, 0, none⟩) L.length cc] /\ cJ w b (fe .i64 L ++ rest)
theorem RT.ext {w w' : aJa} {b log : Nat} {L : List T3} {v : aJb} {M : Nat -> Prop} (h : RT w b log L v) (hx : aS w w' M) (hM : ¬ M b) : RT w' b log L v := by
 obtain ⟨cc, rest, h1, h2⟩ := h
 exact ⟨cc, rest, h1, h2.ext hx hM⟩
theorem aCW (s : Int) (w : aJa) : aR pg LS #[.int .i64 s] w (fun r w' => ∃ b, w.heap.size <= b /\ RT w' b 0 [(s, 0, 0)] r /\ aS w w' cM) := by
 refine amK ?_
 unfold apU Qv
 refine gW fun w1 o1 x1 s1 => ?_
 simp (disch := omega) only [aC, eC, aA, stepR_skip, bM, dZ, pH, DU, D5, Rw, asP, aEF, auQ, mE, wV, cW, eT, aX, avL, dP, pD, aCK, aEA, Il, bO, aDe, amS, rB, Ch, B7, SE, SF, SD, x40, x41, x42, x43, aI, Result.ok.injEq, Next.value.injEq, true_and, and_true, aT, hJ, aEH, Yr, aEx, Qf, aGO, tR, jE, ED, dG, bP, dV, azV, auZ, aF, aE, if_true, if_false, aGW, aGP, aHe, Option.isNone_none, aHB, aId, aGR, aGQ, wL, dU, fO, oM, mI, fH, nG, jN, tL, kP, lH, eK, bY, dS, hY, xR, bZ, pX, BL, vA, fG, jD, gP, zU, rH, cZ, dJ, eE, uM, fU, uO, lD, fW, sJ, cL, XY, tB, BT, lS, nL, nJ, gA, qD, yA, zE, lP, fS, nO, zF, lF, jT, oI, nA, tK, vO, dC, bQ, bN, kA, nD, qS, EK, Uv, Fz, vB, sM, fL, iG, mX, mZ, iE, sF, kV, Ds, rU, nK, pG, Mk, eA, fF, G9, kT, bK, qE, MJ, nI, xN, KZ, Ju, uF, xE, FH, Kr, uL, wE, PY, QB, pN, C6, vD, jR, pQ, cQ, aW, PX, Of, Aj, MH, HB, mA, G1, GP, dY, dK, zL, GZ, A9, kJ, kQ, iR, BU, Bq, Hf, GC, lM, pL, lW, HP, HG, Ke, CR, pJ, wR, qO, VL, SI]
 refine Cc (cells := #[.int .i64 s, .int .i64 0, .int .i64 0]) (by decide) (by decide) (by kernel_rfl) fun w2 o2 x2 s2 => ?_
 simp (disch := omega) only [aC, eC, aA, stepR_skip, bM, dZ, pH, DU, D5, Rw, asP, aEF, auQ, mE, wV, cW, eT, aX, avL, dP, pD, aCK, aEA, Il, bO, aDe, amS, rB, Ch, B7, SE, SF, SD, x40, x41, x42, x43, aI, Result.ok.injEq, Next.value.injEq, true_and, and_true, aT, hJ, aEH, Yr, aEx, Qf, aGO, tR, jE, ED, dG, bP, dV, azV, auZ, aF, aE, if_true, if_false, aGW, aGP, aHe, Option.isNone_none, aHB, aId, aGR, aGQ, wL, dU, fO, oM, mI, fH, nG, jN, tL, kP, lH, eK, bY, dS, hY, xR, bZ, pX, BL, vA, fG, jD, gP, zU, rH, cZ, dJ, eE, uM, fU, uO, lD, fW, sJ, cL, XY, tB, BT, lS, nL, nJ, gA, qD, yA, zE, lP, fS, nO, zF, lF, jT, oI, nA, tK, vO, dC, bQ, bN, kA, nD, qS, EK, Uv, Fz, vB, sM, fL, iG, mX, mZ, iE, sF, kV, Ds, rU, nK, pG, Mk, eA, fF, G9, kT, bK, qE, MJ, nI, xN, KZ, Ju, uF, xE, FH, Kr, uL, wE, PY, QB, pN, C6, vD, jR, pQ, cQ, aW, PX, Of, Aj, MH, HB, mA, G1, GP, dY, dK, zL, GZ, A9, kJ, kQ, iR, BU, Bq, Hf, GC, lM, pL, lW, HP, HG, Ke, CR, pJ, wR, qO, VL, SI]
 have l1 := o1.lt
 refine eM (o1.ext x2 (fun h => h)) rfl (by simp [one]) (by simp) fun w3 o3 x3 s3 => ?_
 refine qW o3 (by simp [aV]) ?_
 simp only [aV, aGS, aGU, aGT, aGN, aGV]
 exact ⟨w1.heap.size, by omega, ⟨1, [], rfl, o2.ext x3 (by omega)⟩, (x1.seq x2).new x3 (aGZ _)⟩
def RtV (w : aJa) (base : Nat) (T : Nat × List T3) (v : aJb) : Prop := (T = (0, []) /\ v = .agg #[.int .i64 0, .slice none 0 0]) ∨ ∃ b, base <= b /\ RT w b T.1 T.2 v
theorem RtV.nil (w : aJa) (base : Nat) : RtV w base (0, []) (.agg #[.int .i64 0, .slice none 0 0]) := .inl ⟨rfl, rfl⟩
theorem RT.lt {w : aJa} {b log : Nat} {L : List T3} {v : aJb} (h : RT w b log L v) : b < w.heap.size := by
 obtain ⟨cc, rest, h1, h2⟩ := h; exact h2.lt
theorem RtV.form {w : aJa} {base : Nat} {T : Nat × List T3} {v : aJb} (h : RtV w base T v) : ∃ a c, v = .agg #[.int .i64 T.1, .slice a T.2.length c] := by
 rcases h with ⟨rfl, rfl⟩ | ⟨b, _, cc, rest, rfl, _⟩
 .exact ⟨_, _, rfl⟩
 .exact ⟨_, _, rfl⟩
theorem RtV.ext {w w' : aJa} {base : Nat} {T : Nat × List T3} {v : aJb} {M : Nat -> Prop} (h : RtV w base T v) (x : aS w w' M) (hM : ∀ b, base <= b -> b < w.heap.size -> ¬ M b) : RtV w' base T v := by
 rcases h with h | ⟨b, hb, h⟩
 .exact .inl h
 .exact .inr ⟨b, hb, h.ext x (hM b hb h.lt)⟩
theorem RtV.lower {w : aJa} {base base' : Nat} {T : Nat × List T3} {v : aJb} (h : RtV w base T v) (hb : base' <= base) : RtV w base' T v := by
 rcases h with h | ⟨b, h1, h2⟩
 .exact .inl h
 .exact .inr ⟨b, by omega, h2⟩
def RtR (w : aJa) (base : Nat) (o : Except Int ((Nat × List T3) × Nat)) (r : aJb) : Prop := match o with
 | .error e => r = .tuple #[.agg #[.int .i64 0, .slice none 0 0], .int .i64 0, .int .i64 e]
 | .ok (T, n) => ∃ t, r = .tuple #[t, .int .i64 n, .int .i64 0] /\ RtV w base T t
theorem TN {p : Nat} {w0 w : aJa} {x : Int} {a : Option Addr} {k c : Nat} {n e : aJb} (o : cJ w p [.int .i64 0, .slice none 0 0]) (hx : aS w0 w cM) (hp : w0.heap.size <= p) {RR : aJb -> aJa -> Prop}
 (hR : ∀ w', aS w0 w' cM -> aS w w' (fun y => y = p) -> RR (.tuple #[.agg #[.int .i64 x, .slice a k c], n, e]) w') :
 aC pg (aJ 35 (.pointer (some ⟨p, 0, none⟩)) (.agg #[.int .i64 x, .slice a k c])) w fun _u w => kC pg 35 (.pointer (some ⟨p, 0, none⟩)) w fun r0 => RR (.tuple #[r0, n, e]) w := by
 refine eM o rfl (by simp [one]) (by simp) fun w6 o6 x6 s6 => ?_
 refine qW o6 (by simp [aV]) ?_
 simp only [aV, aGS, aGU, aGT, aGN, aGV]
 exact hR _ (hx.new x6 hp) x6
theorem axV {p : Nat} {w0 w : aJa} {x : Int} {a : Option Addr} {k c : Nat} {e : aJb} (o : cJ w p [.int .i64 0, .slice none 0 0]) (hx : aS w0 w cM) (hp : w0.heap.size <= p) {RR : aJb -> aJa -> Prop}
 (hR : ∀ w', aS w0 w' cM -> aS w w' (fun y => y = p) -> RR (.tuple #[.agg #[.int .i64 x, .slice a k c], e]) w') :
 aC pg (aJ 35 (.pointer (some ⟨p, 0, none⟩)) (.agg #[.int .i64 x, .slice a k c])) w fun _u w => kC pg 35 (.pointer (some ⟨p, 0, none⟩)) w fun r0 => RR (.tuple #[r0, e]) w := by
 refine eM o rfl (by simp [one]) (by simp) fun w6 o6 x6 s6 => ?_
 refine qW o6 (by simp [aV]) ?_
 simp only [aV, aGS, aGU, aGT, aGN, aGV]
 exact hR _ (hx.new x6 hp) x6
theorem axO {a : Int} (ha : 0 <= a /\ a <= 2) (w : aJa) : aR pg FG #[.int .i64 a] w (fun r w' => ∃ v, r = .agg #[.int .i64 (Yt a : Nat), v] /\ Sl w' v ((gvP a).map (Value.int .i64)) /\ aS w w' cM) := by
 refine adW ?_
 unfold agS Jf
 refine nP fun w1 o1 x1 s1 => ?_
 rcases (show a = 0 ∨ a = 1 ∨ a = 2 by omega) with rfl | rfl | rfl
 .have n1 : ((0 : Int) == 0) = true := rfl
  simp (disch := omega) only [aC, cW, n1, aA, aF]
  refine wC (cells := (zTL.map (Value.int .i64)).toArray) (by decide) (by decide) (by kernel_rfl) fun w2 o2 x2 s2 => ?_
  simp (disch := omega) only [lM, aA]
  refine iH (o1.ext x2 (fun h => h)) rfl (by simp [one]) (by simp) fun w4 o4 x4 s4 => ?_
  refine nE o4 (by simp [aV]) ?_
  simp only [aV, aGS, aGU, aGT, aGN, aGV]
  exact ⟨_, rfl, Tm (o2.ext x4 (by omega)) rfl, (x1.seq x2).new x4 (by omega)⟩
 .have n1 : ((1 : Int) == 0) = false := rfl
  have n2 : ((1 : Int) == 1) = true := rfl
  simp (disch := omega) only [aC, cW, n1, n2, aA, aF, aE]
  refine wC (cells := (zTO.map (Value.int .i64)).toArray) (by decide) (by decide) (by kernel_rfl) fun w2 o2 x2 s2 => ?_
  simp (disch := omega) only [lM, aA]
  refine iH (o1.ext x2 (fun h => h)) rfl (by simp [one]) (by simp) fun w4 o4 x4 s4 => ?_
  refine nE o4 (by simp [aV]) ?_
  simp only [aV, aGS, aGU, aGT, aGN, aGV]
  exact ⟨_, rfl, Tm (o2.ext x4 (by omega)) rfl, (x1.seq x2).new x4 (by omega)⟩
 .have n1 : ((2 : Int) == 0) = false := rfl
  have n2 : ((2 : Int) == 1) = false := rfl
  simp (disch := omega) only [aC, cW, n1, n2, aA, aE]
  refine wC (cells := (zTM.map (Value.int .i64)).toArray) (by decide) (by decide) (by kernel_rfl) fun w2 o2 x2 s2 => ?_
  simp (disch := omega) only [lM, aA]
  refine iH (o1.ext x2 (fun h => h)) rfl (by simp [one]) (by simp) fun w4 o4 x4 s4 => ?_
  refine nE o4 (by simp [aV]) ?_
  simp only [aV, aGS, aGU, aGT, aGN, aGV]
  exact ⟨_, rfl, Tm (o2.ext x4 (by omega)) rfl, (x1.seq x2).new x4 (by omega)⟩
theorem arA {a : Int} (w : aJa) : aR pg A6 #[.int .i64 a] w (fun r w' => ∃ t e, r = .tuple #[t, .int .i64 e] /\ (match vP a with
 | .error e' => t = .agg #[.int .i64 0, .slice none 0 0] /\ e = e'
 | .ok T => RtV w' w.heap.size T t /\ e = 0) /\ aS w w' cM) := by
 refine WU ?_
 unfold VE EU
 refine gW fun w1 o1 x1 s1 => ?_
 have z1 := x1.size
 by_cases h0 : a < 0
 .have d1 : decide (a < 0) = true := by simpa using h0
  have hE : vP a = .error 1 := by unfold vP; rw [if_neg (by omega)]
  rw [hE]
  simp (disch := omega) only [aC, aX, d1, dC, aA, jE, bO, if_true, aF, dV]
  exact axV (RR := fun r w' => ∃ t e, r = .tuple #[t, .int .i64 e] /\ (t = .agg #[.int .i64 0, .slice none 0 0] /\ e = 1) /\ aS w w' cM) o1 x1 (aGZ _) fun w' x _ => ⟨_, _, rfl, ⟨rfl, rfl⟩, x⟩
 have d1 : decide (a < 0) = false := by simpa using h0
 by_cases h2 : 2 < a
 .have d2 : decide (2 < a) = true := by simpa using h2
  have hE : vP a = .error 1 := by unfold vP; rw [if_neg (by omega)]
  rw [hE]
  simp (disch := omega) only [aC, aX, d1, dC, aA, dG, bO, aGW, if_false, bP, dP, d2, aF]
  exact axV (RR := fun r w' => ∃ t e, r = .tuple #[t, .int .i64 e] /\ (t = .agg #[.int .i64 0, .slice none 0 0] /\ e = 1) /\ aS w w' cM) o1 x1 (aGZ _) fun w' x _ => ⟨_, _, rfl, ⟨rfl, rfl⟩, x⟩
 have d2 : decide (2 < a) = false := by simpa using h2
 have hE : vP a = .ok (Yt a, jY (Yt a) (gvP a)) := by unfold vP; rw [if_pos (by omega)]
 rw [hE]
 have hm := akS (a := a) (by omega)
 simp (disch := omega) only [aC, aX, d1, dC, aA, dG, bO, aGW, if_false, bP, dP, d2, aE]
 refine (axO (by omega) _).mono ?_
 rintro r w2 ⟨v, rfl, hs, x2⟩
 have z2 := x2.size
 refine (akU hm hs).mono ?_
 rintro r w3 ⟨b, cc, rest, rfl, hb, ob, x3⟩
 have z3 := x3.size
 have hbl := ob.lt
 simp (disch := omega) only [Ch, B7, aA]
 refine axV (RR := fun r w' => ∃ t e, r = .tuple #[t, .int .i64 e] /\ (RtV w' w.heap.size (Yt a, jY (Yt a) (gvP a)) t /\ e = 0) /\ aS w w' cM) ((o1.ext x2 (fun h => h)).ext x3 (fun h => h)) ((x1.seq x2).seq x3) (aGZ _) fun w' x xx => ⟨_, _, rfl, ⟨.inr ⟨b, by omega, cc, rest, ?_, ob.ext xx (by omega)⟩, rfl⟩, x⟩
 rw [iW]
theorem aBG (a : Int) (w : aJa) : aR pg Iq #[.int .i64 a] w (fun r w' => r = .int .i64 (Cp a) /\ w' = w) := by
 refine ajH ?_
 unfold alC M4 Cp
 by_cases h0 : a = 0
 .subst h0
  have n1 : ((0 : Int) == 0) = true := rfl
  simp (disch := omega) only [aC, cW, n1, aA, jE, bO, if_true, aF, dV, and_true]
  rfl
 have n1 : (a == 0) = false := beq_eq_false_iff_ne.2 h0
 by_cases h2 : a = 2
 .subst h2
  have n2 : ((2 : Int) == 2) = true := rfl
  simp (disch := omega) only [aC, cW, n1, aA, dG, bO, aGW, if_false, bP, n2, and_true, aF]
  rfl
 have n2 : (a == 2) = false := beq_eq_false_iff_ne.2 h2
 rw [if_neg (by omega)]
 by_cases h1 : a = 1
 .subst h1
  have n3 : ((1 : Int) == 1) = true := rfl
  simp (disch := omega) only [aC, cW, n1, if_true, n3, true_and, aA, aF, dG, bO, aGW, if_false, bP, n2, and_true, aE]
 have n3 : (a == 1) = false := beq_eq_false_iff_ne.2 h1
 rw [if_neg h1]
 simp (disch := omega) only [aC, cW, n1, n3, true_and, aA, aE, dG, bO, aGW, if_false, bP, n2, and_true]
theorem anM {a mode : Int} {s : ByteArray} {ov : aJb} {T : Nat × List T3} {base : Nat} {w : aJa} (hl : mode = 2 -> s.size <= 1000000) (ho : RtV w base T ov) (hbase : base <= w.heap.size) (hT : T.2.length <= 1000000) :
 aR pg Cr #[.int .i64 a, .int .i64 mode, .string s, ov] w (fun r w' => RtR w' base (gE a mode (lC s) T) r /\ aS w w' cM) := by
 refine ajV ?_
 obtain ⟨RR, hRR⟩ : ∃ RR : aJb -> aJa -> Prop, RR = fun r w' => RtR w' base (gE a mode (lC s) T) r /\ aS w w' cM := ⟨_, rfl⟩
 rw [<- hRR]
 obtain ⟨oa, oc, rfl⟩ := ho.form
 unfold alN MP
 refine fY fun w1 o1 x1 s1 => ?_
 simp only [Value.cells] at o1
 refine gW fun w2 o2 x2 s2 => ?_
 have x12 := x1.seq x2
 have z2 := x12.size
 refine (avQ a _).mono ?_
 rintro r w3 ⟨hbs, x3⟩
 have hbl := aCz a
 obtain ⟨ga, gc, rfl, _⟩ := hbs.lenI
 have o1 := (o1.ext x2 (fun h => h)).ext x3 (fun h => h)
 have o2 := o2.ext x3 (fun h => h)
 have x13 := x12.seq x3
 have z3 := x3.size
 have err : ∀ {e : Int} {w' : aJa}, gE a mode (lC s) T = .error e -> aS w w' cM -> RR (.tuple #[.agg #[.int .i64 0, .slice none 0 0], .int .i64 0, .int .i64 e]) w' := fun h x => by
  rw [hRR]; refine ⟨?_, x⟩; rw [h] <;> rfl
 have good : ∀ {T' : Nat × List T3} {n : Nat} {w' : aJa} {t : aJb}, gE a mode (lC s) T = .ok (T', n) -> RtV w' base T' t -> aS w w' cM -> RR (.tuple #[t, .int .i64 n, .int .i64 0]) w' := fun h ht x => by
  rw [hRR]; refine ⟨?_, x⟩; rw [h]; exact ⟨_, rfl, ht⟩
 generalize (aBt a).length = nb at *
 by_cases ha : 0 <= a /\ a <= 2
 rotate_left
 .have hE : gE a mode (lC s) T = .error 1 := by unfold gE; rw [if_pos (by omega)]
  have d1 : (((nb : Nat) : Int) == 0) = true := by rw [hbl, amU ha] <;> rfl
  simp (disch := omega) only [aC, fU, dC, aA, cW, bQ, aGP, bN, d1, jE, bO, if_true, aF, dV]
  exact TN o2 x13 (by omega) fun w' x _ => err hE x
 obtain ⟨hl1, hl2⟩ := JH ha
 have d1 : (((nb : Nat) : Int) == 0) = false := beq_eq_false_iff_ne.2 (by omega)
 by_cases hm0 : mode < 0
 .have d2 : decide (mode < 0) = true := by simp; omega
  have hE : gE a mode (lC s) T = .error 1 := by unfold gE; rw [if_pos (by omega)]
  simp (disch := omega) only [aC, fU, dC, aA, cW, bQ, aGP, bN, d1, dG, bO, aGW, if_false, bP, aX, d2, jE, if_true, aF, dV]
  exact TN o2 x13 (by omega) fun w' x _ => err hE x
 have d2 : decide (mode < 0) = false := by simp; omega
 by_cases hm3 : 3 < mode
 .have d3 : decide (3 < mode) = true := by simp; omega
  have hE : gE a mode (lC s) T = .error 1 := by unfold gE; rw [if_pos (by omega)]
  simp (disch := omega) only [aC, fU, dC, aA, cW, bQ, aGP, bN, d1, dG, bO, aGW, if_false, bP, aX, d2, dP, d3, aF]
  exact TN o2 x13 (by omega) fun w' x _ => err hE x
 have d3 : decide (3 < mode) = false := by simp; omega
 have hno : ¬ (a < 0 ∨ 2 < a ∨ mode < 0 ∨ 3 < mode) := by omega
 by_cases m0 : mode = 0
 .subst m0
  have n1 : ((0 : Int) == 0) = true := rfl
  have hE : gE a 0 (lC s) T = .ok ((Yt a, jY (Yt a) (gvP a)), 0) := by unfold gE; rw [if_neg hno, if_pos rfl]
  simp (disch := omega) only [aC, fU, dC, aA, cW, n1, bQ, aGP, bN, aF, d1, dG, bO, aGW, if_false, bP, aX, d2, dP, d3, aE]
  refine (arA _).mono ?_
  rintro r w4 ⟨t, e, rfl, ht, x4⟩
  have hD : vP a = .ok (Yt a, jY (Yt a) (gvP a)) := by unfold vP; rw [if_pos (by omega)]
  rw [hD] at ht
  obtain ⟨ht, rfl⟩ := ht
  obtain ⟨ta, tc, rfl⟩ := ht.form
  have z4 := x4.size
  simp (disch := omega) only [Ch, B7, aA]
  refine gW fun w5 o5 x5 s5 => ?_
  refine eM o5 rfl (by simp [one]) (by simp) fun w6 o6 x6 s6 => ?_
  have l1 := dB (off := 0) o6 (by simp [aV])
  simp only [aV, aGS, aGU, aGT, aGN, aGV] at l1
  simp (disch := omega) only [l1, aA]
  have x46 : aS w3 w6 cM := x4.seq (x5.new x6 (aGZ _))
  refine TN (o2.ext x46 (fun h => h)) (x13.seq x46) (by omega) fun w' x x7 => good hE ?_ x
  rcases ht with ⟨e, _⟩ | ⟨b', hb', h'⟩
  .exact absurd (congrArg (fun T : Nat × List T3 => T.2.length) e) (by
    show (jY _ _).length ≠ 0
    rw [iW]; have := aHp (Yt a); omega)
  .obtain ⟨cc, rest, q1, q2⟩ := h'
   cases q1
   have hlt := q2.lt
   exact .inr ⟨b', by omega, _, rest, rfl, ((q2.ext x5 (fun h => h)).ext x6 (by omega)).ext x7 (by omega)⟩
 have n1 : (mode == 0) = false := beq_eq_false_iff_ne.2 m0
 have hls := kG s
 by_cases m1 : mode = 1
 .subst m1
  have n2 : ((1 : Int) == 1) = true := rfl
  cases hle : lC s with
  | nil =>
    have hE : gE a 1 (lC s) T = .error 10 := by rw [hle]; unfold gE; rw [if_neg hno, if_neg (by omega), if_pos rfl]
    have hs0 : s = ⟨#[]⟩ := aAt hle
    have n3 : (s.toList == (⟨#[]⟩ : ByteArray).toList) = true := by rw [hs0]; simp
    simp (disch := omega) only [aC, fU, dC, aA, cW, n1, n2, aeM, n3, aF, bQ, aGP, bN, aE, d1, dG, bO, aGW, if_false, bP, aX, d2, dP, d3]
    exact TN o2 x13 (by omega) fun w' x _ => err hE x
  | cons y l =>
    have hsz : 0 < s.size := by rw [<- hls, hle]; simp
    have n3 : (s.toList == (⟨#[]⟩ : ByteArray).toList) = false := axD (by omega)
    have g0 : (s[(0 : Int).toNat]'hsz) = y := by
     have := YS s 0 hsz
     simp only [hle, aIo] at this
     exact this
    have hsz' : (0 : Int).toNat < s.size := hsz
    have hy := y.toNat_lt
    by_cases hyl : mM a < (y.toNat : Int)
    .have d4 : decide (((nb : Nat) : Int) <= (y.toNat : Int)) = true := by simp only [decide_eq_true_eq]; omega
     have hE : gE a 1 (lC s) T = .error 11 := by rw [hle]; unfold gE; rw [if_neg hno, if_neg (by omega), if_pos rfl]; exact if_pos hyl
     simp (disch := omega) only [aC, fU, dC, aA, cW, n1, n2, aeM, n3, tK, g0, nO, aT, aE, bQ, aGP, bN, aF, d1, pD, d4, dG, bO, aGW, if_false, bP, aX, d2, dP, d3]
     exact TN o2 x13 (by omega) fun w' x _ => err hE x
    .have d4 : decide (((nb : Nat) : Int) <= (y.toNat : Int)) = false := by simp only [decide_eq_false_iff_not]; omega
     have hE : gE a 1 (lC s) T = .ok ((0, [((y.toNat : Nat), 0, 0)]), 1) := by rw [hle]; unfold gE; rw [if_neg hno, if_neg (by omega), if_pos rfl]; exact if_neg hyl
     simp (disch := omega) only [aC, fU, dC, aA, cW, n1, n2, aeM, n3, tK, g0, nO, aT, aE, bQ, aGP, bN, aF, d1, pD, d4, dG, bO, aGW, if_false, bP, aX, d2, dP, d3]
     refine (aCW (y.toNat : Nat) _).mono ?_
     rintro r w4 ⟨b, hb1, ⟨cc, rest, rfl, ob⟩, x4⟩
     have z4 := x4.size
     have hbl := ob.lt
     refine TN (o2.ext x4 (fun h => h)) (x13.seq x4) (by omega) fun w' x x7 => good hE (.inr ⟨b, by omega, cc, rest, rfl, ?_⟩) x
     exact ob.ext x7 (by omega)
 have n2 : (mode == 1) = false := beq_eq_false_iff_ne.2 m1
 by_cases m3 : mode = 3
 .subst m3
  have n3 : ((3 : Int) == 3) = true := rfl
  have c1 := o1.cell (off := 1)
  simp only [aGQ, aGR] at c1
  have l1 := dB (off := 0) o1 (by simp)
  simp only [aGT, aGN, aGV] at l1
  by_cases h0 : T.2 = []
  .have n4 : (((T.2.length : Nat) : Int) == 0) = true := by rw [h0] <;> rfl
   have hE : gE a 3 (lC s) T = .error 11 := by unfold gE; rw [if_neg hno, if_neg (by omega), if_neg (by omega), if_pos rfl, if_pos h0]
   simp (disch := omega) only [aC, fU, dC, aA, cW, n1, n2, n3, bQ, aGP, bN, aF, aE, d1, dG, bO, aGW, if_false, bP, aX, d2, dP, d3, c1, aI, kA, n4]
   exact TN o2 x13 (by omega) fun w' x _ => err hE x
  .have n4 : (((T.2.length : Nat) : Int) == 0) = false := by
    have := aHP.2 h0
    simp; exact h0
   have hE : gE a 3 (lC s) T = .ok (T, 0) := by unfold gE; rw [if_neg hno, if_neg (by omega), if_neg (by omega), if_pos rfl, if_neg h0]
   simp (disch := omega) only [aC, fU, dC, aA, cW, n1, n2, n3, bQ, aGP, bN, aF, aE, d1, dG, bO, aGW, if_false, bP, aX, d2, dP, d3, c1, aI, kA, n4, l1]
   refine TN o2 x13 (by omega) fun w' x x7 => good hE ?_ x
   rcases ho with ⟨e, _⟩ | ⟨b, hb1, h⟩
   .rw [e] at h0; exact absurd rfl h0
   .have hbl := h.lt
    exact .inr ⟨b, hb1, (h.ext x13 (fun h => h)).ext x7 (by omega)⟩
 have n3 : (mode == 3) = false := beq_eq_false_iff_ne.2 m3
 have m2 : mode = 2 := by omega
 have hl2 := hl m2
 simp (disch := omega) only [aC, fU, dC, aA, cW, n1, n2, n3, bQ, aGP, bN, aE, d1, dG, bO, aGW, if_false, bP, aX, d2, dP, d3]
 refine (aBG a _).mono ?_
 rintro r w4 ⟨rfl, hw⟩
 rw [hw]
 clear hw w4
 have e1 : (mM a + 1).toNat = nb := by omega
 refine (axW hl2 (by omega)).mono ?_
 rintro r w4 ⟨hr, x4⟩
 have z4 := x4.size
 have hE0 : gE a mode (lC s) T = match vV (bE (lC s)) (Cp a) nb with
  | .error e => .error e
  | .ok (lg, ps, u) => .ok ((lg, jY lg ps), u) := by unfold gE; rw [if_neg hno, if_neg m0, if_neg m1, if_neg m3, e1] <;> rfl
 cases hrl : vV (bE (lC s)) (Cp a) nb with
 | error e =>
   rw [hrl] at hr hE0
   have hr : r = _ := hr
   subst hr
   have he := abI hrl
   have n4 : (e != 0) = true := by simpa using he
   have hE : gE a mode (lC s) T = .error e := hE0
   simp (disch := omega) only [SE, SF, SD, aA, eT]
   refine nP fun w5 o5 x5 s5 => ?_
   refine iH o5 rfl (by simp [one]) (by simp) fun w6 o6 x6 s6 => ?_
   simp (disch := omega) only [n4, aF]
   have x46 : aS w3 w6 cM := x4.seq (x5.new x6 (aGZ _))
   exact TN (o2.ext x46 (fun h => h)) (x13.seq x46) (by omega) fun w' x _ => err hE x
 | ok y =>
   obtain ⟨lg, ps, u⟩ := y
   rw [hrl] at hr hE0
   obtain ⟨v, rfl, hv⟩ := hr
   obtain ⟨hmay, hlg, hpl⟩ := alI hrl
   have hm := hmay (by omega)
   have hE : gE a mode (lC s) T = .ok ((lg, jY lg ps), u) := hE0
   obtain ⟨va, vc, rfl⟩ := hv.len
   have hs := hv.sl
   have n4 : ((0 : Int) != 0) = false := rfl
   simp (disch := omega) only [SE, SF, SD, aA, eT]
   refine nP fun w5 o5 x5 s5 => ?_
   refine iH o5 rfl (by simp [one]) (by simp) fun w6 o6 x6 s6 => ?_
   have l1 := lG (off := 0) o6 (by simp [aV])
   simp only [aV, aGS, aGU, aGT, aGN, aGV] at l1
   have x46 : aS w4 w6 cM := x5.new x6 (aGZ _)
   have z6 := x46.size
   simp (disch := omega) only [n4, l1, aA, aE]
   refine (akU hm (hs.ext x46 (cD _))).mono ?_
   rintro r w7 ⟨b, cc, rest, rfl, hb1, ob, x7⟩
   have z7 := x7.size
   have hbl := ob.lt
   simp (disch := omega) only [Ch, B7, aA, eT]
   refine gW fun w8 o8 x8 s8 => ?_
   refine eM o8 rfl (by simp [one]) (by simp) fun w9 o9 x9 s9 => ?_
   have l2 := dB (off := 0) o9 (by simp [aV])
   simp only [aV, aGS, aGU, aGT, aGN, aGV] at l2
   simp (disch := omega) only [n4, l2, aA, aE]
   have x49 : aS w3 w9 cM := ((x4.seq x46).seq x7).seq (x8.new x9 (aGZ _))
   refine TN (o2.ext x49 (fun h => h)) (x13.seq x49) (by omega) fun w' x x10 => good hE (.inr ⟨b, by omega, cc, rest, by rw [iW], ?_⟩) x
   exact ((ob.ext x8 (fun h => h)).ext x9 (by omega)).ext x10 (by omega)
theorem awX {log lo hi lack k cc : Nat} {a : Option Addr} {b : aJb} {L : List Bool} {w : aJa} (h : RB w lo hi b L lack) (hhi : hi <= w.heap.size) (hn : log <= 20) (hL : L.length <= 10000000) (hk : lack <= 100000000) :
 aR pg sC #[.agg #[.int .i64 log, .slice a k cc], b] w (fun r w' => ∃ b', r = .tuple #[b', .int .i64 (sO L log : Nat)] /\ RB w' lo hi b' (L.take (L.length - min log L.length)) (lack + (log - min log L.length)) /\ aS w w' cM) := by
 refine abP ?_
 unfold agQ JL
 have hb := h
 obtain ⟨v, rfl, hs, hat⟩ := h
 obtain ⟨a', c', rfl, hc⟩ := LU hs
 refine fY fun w1 o1 x1 s1 => ?_
 refine fY fun w2 o2 x2 s2 => ?_
 refine jA fun w3 o3 x3 s3 => ?_
 simp only [Value.cells] at o1 o2
 have o13 := (o1.ext x2 (fun h => h)).ext x3 (fun h => h)
 have o23 := o2.ext x3 (fun h => h)
 have x03 : aS w w3 cM := (x1.seq x2).seq x3
 have c0 := o13.cell (off := 0)
 have l1 := cX (off := 0) o23 (by simp)
 simp only [aGQ, aGR, aGT, aGN, aGV] at c0 l1
 simp (disch := omega) only [aC, l1, sM, aA, bZ, c0, aI]
 refine (afF (hb.ext x03 (fun _ _ _ h => h)) (by omega) hL (by omega)).mono ?_
 rintro r w4 ⟨b', rfl, hb4, x4⟩
 have hlt := CZ L log
 have hp : 2 ^ log <= 2 ^ 20 := aG0 (by omega) hn
 generalize sO L log = x at *
 have hb4' := hb4
 obtain ⟨v4, rfl, hs4, hat4⟩ := hb4
 obtain ⟨a4, c4, rfl, hc4⟩ := LU hs4
 simp (disch := omega) only [Ch, B7, aA, cZ, aT]
 refine bU (o23.ext x4 (fun h => h)) rfl (by simp [one]) (by simp) fun w5 o5 x5 s5 => ?_
 simp only [aV, aGS, aGU] at o5
 have l5 := cX (off := 0) o5 (by simp)
 simp only [aGT, aGN, aGV] at l5
 simp (disch := omega) only [l5, aA]
 refine bU ((o3.ext x4 (fun h => h)).ext x5 (by omega)) rfl (by simp [one]) (by simp) fun w6 o6 x6 s6 => ?_
 refine gY o6 (by simp [aV]) ?_
 simp only [aV, aGS, aGU, aGT, aGN, aGV]
 have z3 := x3.size
 have x46 : aS w3 w6 (fun y => y = w1.heap.size ∨ y = w2.heap.size) := ((x4.mono fun _ _ h => h.elim).seq (x5.mono fun _ _ h => .inl h)).seq (x6.mono fun _ _ h => .inr h)
 have x06 : aS w w6 cM := x03.trans x46 fun b hb h => by omega
 refine ⟨_, rfl, ?_, x06⟩
 exact ⟨_, rfl, hs4.ext ((x5.mono fun _ _ h => .inl h : aS w4 w5 (fun y => y = w1.heap.size ∨ y = w2.heap.size)).seq (x6.mono fun _ _ h => .inr h)) (hat4 _ fun b hb hh => by omega), hat4⟩
theorem axH {log b lo hi lack : Nat} {v bv : aJb} {L : List T3} {s : Int} {B : List Bool} {w : aJa} (ht : RT w b log L v) (hL : Low L) (hlen : L.length <= 1000000) (h : RB w lo hi bv B lack) (hhi : hi <= w.heap.size) (hB : B.length <= 10000000) (hk : lack <= 100000000) :
 aR pg nM #[v, .int .i64 s, bv] w (fun r w' => ∃ b', r = .tuple #[b', .int .i64 (xF L s (sO B (nY L s)))] /\ RB w' lo hi b' (B.take (B.length - min (nY L s) B.length)) (lack + (nY L s - min (nY L s) B.length)) /\ aS w w' cM) := by
 refine ajY ?_
 have htt := ht
 obtain ⟨cc, rest, rfl, ob⟩ := ht
 have hb := h
 obtain ⟨v, rfl, hs, hat⟩ := h
 obtain ⟨a', c', rfl, hc⟩ := LU hs
 unfold akT MB
 refine fY fun w1 o1 x1 s1 => ?_
 refine fY fun w2 o2 x2 s2 => ?_
 refine jA fun w3 o3 x3 s3 => ?_
 simp only [Value.cells] at o1 o2
 have o13 := (o1.ext x2 (fun h => h)).ext x3 (fun h => h)
 have o23 := o2.ext x3 (fun h => h)
 have x03 : aS w w3 cM := (x1.seq x2).seq x3
 have c1 := o13.cell (off := 1)
 have l1 := cX (off := 0) o23 (by simp)
 simp only [aGQ, aGR, aGT, aGN, aGV] at c1 l1
 have hlb := ob.lt
 have bad : nY L s = 0 -> (∀ x, xF L s x = 0) -> ∀ w6, aS w3 w6 (fun y => y = w2.heap.size) -> ∃ b', Value.tuple #[.agg #[.slice a' B.length c', .int .i64 lack], .int .i64 0] = Value.tuple #[b', .int .i64 (xF L s (sO B (nY L s)))] /\ RB w6 lo hi b' (B.take (B.length - min (nY L s) B.length)) (lack + (nY L s - min (nY L s) B.length)) /\ aS w w6 cM := by
  intro e1 e2 w6 x6
  have x06 : aS w w6 cM := x03.new x6 (by omega)
  refine ⟨_, by rw [e2], ⟨_, ?_, ?_, hat⟩, x06⟩
  .rw [e1]; simp
  .have : B.take (B.length - min (nY L s) B.length) = B := aHk (by omega)
   rw [this]
   exact hs.ext x06 (cD _)
 by_cases hs0 : s < 0
 .have d1 : decide (s < 0) = true := by simpa using hs0
  have e1 : nY L s = 0 := by unfold nY; rw [if_neg (by omega)]
  have e2 : ∀ x, xF L s x = 0 := fun x => by unfold xF; rw [if_neg (by omega)]
  simp (disch := omega) only [aC, aX, d1, bQ, aGP, aA, eC, and_true, Result.ok.injEq, Next.value.injEq, true_and, bN, jE, bO, if_true, aF, dV, l1]
  refine bU o3 rfl (by simp [one]) (by simp) fun w6 o6 x6 s6 => ?_
  refine gY o6 (by simp [aV]) ?_
  simp only [aV, aGS, aGU, aGT, aGN, aGV]
  exact bad e1 e2 w6 x6
 have d1 : decide (s < 0) = false := by simpa using hs0
 obtain ⟨i, rfl⟩ : ∃ i : Nat, s = i := ⟨s.toNat, by omega⟩
 by_cases hge : L.length <= i
 .have d2 : decide ((L.length : Int) <= (i : Int)) = true := by simp; omega
  have hnone : L[i]? = none := aHa hge
  have e1 : nY L i = 0 := by unfold nY; simp [hnone]
  have e2 : ∀ x, xF L i x = 0 := fun x => by unfold xF; simp [hnone]
  simp (disch := omega) only [aC, aX, d1, bQ, aGP, aA, eC, and_true, Result.ok.injEq, Next.value.injEq, true_and, bN, dG, bO, aGW, if_false, bP, c1, aI, kA, pD, d2, l1, aF]
  refine bU o3 rfl (by simp [one]) (by simp) fun w6 o6 x6 s6 => ?_
  refine gY o6 (by simp [aV]) ?_
  simp only [aV, aGS, aGU, aGT, aGN, aGV]
  exact bad e1 e2 w6 x6
 clear bad
 have d2 : decide ((L.length : Int) <= (i : Int)) = false := by simp; omega
 have hlt : i < L.length := by omega
 obtain ⟨n, hn, hn2, hb0', hb1⟩ := hL _ (aG7 hlt)
 have hsome : L[i]? = some L[i] := aGX hlt
 have e1 : nY L i = n := by unfold nY; simp [hsome, hn]
 have e2 : ∀ x : Nat, xF L i x = L[i].2.2 + x := fun x => by unfold xF; simp [hsome]
 obtain ⟨q1, q2, q3⟩ := PL (k := .i64) hsome
 have hq : i * 3 + 2 < (fe .i64 L).length := by rw [kR]; omega
 rw [<- aG6 (l₂ := rest) (by omega)] at q1 q2 q3
 generalize L[i] = e at *
 obtain ⟨e0, en, eb⟩ := e
 simp only at hn hb0' hb1 q1 q2 q3 e2
 subst hn
 rw [e1, e2]
 have ob3 := ob.ext x03 (fun h => h)
 have od := dO o13
 have o2d := dO o23
 have obd := dO ob3
 have c1d := od.cell (off := 1)
 have l1d := cX (off := 0) o2d (by simp)
 have r2d := obd.cell (off := i * 3 + 1)
 have r2 := ob3.cell (off := i * 3 + 1)
 rw [q2] at r2 r2d
 simp only [aGQ, aGR, aGT, aGN, aGV] at c1d l1d
 simp (disch := omega) only [aC, aX, d1, bQ, aGP, aA, eC, and_true, Result.ok.injEq, Next.value.injEq, true_and, bN, dG, bO, aGW, if_false, bP, c1, aI, kA, pD, d2, l1, l1d, c1d, fL, aGO, mX, bZ, r2d, aE]
 refine (afF ((hb.ext x03 (fun _ _ _ h => h)).ext (aS.dr _ cM) (fun _ _ _ h => h)) (by omega) hB (by omega)).mono ?_
 rintro r w4 ⟨b', rfl, hb4, x4⟩
 have hlt := CZ B n
 have hp : 2 ^ n <= 2 ^ 20 := aG0 (by omega) hn2
 generalize sO B n = x at *
 obtain ⟨v4, rfl, hs4, hat4⟩ := hb4
 obtain ⟨a4, c4, rfl, hc4⟩ := LU hs4
 simp (disch := omega) only [Ch, B7, Result.ok.injEq, Next.value.injEq, and_true, aA, cZ, aT, true_and]
 refine bU (o2d.ext x4 (fun h => h)) rfl (by simp [one]) (by simp) fun w5 o5 x5 s5 => ?_
 simp only [aV, aGS, aGU] at o5
 have z3 := x3.size
 have z4 : w3.heap.size <= w4.heap.size := x4.size
 have x35 : aS w3 w5 (fun y => y = w1.heap.size) := (((aS.dr w3 cM).seq x4).mono fun _ _ h => h.elim).seq x5
 have o15 := o13.ext x35 (by omega)
 have ob5 := ob3.ext x35 (by omega)
 have o5d := dO o5
 have l5 := cX (off := 0) o5d (by simp)
 have c15 := (dO o15).cell (off := 1)
 have r3 := (dO ob5).cell (off := i * 3 + 2)
 rw [q3] at r3
 simp only [aGQ, aGR, aGT, aGN, aGV] at l5 c15
 simp (disch := omega) only [l5, c15, aI, aA, fL, aGO, aGP, Result.ok.injEq, Next.value.injEq, and_true, mZ, true_and, bZ, r3, bM, aT]
 refine bU (dO (o3.ext x35 (by omega))) rfl (by simp [one]) (by simp) fun w6 o6 x6 s6 => ?_
 simp only [aV, aGS, aGU] at o6
 have x56 : aS w5 w6 (fun y => y = w2.heap.size) := (aS.dr _ _).seq x6
 have c16 := (o15.ext x56 (by omega)).cell (off := 1)
 have r36 := (ob5.ext x56 (by omega)).cell (off := i * 3 + 2)
 rw [q3] at r36
 simp only [aGQ, aGR] at c16
 simp (disch := omega) only [r36, aI, c16, and_true, true_and]
 refine gY o6 (by simp) ?_
 simp only [aGT, aGN, aGV]
 have x36 : aS w3 w6 (fun y => y = w1.heap.size ∨ y = w2.heap.size) := (x35.mono fun _ _ h => .inl h).seq (x56.mono fun _ _ h => .inr h)
 have x06 : aS w w6 cM := x03.trans x36 fun b hb h => by omega
 refine ⟨_, rfl, ⟨_, rfl, hs4.ext ((x5.mono fun _ _ h => .inl h : aS w4 w5 (fun y => y = w1.heap.size ∨ y = w2.heap.size)).seq (x56.mono fun _ _ h => .inr h)) (hat4 _ fun b hb hh => by omega), hat4⟩, x06⟩
def RBl (w : aJa) (lo hi : Nat) (b : aJb) (B : List Bool) (left : Int) : Prop := RB w lo hi b (B.take left.toNat) (-left).toNat
theorem RBl.ext {w w' : aJa} {lo hi : Nat} {b : aJb} {B : List Bool} {left : Int} {M : Nat -> Prop} (h : RBl w lo hi b B left) (x : aS w w' M) (hM : ∀ b, lo <= b -> b < hi -> ¬ M b) : RBl w' lo hi b B left := RB.ext h x hM
theorem RBl.form {w : aJa} {lo hi : Nat} {b : aJb} {B : List Bool} {left : Int} (h : RBl w lo hi b B left) (hl : left <= B.length) : ∃ a c, b = .agg #[.slice a left.toNat c, .int .i64 ((-left).toNat : Nat)] := by
 obtain ⟨v, rfl, hs, _⟩ := h
 obtain ⟨a, c, rfl, _⟩ := LU hs
 have : (B.take left.toNat).length = left.toNat := by rw [aG4]; omega
 rw [this]
 exact ⟨_, _, rfl⟩
theorem RBl.step {w : aJa} {lo hi n : Nat} {b : aJb} {B : List Bool} {left : Int} (hl : left <= B.length)
 (h : RB w lo hi b ((B.take left.toNat).take ((B.take left.toNat).length - min n (B.take left.toNat).length)) ((-left).toNat + (n - min n (B.take left.toNat).length))) : RBl w lo hi b B (left - n) := by
 have hlen : (B.take left.toNat).length = left.toNat := by rw [aG4]; omega
 rw [hlen, List.take_take] at h
 have e1 : min (left.toNat - min n left.toNat) left.toNat = (left - n).toNat := by omega
 have e2 : (-left).toNat + (n - min n left.toNat) = (-(left - n)).toNat := by omega
 rw [e1, e2] at h
 exact h
theorem aDq {lo hi n : Nat} {b : aJb} {B : List Bool} {left : Int} {w : aJa} (h : RBl w lo hi b B left) (hn : n <= 56) (hl : left <= B.length) (hB : B.length <= 10000000) (hk : -1000000000 <= left) :
 aR pg uS #[b, .int .i64 n] w (fun r w' => ∃ b', r = .tuple #[b', .int .u64 (rdL B left n : Nat)] /\ RBl w' lo hi b' B (left - n) /\ aS w w' cM) := by
 have hlen : (B.take left.toNat).length <= 10000000 := by rw [aG4]; omega
 refine (afF h hn hlen (by omega)).mono ?_
 rintro r w1 ⟨b', rfl, h1, x1⟩
 exact ⟨b', rfl, RBl.step hl h1, x1⟩
theorem adD {log lo hi k cc : Nat} {a : Option Addr} {b : aJb} {B : List Bool} {left : Int} {w : aJa} (h : RBl w lo hi b B left) (hhi : hi <= w.heap.size) (hn : log <= 20) (hl : left <= B.length) (hB : B.length <= 10000000) (hk : -100000000 <= left) :
 aR pg sC #[.agg #[.int .i64 log, .slice a k cc], b] w (fun r w' => ∃ b', r = .tuple #[b', .int .i64 (rdL B left log : Nat)] /\ RBl w' lo hi b' B (left - log) /\ aS w w' cM) := by
 have hlen : (B.take left.toNat).length <= 10000000 := by rw [aG4]; omega
 refine (awX h hhi hn hlen (by omega)).mono ?_
 rintro r w1 ⟨b', rfl, h1, x1⟩
 exact ⟨b', rfl, RBl.step hl h1, x1⟩
theorem anE {log b lo hi : Nat} {v bv : aJb} {L : List T3} {s : Int} {B : List Bool} {left : Int} {w : aJa} (ht : RT w b log L v) (hL : Low L) (hlen : L.length <= 1000000) (h : RBl w lo hi bv B left) (hhi : hi <= w.heap.size) (hl : left <= B.length) (hB : B.length <= 10000000) (hk : -100000000 <= left) :
 aR pg nM #[v, .int .i64 s, bv] w (fun r w' => ∃ b', r = .tuple #[b', .int .i64 (nR L s B left).1] /\ RBl w' lo hi b' B (nR L s B left).2 /\ aS w w' cM) := by
 have hl2 : (B.take left.toNat).length <= 10000000 := by rw [aG4]; omega
 refine (axH ht hL hlen h hhi hl2 (by omega)).mono ?_
 rintro r w1 ⟨b', rfl, h1, x1⟩
 exact ⟨b', rfl, RBl.step hl h1, x1⟩
theorem aCI {lo hi : Nat} {b : aJb} {B : List Bool} {left : Int} {w : aJa} (h : RBl w lo hi b B left) (hl : left <= B.length) (hB : B.length <= 10000000) (hk : -100000000 <= left) :
 aR pg Dn #[b] w (fun r w' => r = .int .i64 left /\ aS w w' cM) := by
 have hlen : (B.take left.toNat).length = left.toNat := by rw [aG4]; omega
 refine (aBJ h (by omega) (by omega)).mono ?_
 rintro r w1 ⟨rfl, x1⟩
 refine ⟨?_, x1⟩
 rw [hlen]; congr 1; omega
theorem Wp {k lo hi b : Nat} {T : TT} {v bv : aJb} {s : Nat} {B : List Bool} {left : Int} {w : aJa} (hk : k < 3) (ht : RT w b T.1 T.2 v) (hG : yQ k T) (hs : s < T.2.length) (h : RBl w lo hi bv B left) (hhi : hi <= w.heap.size) (hl : left <= B.length) (hB : B.length <= 10000000) (h2 : -100000000 <= left) :
 aR pg nN #[.int .i64 k, v, .int .i64 s, bv] w (fun r w' => ∃ b', r = .tuple #[b', .int .u32 ((vR k T.2 s B left).1 : Nat)] /\ RBl w' lo hi b' B (vR k T.2 s B left).2 /\ aS w w' cM) := by
 refine aeL ?_
 obtain ⟨RR, hRR⟩ : ∃ RR : aJb -> aJa -> Prop, RR = fun r w' => ∃ b', r = .tuple #[b', .int .u32 ((vR k T.2 s B left).1 : Nat)] /\ RBl w' lo hi b' B (vR k T.2 s B left).2 /\ aS w w' cM := ⟨_, rfl⟩
 rw [<- hRR]
 have hlen9 : T.2.length <= 512 := by rw [hG.len]; exact aG0 (by omega) hG.lg
 obtain ⟨cc, rest, rfl, ob⟩ := ht
 have hf := h.form hl
 obtain ⟨ba, bc, rfl⟩ := hf
 unfold agU KQ
 refine fY fun w1 o1 x1 s1 => ?_
 refine fY fun w2 o2 x2 s2 => ?_
 refine jA fun w3 o3 x3 s3 => ?_
 simp only [Value.cells] at o1 o2
 have x03 := (x1.seq x2).seq x3
 have z1 := x1.size
 have z2 := x2.size
 have o1 := (o1.ext x2 (fun h => h)).ext x3 (fun h => h)
 have o2 := o2.ext x3 (fun h => h)
 have c1 := o1.cell (off := 1)
 simp only [aGQ, aGR] at c1
 obtain ⟨e, c, e1, e2, e3, e4, e5⟩ := ZZ hG hs
 have k0 := (ob.ext x03 (fun h => h)).cell (off := s * 3)
 rw [aG6 (by rw [kR]; omega), (PL e1).1] at k0
 have hc53 : kZ k <= 53 := by rcases (show k = 0 ∨ k = 1 ∨ k = 2 by omega) with rfl | rfl | rfl <;> decide
 simp (disch := omega) only [aC, bQ, aGP, aA, bN, c1, aI, fL, aGO, iG, bZ, k0]
 refine (aA7 hk e2).mono ?_
 rintro r w4 ⟨rfl, x4⟩
 have ha := Zq hk e.1
 have he := aEg hk e.1 e2
 have hr := XC B left ((kL k).getD e.1 0)
 have hv : vR k T.2 s B left = ((rF k).getD e.1 0 + rdL B left ((kL k).getD e.1 0), left - (kL k).getD e.1 0) := by unfold vR; rw [ayL e1]
 rw [hv] at hRR
 have o2 := o2.ext x4 (fun h => h)
 have l2 := cX (off := 0) o2 (by simp)
 simp only [aGT, aGN, aGV] at l2
 simp (disch := omega) only [SE, SF, SD, aA, l2]
 have x04 := x03.seq x4
 refine (aDq (h.ext x04 (fun _ _ _ h => h)) (by omega) hl hB (by omega)).mono ?_
 rintro r w5 ⟨b', rfl, h5, x5⟩
 obtain ⟨ba', bc', rfl⟩ := h5.form (by omega)
 simp (disch := omega) only [Ch, B7, aA, zF, Yr, bM]
 refine bU (o2.ext x5 (fun h => h)) rfl (by simp [one]) (by simp) fun w6 o6 x6 s6 => ?_
 simp only [aV, aGS, aGU] at o6
 have l6 := cX (off := 0) o6 (by simp)
 simp only [aGT, aGN, aGV] at l6
 generalize rdL B left ((kL k).getD e.1 0) = x at *
 generalize (kL k).getD e.1 0 = n at *
 generalize (rF k).getD e.1 0 = y at *
 generalize 2 ^ n = z at *
 have ew2 : IntKind.u32.wrap (x : Int) = (x : Int) := w32 (by omega) (by omega)
 have ew3 : IntKind.u32.wrap ((y : Int) + (x : Int)) = ((y + x : Nat) : Int) := by rw [w32 (by omega) (by omega)]; omega
 simp (disch := omega) only [l6, aA]
 refine bU (((o3.ext x4 (fun h => h)).ext x5 (fun h => h)).ext x6 (by omega)) rfl (by simp [one]) (by simp) fun w7 o7 x7 s7 => ?_
 refine gY o7 (by simp [aV]) ?_
 simp only [aV, aGS, aGU, aGT, aGN, aGV]
 rw [hRR]
 exact ⟨_, rfl, (h5.ext x6 (fun b _ hb => by omega)).ext x7 (fun b _ hb => by omega), ((x04.seq x5).new x6 (by omega)).new x7 (by omega)⟩
def tvR (T : TT) (a : Option Addr) (c : Nat) : aJb := .agg #[.int .i64 T.1, .slice a T.2.length c]
def r6 (o : Nat -> TT) (a : Nat -> Option Addr) (c : Nat -> Nat) : List aJb := [.int .i64 (o 0).1, .slice (a 0) (o 0).2.length (c 0), .int .i64 (o 1).1, .slice (a 1) (o 1).2.length (c 1), .int .i64 (o 2).1, .slice (a 2) (o 2).2.length (c 2)]
def Rb3 (w : aJa) (o : Nat -> TT) (a : Nat -> Option Addr) (c : Nat -> Nat) : Prop := ∀ k, k < 3 -> RtV w 0 (o k) (tvR (o k) (a k) (c k))
theorem aEt (o : Nat -> TT) (a : Nat -> Option Addr) (c : Nat -> Nat) {k : Nat} (h : k < 3) : ((r6 o a c).drop (k * 2)).take 2 = [.int .i64 (o k).1, .slice (a k) (o k).2.length (c k)] := by
 rcases (show k = 0 ∨ k = 1 ∨ k = 2 by omega) with rfl | rfl | rfl <;> rfl
theorem aDg (o : Nat -> TT) (a : Nat -> Option Addr) (c : Nat -> Nat) {k : Nat} (h : k < 3) (T : TT) (x : Option Addr) (y : Nat) : aV (r6 o a c) (k * 2) [.int .i64 T.1, .slice x T.2.length y] = r6 (Ss o k T) (upA a k x) (upS c k y) := by
 rcases (show k = 0 ∨ k = 1 ∨ k = 2 by omega) with rfl | rfl | rfl <;> rfl
theorem Rb3.ext {w w' : aJa} {o : Nat -> TT} {a : Nat -> Option Addr} {c : Nat -> Nat} (h : Rb3 w o a c) (x : aS w w' cM) : Rb3 w' o a c := fun k hk => (h k hk).ext x fun _ _ _ h => h
theorem RtV.own {w w' : aJa} {base p : Nat} {T : TT} {v : aJb} {cs cs' : List aJb} (h : RtV w base T v) (o : cJ w p cs) (o' : cJ w' p cs') (hc : ∀ u x, ¬ (cs[0]? = some (.int .i64 u) /\ cs[1]? = some (.int .i64 x))) (x : aS w w' (fun y => y = p)) : RtV w' base T v := by
 rcases h with h | ⟨b, h0, cc, rest, h1, h2⟩
 .exact .inl h
 .by_cases hb : b = p
  .subst hb
   have e := UB h2 o
   cases hT : T.2 with
   | nil => exact .inr ⟨b, h0, cc, cs', h1, by rw [hT]; exact o'⟩
   | cons y r =>
     obtain ⟨g0, g1, _⟩ := PL (k := .i64) (L := T.2) (i := 0) (e := y) (by rw [hT] <;> rfl)
     subst e
     have hl : 3 <= (fe .i64 T.2).length := by rw [kR, hT, aHc]; omega
     exact absurd ⟨by rw [aG6 (by omega)]; exact g0, by rw [aG6 (by omega)]; exact g1⟩ (hc y.1 y.2.1)
  .exact .inr ⟨b, h0, cc, rest, h1, h2.ext x hb⟩
theorem Rb3.own {w w' : aJa} {o : Nat -> TT} {a : Nat -> Option Addr} {c : Nat -> Nat} {p : Nat} {cs cs' : List aJb} (h : Rb3 w o a c) (ho : cJ w p cs) (ho' : cJ w' p cs') (hc : ∀ u x, ¬ (cs[0]? = some (.int .i64 u) /\ cs[1]? = some (.int .i64 x))) (x : aS w w' (fun y => y = p)) : Rb3 w' o a c := fun k hk => (h k hk).own ho ho' hc x
theorem Rb3.up {w : aJa} {o : Nat -> TT} {a : Nat -> Option Addr} {c : Nat -> Nat} {k : Nat} {T : TT} {x : Option Addr} {y : Nat} (h : Rb3 w o a c) (hx : RtV w 0 T (tvR T x y)) : Rb3 w (Ss o k T) (upA a k x) (upS c k y) := fun i hi => by
 unfold Ss upA upS
 split
 .exact hx
 .exact h i hi
theorem RtV.rt {w : aJa} {base : Nat} {T : TT} {v : aJb} (h : RtV w base T v) (h0 : 0 < T.2.length) : ∃ b, RT w b T.1 T.2 v := by
 rcases h with ⟨e, _⟩ | ⟨b, _, h⟩
 .rw [e] at h0; simp at h0
 .exact ⟨b, h⟩
def RbO (w : aJa) (pb lo hi : Nat) (B : List Bool) (left : Int) : Prop := ∃ a c, cJ w pb [.slice a left.toNat c, .int .i64 ((-left).toNat : Nat)] /\ RBl w lo hi (.agg #[.slice a left.toNat c, .int .i64 ((-left).toNat : Nat)]) B left
theorem aA1 {k2 : K5} {t5 no : aJb} {n pt pb lo hi : Nat} {t : Nat -> TT} {a : Nat -> Option Addr} {c : Nat -> Nat} {st : Nat -> Nat} {B : List Bool} {left : Int} {w : aJa} (hn : n <= 98047) (oT : cJ w pt (r6 t a c)) (hT : Rb3 w t a c) (hB : RbO w pb lo hi B left)
 (h1 : pt < pb) (h2 : hi <= pb) (hG : RH t st) (hb0 : B.length <= 8000000) (hb1 : left <= B.length) (hb2 : -1000 <= left)
 (hk : ∀ w' out, sN w' w.heap.size 3 out n (Zn (sqF t B n st left).1) -> RbO w' pb lo hi B (sqF t B n st left).2 -> cJ w' pt (r6 t a c) -> Rb3 w' t a c -> aS w w' (fun y => y = pb) -> k2 t5 no (.pointer (some ⟨pt, 0, none⟩)) (.pointer (some ⟨pb, 0, none⟩)) out w') :
 FM k2 t5 no (.int .u64 n) (.pointer (some ⟨pt, 0, none⟩)) (.pointer (some ⟨pb, 0, none⟩)) (.int .i64 (st 0 : Nat)) (.int .i64 (st 1 : Nat)) (.int .i64 (st 2 : Nat)) (.slice none 0 0) (.int .u64 0) w := by
 have hpb : pb < w.heap.size := by obtain ⟨_, _, o, _⟩ := hB; exact o.lt
 have hTx : ∀ {w' : aJa} {cs' : List aJb}, aS w w' (fun y => y = pb) -> cJ w' pb cs' -> Rb3 w' t a c := fun x o' => by
  obtain ⟨_, _, o, _⟩ := hB
  exact hT.own o o' (fun u x => by simp) x
 unfold FM
 refine cG.rule (fun m (v : aJb × aJb × aJb × aJb × aJb) w' => ∃ (i : Nat) (out : aJb) (qs : List Sq) (st' : Nat -> Nat) (left' : Int), m = n - i /\ i <= n /\ v = (.int .i64 (st' 0 : Nat), .int .i64 (st' 1 : Nat), .int .i64 (st' 2 : Nat), out, .int .u64 i) /\ qs.length = i /\ sN w' w.heap.size 3 out i (Zn qs) /\ RbO w' pb lo hi B left' /\ RH t st' /\
  sqF t B n st left = (qs ++ (sqF t B (n - i) st' left').1, (sqF t B (n - i) st' left').2) /\ left - 160 * i <= left' /\ left' <= left /\ aS w w' (fun y => y = pb)) n
  ⟨0, _, [], st, left, rfl, by omega, rfl, rfl, sN.nil _ _ _, hB, hG, rfl, by simp, Int.le_refl _, aS.refl _ _⟩ ?_
 rintro m v w1 ⟨i, out, qs, st', left', rfl, hin, rfl, hqs, os1, hB1, hG1, hE, hc1, hc2, x1⟩
 unfold Fv No
 by_cases hlt : i < n
 rotate_left
 .obtain rfl : i = n := by omega
  have d1 : decide ((i : Int) < (i : Int)) = false := by simp
  simp (disch := omega) only [aC, aX, d1, eE, aGP, bM, hJ, aA, aE]
  rw [aIp] at hE
  have hz : sqF t B 0 st' left' = ([], left') := rfl
  rw [hz] at hE
  simp only [aHC] at hE
  rw [hE] at hk
  have hB1' := hB1
  obtain ⟨_, _, o, _⟩ := hB1'
  exact hk _ _ os1 hB1 (oT.ext x1 (by omega)) (hTx x1 o) x1
 have d1 : decide ((i : Int) < (n : Int)) = true := by simp; omega
 simp (disch := omega) only [aC, aX, d1, eE, aGP, bM, hJ, aA, aF]
 refine HD fun w2 o2 x2 s2 => ?_
 obtain ⟨hG0, hs0⟩ := hG1 0 (by omega)
 obtain ⟨hGo, hso⟩ := hG1 1 (by omega)
 obtain ⟨hGm, hsm⟩ := hG1 2 (by omega)
 have z1 := x1.size
 have xx2 : aS w w2 (fun y => y = pb) := x1.seq (x2.mono fun _ _ h => h.elim)
 obtain ⟨ba2, bc2, ob2, hR2⟩ : RbO w2 pb lo hi B left' := by
  obtain ⟨ba, bc, ob, hR⟩ := hB1
  exact ⟨ba, bc, ob.ext x2 (fun h => h), hR.ext x2 (fun _ _ _ h => h)⟩
 have os2 := (os1.ne (aGZ w1.heap.size)).ext x2 (fun b _ h => h)
 have t1 : (1 : Int).toNat = 1 := rfl
 have t2 : (2 : Int).toNat = 2 := rfl
 have t0 : (0 : Int).toNat = 0 := rfl
 obtain ⟨pq, hpq⟩ : ∃ pq, pq = w1.heap.size := ⟨_, rfl⟩
 rw [<- hpq] at o2 os2 ⊢
 have hpw : w.heap.size <= pq := by omega
 have oT2 := oT.ext xx2 (by omega)
 have l2 := dB (off := 2) oT2 (by simp [r6])
 simp only [r6, aHx, aGT, aGN, aGV] at l2
 have q2 := cX (off := 0) ob2 (by simp)
 simp only [aGT, aGN, aGV] at q2
 simp (disch := omega) only [t1, l2, kP, aGP, t2, lH, t0, jN, aA, q2]
 obtain ⟨b2, ht2⟩ := (hTx xx2 ob2 1 (by omega)).rt (by omega)
 have y2 := xx2.size
 obtain ⟨hv2, hw21, hw22⟩ := IS (k := 1) (by omega) hGo hso B left'
 refine (Wp (k := 1) (T := t 1) (s := st' 1) (by omega) ht2 hGo hso hR2 (by omega) (by omega) (by omega) (by omega)).mono ?_
 rintro r u2 ⟨bb2, rfl, hRv2, xv2⟩
 obtain ⟨ba3, bc3, rfl⟩ := hRv2.form (by omega)
 have obv2 := ob2.ext xv2 (fun h => h)
 have osv2 := os2.ext xv2 (fun b _ h => h)
 have oqv2 := o2.ext xv2 (fun h => h)
 simp (disch := omega) only [Ch, B7, aA]
 refine bU obv2 rfl (by simp [one]) (by simp) fun p2 ob3' xp2 sp2 => ?_
 simp only [aV, aGS, aGU] at ob3'
 refine EN (oqv2.ext xp2 (by omega)) rfl (by simp) fun w3 o3 x3 s3 => ?_
 simp only [aGS, aGU] at o3
 have ob3 := ob3'.ext x3 (by omega)
 have hR3 := (hRv2.ext xp2 (fun b _ _ => by omega)).ext x3 (fun b _ _ => by omega)
 have os3 := (osv2.ext xp2 (fun b h e => by omega)).ext x3 (fun b h e => h.2 e)
 have xx3 : aS w w3 (fun y => y = pb) := ((xx2.more xv2).seq xp2).new x3 hpw
 have oT3 := oT.ext xx3 (by omega)
 have l3 := dB (off := 4) oT3 (by simp [r6])
 simp only [r6, aHx, aGT, aGN, aGV] at l3
 have q3 := cX (off := 0) ob3 (by simp)
 simp only [aGT, aGN, aGV] at q3
 simp (disch := omega) only [l3, aA, q3]
 obtain ⟨b3, ht3⟩ := (hTx xx3 ob3 2 (by omega)).rt (by omega)
 have y3 := xx3.size
 obtain ⟨hv3, hw31, hw32⟩ := IS (k := 2) (by omega) hGm hsm B (vR 1 (t 1).2 (st' 1 : Nat) B left').2
 refine (Wp (k := 2) (T := t 2) (s := st' 2) (by omega) ht3 hGm hsm hR3 (by omega) (by omega) (by omega) (by omega)).mono ?_
 rintro r u3 ⟨bb3, rfl, hRv3, xv3⟩
 obtain ⟨ba4, bc4, rfl⟩ := hRv3.form (by omega)
 have obv3 := ob3.ext xv3 (fun h => h)
 have osv3 := os3.ext xv3 (fun b _ h => h)
 have oqv3 := o3.ext xv3 (fun h => h)
 simp (disch := omega) only [Ch, B7, aA]
 refine bU obv3 rfl (by simp [one]) (by simp) fun p3 ob4' xp3 sp3 => ?_
 simp only [aV, aGS, aGU] at ob4'
 refine EN (oqv3.ext xp3 (by omega)) rfl (by simp) fun w4 o4 x4 s4 => ?_
 simp only [aGS, aGU] at o4
 have ob4 := ob4'.ext x4 (by omega)
 have hR4 := (hRv3.ext xp3 (fun b _ _ => by omega)).ext x4 (fun b _ _ => by omega)
 have os4 := (osv3.ext xp3 (fun b h e => by omega)).ext x4 (fun b h e => h.2 e)
 have xx4 : aS w w4 (fun y => y = pb) := ((xx3.more xv3).seq xp3).new x4 hpw
 have oT4 := oT.ext xx4 (by omega)
 have l4 := dB (off := 0) oT4 (by simp [r6])
 simp only [r6, aHx, aGT, aGN, aGV] at l4
 have q4 := cX (off := 0) ob4 (by simp)
 simp only [aGT, aGN, aGV] at q4
 simp (disch := omega) only [l4, aA, q4]
 obtain ⟨b4, ht4⟩ := (hTx xx4 ob4 0 (by omega)).rt (by omega)
 have y4 := xx4.size
 obtain ⟨hv4, hw41, hw42⟩ := IS (k := 0) (by omega) hG0 hs0 B (vR 2 (t 2).2 (st' 2 : Nat) B (vR 1 (t 1).2 (st' 1 : Nat) B left').2).2
 refine (Wp (k := 0) (T := t 0) (s := st' 0) (by omega) ht4 hG0 hs0 hR4 (by omega) (by omega) (by omega) (by omega)).mono ?_
 rintro r u4 ⟨bb4, rfl, hRv4, xv4⟩
 obtain ⟨ba5, bc5, rfl⟩ := hRv4.form (by omega)
 have obv4 := ob4.ext xv4 (fun h => h)
 have osv4 := os4.ext xv4 (fun b _ h => h)
 have oqv4 := o4.ext xv4 (fun h => h)
 simp (disch := omega) only [Ch, B7, aA]
 refine bU obv4 rfl (by simp [one]) (by simp) fun p4 ob5' xp4 sp4 => ?_
 simp only [aV, aGS, aGU] at ob5'
 refine EN (oqv4.ext xp4 (by omega)) rfl (by simp) fun w5 o5 x5 s5 => ?_
 simp only [aGS, aGU] at o5
 have ob5 := ob5'.ext x5 (by omega)
 have hR5 := (hRv4.ext xp4 (fun b _ _ => by omega)).ext x5 (fun b _ _ => by omega)
 have os5 := (osv4.ext xp4 (fun b h e => by omega)).ext x5 (fun b h e => h.2 e)
 have xx5 : aS w w5 (fun y => y = pb) := ((xx4.more xv4).seq xp4).new x5 hpw
 obtain ⟨q, lf, hq⟩ : ∃ q lf, v3 t B st' left' = (q, lf) := ⟨_, _, rfl⟩
 have hq1 : (v3 t B st' left').1 = q := by rw [hq]
 have hq2 : (v3 t B st' left').2 = lf := by rw [hq]
 have hlf := aAD hG1 B left'
 rw [hq2] at hlf
 have o5 : cJ w5 pq (YB (v3 t B st' left').1) := o5
 have hB5 : RbO w5 pb lo hi B (v3 t B st' left').2 := ⟨ba5, bc5, ob5, hR5⟩
 rw [hq1] at o5
 rw [hq2] at hB5
 have l5 := Em (off := 0) o5 (by simp [YB])
 simp only [YB, aGT, aGN, aGV] at l5
 simp (disch := omega) only [l5, aA]
 refine BG (cells := #[.int .u32 q.ll, .int .u32 q.ml, .int .u32 q.of]) (by decide) (by decide) (by kernel_rfl) fun w6 o6 x6 s6 => ?_
 have os6 := (os5.ext x6 (fun b _ h => h)).osl
 have z5 := xx5.size
 have z6 := x6.size
 refine qK (m := 1) (news := YB q) os6 (o6.cl (off := 0) (l := YB q) (n := 1) rfl (fun i hi => by rw [aGP] <;> rfl)) (by simp [YB, one]) (by omega) (by omega) fun v7 w7 o7 x7 => ?_
 rw [<- auV] at o7
 have xx6 : aS w w6 (fun y => y = pb) := xx5.more x6
 have xx7 : aS w w7 (fun y => y = pb) := xx6.trans x7 fun b hb h => by omega
 obtain ⟨ba7, bc7, ob7, hR7⟩ : RbO w7 pb lo hi B lf := by
  obtain ⟨ba, bc, ob, hR⟩ := hB5
  exact ⟨ba, bc, (ob.ext x6 (fun h => h)).ext x7 (by omega), (hR.ext x6 (fun _ _ _ h => h)).ext x7 (fun b _ hb => by omega)⟩
 have e1 : (i : Int) + 1 = ((i + 1 : Nat) : Int) := by omega
 by_cases hlast : i + 1 = n
 .have n1 : decide (((i + 1 : Nat) : Int) < (n : Int)) = false := by simp; omega
  simp (disch := omega) only [e1, n1, aE]
  unfold Au
  simp (disch := omega) only [aC, bM, e1, hJ, aA]
  have h1 : n - i = 1 := by omega
  rw [h1, aqT, hq] at hE
  refine ⟨n - (i + 1), by omega, i + 1, _, qs ++ [q], st', lf, rfl, by omega, rfl, by rw [aGY, hqs] <;> rfl, o7, ⟨_, _, ob7, hR7⟩, hG1, ?_, by omega, by omega, xx7⟩
  rw [hE, hlast, aIp]
  show _ = (qs ++ [q] ++ [], lf)
  rw [aHC]
 .have n1 : decide (((i + 1 : Nat) : Int) < (n : Int)) = true := by simp; omega
  obtain ⟨m, hm⟩ : ∃ m, n - i = m + 2 := ⟨n - i - 2, by omega⟩
  have hm1 : n - (i + 1) = m + 1 := by omega
  have hE2 := anD hG1 B m left'
  rw [hq] at hE2
  simp only at hE2
  obtain ⟨g1, g2, g3⟩ := Zz (B := B) (j := 3) (left := lf) hG1
  have i0 := PO hG0 hs0 B lf
  have oT7 := oT.ext xx7 (by omega)
  have l7 := dB (off := 0) oT7 (by simp [r6])
  simp only [r6, aHx, aGT, aGN, aGV] at l7
  have q7 := cX (off := 0) ob7 (by simp)
  simp only [aGT, aGN, aGV] at q7
  simp (disch := omega) only [e1, n1, l7, aA, q7, aF]
  obtain ⟨b7, ht7⟩ := (hTx xx7 ob7 0 (by omega)).rt (by omega)
  have y7 := xx7.size
  have hz7 : (t 0).2.length <= 1000000 := by rw [hG0.len]; exact aHS (aG0 (by omega) hG0.lg) (by omega)
  obtain ⟨s7', f71, f72, f73, f74⟩ := PO (k := 0) hG0 hs0 B lf
  refine (anE (s := (st' 0 : Nat)) ht7 hG0.low hz7 hR7 (by omega) (by omega) (by omega) (by omega)).mono ?_
  rintro r u7 ⟨bb7, rfl, hRv7, xv7⟩
  obtain ⟨ba8, bc8, rfl⟩ := hRv7.form (by omega)
  simp (disch := omega) only [Ch, B7, aA]
  refine bU (ob7.ext xv7 (fun h => h)) rfl (by simp [one]) (by simp) fun w8 ob8 x8 s8 => ?_
  simp only [aV, aGS, aGU] at ob8
  have hR8 := hRv7.ext x8 (fun b _ _ => by omega)
  have xx8 : aS w w8 (fun y => y = pb) := (xx7.more xv7).seq x8
  have o8 := (o7.ext xv7 (fun b hb h => h)).ext x8 (fun b hb h => by omega)
  have oT8 := oT.ext xx8 (by omega)
  have l8 := dB (off := 4) oT8 (by simp [r6])
  simp only [r6, aHx, aGT, aGN, aGV] at l8
  have q8 := cX (off := 0) ob8 (by simp)
  simp only [aGT, aGN, aGV] at q8
  simp (disch := omega) only [l8, aA, q8]
  obtain ⟨b8, ht8⟩ := (hTx xx8 ob8 2 (by omega)).rt (by omega)
  have y8 := xx8.size
  have hz8 : (t 2).2.length <= 1000000 := by rw [hGm.len]; exact aHS (aG0 (by omega) hGm.lg) (by omega)
  obtain ⟨s8', f81, f82, f83, f84⟩ := PO (k := 2) hGm hsm B (nR (t 0).2 (st' 0 : Nat) B lf).2
  refine (anE (s := (st' 2 : Nat)) ht8 hGm.low hz8 hR8 (by omega) (by omega) (by omega) (by omega)).mono ?_
  rintro r u8 ⟨bb8, rfl, hRv8, xv8⟩
  obtain ⟨ba9, bc9, rfl⟩ := hRv8.form (by omega)
  simp (disch := omega) only [Ch, B7, aA]
  refine bU (ob8.ext xv8 (fun h => h)) rfl (by simp [one]) (by simp) fun w9 ob9 x9 s9 => ?_
  simp only [aV, aGS, aGU] at ob9
  have hR9 := hRv8.ext x9 (fun b _ _ => by omega)
  have xx9 : aS w w9 (fun y => y = pb) := (xx8.more xv8).seq x9
  have o9 := (o8.ext xv8 (fun b hb h => h)).ext x9 (fun b hb h => by omega)
  have oT9 := oT.ext xx9 (by omega)
  have l9 := dB (off := 2) oT9 (by simp [r6])
  simp only [r6, aHx, aGT, aGN, aGV] at l9
  have q9 := cX (off := 0) ob9 (by simp)
  simp only [aGT, aGN, aGV] at q9
  simp (disch := omega) only [l9, aA, q9]
  obtain ⟨b9, ht9⟩ := (hTx xx9 ob9 1 (by omega)).rt (by omega)
  have y9 := xx9.size
  have hz9 : (t 1).2.length <= 1000000 := by rw [hGo.len]; exact aHS (aG0 (by omega) hGo.lg) (by omega)
  obtain ⟨s9', f91, f92, f93, f94⟩ := PO (k := 1) hGo hso B (nR (t 2).2 (st' 2 : Nat) B (nR (t 0).2 (st' 0 : Nat) B lf).2).2
  refine (anE (s := (st' 1 : Nat)) ht9 hGo.low hz9 hR9 (by omega) (by omega) (by omega) (by omega)).mono ?_
  rintro r u9 ⟨bb9, rfl, hRv9, xv9⟩
  obtain ⟨ba10, bc10, rfl⟩ := hRv9.form (by omega)
  simp (disch := omega) only [Ch, B7, aA]
  refine bU (ob9.ext xv9 (fun h => h)) rfl (by simp [one]) (by simp) fun w10 ob10 x10 s10 => ?_
  simp only [aV, aGS, aGU] at ob10
  have hR10 := hRv9.ext x10 (fun b _ _ => by omega)
  have xx10 : aS w w10 (fun y => y = pb) := (xx9.more xv9).seq x10
  have o10 := (o9.ext xv9 (fun b hb h => h)).ext x10 (fun b hb h => by omega)
  unfold Au
  simp (disch := omega) only [aC, bM, e1, hJ, aA]
  rw [f71, f81, f91]
  have hnx : nxs t B 3 st' lf = (upS (upS (upS st' 0 (nR (t 0).2 (st' 0 : Nat) B lf).1.toNat) 2 (nR (t 2).2 (st' 2 : Nat) B (nR (t 0).2 (st' 0 : Nat) B lf).2).1.toNat) 1 (nR (t 1).2 (st' 1 : Nat) B (nR (t 2).2 (st' 2 : Nat) B (nR (t 0).2 (st' 0 : Nat) B lf).2).2).1.toNat, (nR (t 1).2 (st' 1 : Nat) B (nR (t 2).2 (st' 2 : Nat) B (nR (t 0).2 (st' 0 : Nat) B lf).2).2).2) := rfl
  rw [f71, f81, f91] at hnx
  simp only [aGO] at hnx
  refine ⟨n - (i + 1), by omega, i + 1, _, qs ++ [q], (nxs t B 3 st' lf).1, (nxs t B 3 st' lf).2, rfl, by omega, ?_, by rw [aGY, hqs] <;> rfl, o10, ?_, g1, ?_, by omega, by omega, xx10⟩
  .rw [hnx] <;> rfl
  .rw [hnx]; exact ⟨_, _, ob10, hR10⟩
  .rw [hE, hm, hE2, hm1, aG2]
   rfl
def z6 : List aJb := [(.int .i64 0), (.slice none 0 0), (.int .i64 0), (.slice none 0 0), (.int .i64 0), (.slice none 0 0)]
theorem Zm {p : Nat} {w : aJa} {x0 x1 x2 : Int} {a0 a1 a2 : Option Addr} {n0 n1 n2 k0 k1 k2 : Nat} {c : List aJb} {s e : aJb} (o : cJ w p c) (hc : c.length = 6) {RR : aJb -> aJa -> Prop}
 (hR : ∀ w', aS w w' (fun y => y = p) -> cJ w' p [.int .i64 x0, .slice a0 n0 k0, .int .i64 x1, .slice a1 n1 k1, .int .i64 x2, .slice a2 n2 k2] -> RR (.tuple #[s, .agg #[.int .i64 x0, .slice a0 n0 k0, .int .i64 x1, .slice a1 n1 k1, .int .i64 x2, .slice a2 n2 k2], e]) w') :
 aC pg (aJ 36 (.pointer (some ⟨p, 0, none⟩)) (.agg #[.int .i64 x0, .slice a0 n0 k0, .int .i64 x1, .slice a1 n1 k1, .int .i64 x2, .slice a2 n2 k2])) w fun _u w => kC pg 36 (.pointer (some ⟨p, 0, none⟩)) w fun r1 => RR (.tuple #[s, r1, e]) w := by
 match c, hc with
 | [c0, c1, c2, c3, c4, c5], _ =>
   refine mY o rfl (by simp [one]) (by simp) fun w6 o6 x6 s6 => ?_
   refine zX o6 (by simp [aV]) ?_
   simp only [aV, aGS, aGU, aGT, aGN, aGV] at o6 ⊢
   exact hR _ x6 o6
theorem aA9 {k0 : K5} {RR : K1} {n9 : aJb} {m p3 p5 pn pm pt : Nat} {mc : Nat} {o : Nat -> TT} {a : Nat -> Option Addr} {c : Nat -> Nat} {x : ByteArray} {w : aJa} (hm : m < 256) (o3 : cJ w p3 (r6 o a c)) (o5 : cJ w p5 z6) (on : cJ w pn z6) (om : cJ w pm [.int .i64 (SC m 0 : Nat), .int .i64 (SC m 1 : Nat), .int .i64 (SC m 2 : Nat)]) (oT : cJ w pt (r6 o a c))
 (hO : Rb3 w o a c) (hO6 : ∀ k, k < 3 -> (o k).2.length <= 1000000) (hx : x.size <= 1000000) (h1 : p3 ≠ pt /\ p5 ≠ pt /\ pn ≠ pt /\ pm ≠ pt) (h2 : p5 ≠ pn)
 (hk : ∀ w' t a c x', DP m o 3 o (lC x) = .ok (t, lC x') -> cJ w' pt (r6 t a c) -> Rb3 w' t a c -> aS w w' (fun y => y = pt) -> k0 (.pointer (some ⟨p5, 0, none⟩)) (.pointer (some ⟨pn, 0, none⟩)) n9 (.pointer (some ⟨pt, 0, none⟩)) (.string x') w')
 (herr : ∀ w' e, DP m o 3 o (lC x) = .error e -> aS w w' (fun y => y = pt ∨ y = p5) -> RR (.tuple #[.slice none 0 0, Gf, .int .i64 e]) w') :
 DF k0 RR (.pointer (some ⟨p3, 0, none⟩)) (.pointer (some ⟨p5, 0, none⟩)) (.pointer (some ⟨pn, 0, none⟩)) n9 (.slice (some ⟨pm, 0, none⟩) 3 mc) (.pointer (some ⟨pt, 0, none⟩)) (.string x) (.int .i64 0) w := by
 have hptw := oT.lt
 have hp5w := o5.lt
 unfold DF
 refine cG.rule (fun n (v : aJb × aJb) w' => ∃ (j : Nat) (x' : ByteArray) (t' : Nat -> TT) (a' : Nat -> Option Addr) (c' : Nat -> Nat), n = j /\ j <= 3 /\ v = (.string x', .int .i64 (3 - j : Nat)) /\ x'.size <= x.size /\ cJ w' pt (r6 t' a' c') /\ Rb3 w' t' a' c' /\ DP m o 3 o (lC x) = DP m o j t' (lC x') /\ aS w w' (fun y => y = pt)) 3
  ⟨3, x, o, a, c, rfl, aGZ _, rfl, aGZ _, oT, hO, rfl, aS.refl _ _⟩ ?_
 rintro j v w7 ⟨n, x', t', a', c', rfl, hj, rfl, hx', o8, hT7, hE, x7⟩
 unfold DH Lq
 rcases j with _ | n
 .have d1 : decide (((3 - 0 : Nat) : Int) < 3) = false := rfl
  simp (disch := omega) only [aC, aX, d1, aA, aE]
  exact hk _ _ _ _ _ (by rw [hE] <;> rfl) o8 hT7 x7
 obtain ⟨k, hkk⟩ : ∃ k, k = 2 - n := ⟨_, rfl⟩
 have hk3 : k < 3 := by omega
 have ek : ((3 - (n + 1) : Nat) : Int) = (k : Int) := by omega
 have d1 : decide ((k : Int) < 3) = true := by simp; omega
 have hS : DP m o (n + 1) t' (lC x') = match gE (k : Int) ((SC m k : Nat) : Int) (lC x') (o k) with
  | .error e => .error e
  | .ok (y, u) => DP m o n (Ss t' k y) ((lC x').drop u) := by rw [hkk] <;> rfl
 have hm4 := alZ m k
 have hll := kG x'
 rw [ek]
 simp (disch := omega) only [aC, aX, d1, aA, aF]
 unfold KP KY SW Lh
 have o37 := o3.ext x7 (by omega)
 have o57 := o5.ext x7 (by omega)
 have on7 := on.ext x7 (by omega)
 have om7 := om.ext x7 (by omega)
 have hTo : Rb3 w7 o a c := hO.own oT o8 (fun u x => by simp [r6]) x7
 have l2 := dB (off := k * 2) (dO o37) (by simp [r6]; omega)
 rw [aEt _ _ _ hk3] at l2
 have cm := (dO om7).cell (off := k)
 have hcm : [Value.int .i64 (SC m 0 : Nat), .int .i64 (SC m 1 : Nat), .int .i64 (SC m 2 : Nat)][k]? = some (.int .i64 (SC m k : Nat)) := by
  rcases (show k = 0 ∨ k = 1 ∨ k = 2 by omega) with rfl | rfl | rfl <;> rfl
 rw [hcm] at cm
 have z7 := x7.size
 have n0 : ((0 : Int) != 0) = false := rfl
 have err7 : ∀ {e : Int} {w8 w' : aJa}, DP m o (n + 1) t' (lC x') = .error e -> aS w7 w8 cM -> aS w8 w' (fun y => y = p5) -> RR (.tuple #[.slice none 0 0, Gf, .int .i64 e]) w' := fun h x8 x9 =>
  herr _ _ (by rw [hE, h]) (((x7.mono fun _ _ h => .inl h).seq (x8.mono fun _ _ h => h.elim)).seq (x9.mono fun _ _ h => .inr h))
 have lz : ∀ {w' : aJa}, aS w7 w' cM -> (aH 36 (.pointer (some ⟨pn, 0, none⟩))).run pg w' = .ok (.value Gf) w' := fun x => by
  have := gM (off := 0) (on7.ext x (fun h => h)) (by simp [z6])
  simp only [z6, aGT, aGN, aGV] at this
  exact this
 refine Ld ?_ ?_
 .simp (disch := omega) only [aC, dJ, aGO, aGP, eE, eC, and_true, true_and, aA, l2, bZ, cm, aI]
  refine (anM (fun _ => by omega) ((hTo.ext (aS.dr _ cM)) k hk3) (aHZ _) (hO6 k hk3)).mono ?_
  rintro r w8 ⟨hR, x8⟩
  have x78 : aS w7 w8 cM := (aS.dr _ _).seq x8
  have z8 := x78.size
  cases hE' : gE (k : Int) ((SC m k : Nat) : Int) (lC x') (o k) with
  | error e =>
    rw [hE'] at hR hS
    have ne := O4 hE'
    have n1 : (e != 0) = true := by simpa using ne
    unfold RtR at hR
    subst hR
    simp (disch := omega) only [SE, SF, SD, Result.ok.injEq, Next.value.injEq, and_true, aA, true_and]
    refine gW fun w9 o9 x9 s9 => ?_
    refine eM o9 rfl (by simp [one]) (by simp) fun w10 o10 x10 s10 => ?_
    unfold qL
    have x710 : aS w7 w10 cM := x78.seq (x9.new x10 (aGZ _))
    have lz' := lz (x710.seq (aS.dr _ _))
    simp (disch := omega) only [aC, eT, n1, true_and, eE, aGO, aGP, uM, aA, lz', aF]
    exact Zm (dO (o57.ext x710 (fun h => h))) rfl fun w' x _ => err7 hS (x710.seq (aS.dr _ _)) x
  | ok yu =>
    obtain ⟨T, u⟩ := yu
    rw [hE'] at hR hS
    have hu := PS hE'
    unfold RtR at hR
    obtain ⟨t, rfl, hV⟩ := hR
    obtain ⟨ta, tc, rfl⟩ := hV.form
    simp (disch := omega) only [SE, SF, SD, Result.ok.injEq, Next.value.injEq, and_true, aA, true_and]
    refine gW fun w9 o9 x9 s9 => ?_
    refine eM o9 rfl (by simp [one]) (by simp) fun w10 o10 x10 s10 => ?_
    have o10 : cJ w10 w8.heap.size [.int .i64 T.1, .slice ta T.2.length tc] := o10
    have x810 : aS w8 w10 cM := x9.new x10 (aGZ _)
    have x710 := x78.seq x810
    have l10 := dB (off := 0) o10 (by simp)
    simp only [aGT, aGN, aGV] at l10
    unfold qL
    simp (disch := omega) only [aC, eT, n0, true_and, eE, aGO, aGP, uM, aA, l10, aE]
    have o8' := o8.ext x710 (fun h => h)
    refine eM o8' rfl (by simp [one]) (by simp [r6]; omega) fun w11 o11 x11 s11 => ?_
    have o11 : cJ w11 pt (r6 (Ss t' k T) (upA a' k ta) (upS c' k tc)) := by rw [<- aDg _ _ _ hk3]; exact o11
    have hV11 : RtV w11 0 T (tvR T ta tc) := (hV.ext x810 (fun _ _ _ h => h)).own o8' o11 (fun u x => by simp [r6]) x11
    have hT11 : Rb3 w11 t' a' c' := (hT7.ext x710).own o8' o11 (fun u x => by simp [r6]) x11
    have e3 : ((k : Int) + 1) = ((3 - n : Nat) : Int) := by omega
    have hul : u <= x'.size := by omega
    have hext : lC (x'.extract u x'.size) = (lC x').drop u := by rw [LO, aHk (by rw [aHh]; omega)]
    unfold xM
    simp (disch := omega) only [aC, bM, e3, aT, aA]
    exact ⟨n, by omega, n, x'.extract u x'.size, _, _, _, rfl, by omega, rfl, by rw [<- kG (x'.extract u x'.size), hext, aHh]; omega, o11, hT11.up hV11, by rw [hE, hS, hext], x7.seq ((x710.mono fun _ _ h => h.elim).seq x11)⟩
 .simp (disch := omega) only [aC, dJ, aGO, aGP, eE, eC, Result.ok.injEq, Next.value.injEq, and_true, true_and, aA, l2, bZ, cm, aI]
  refine gW fun w9 o9 x9 s9 => ?_
  have x79 : aS w7 w9 cM := (aS.dr _ cM).seq x9
  have l9 := dB (off := k * 2) (o37.ext x79 (fun h => h)) (by simp [r6]; omega)
  rw [aEt _ _ _ hk3] at l9
  have cm9 := (om7.ext x79 (fun h => h)).cell (off := k)
  rw [hcm] at cm9
  simp (disch := omega) only [l9, cm9, aI, and_true, true_and]
  refine (anM (fun _ => by omega) ((hTo.ext x79) k hk3) (aHZ _) (hO6 k hk3)).mono ?_
  rintro r w8 ⟨hR, x8⟩
  have x78 : aS w7 w8 cM := x79.seq x8
  have hz7 : (dr w7).heap.size = w7.heap.size := rfl
  have z8 := x78.size
  have o9 := o9.ext x8 (fun h => h)
  cases hE' : gE (k : Int) ((SC m k : Nat) : Int) (lC x') (o k) with
  | error e =>
    rw [hE'] at hR hS
    have ne := O4 hE'
    have n1 : (e != 0) = true := by simpa using ne
    unfold RtR at hR
    subst hR
    simp (disch := omega) only [SE, SF, SD, Result.ok.injEq, Next.value.injEq, and_true, aA, true_and]
    refine eM o9 rfl (by simp [one]) (by simp) fun w10 o10 x10 s10 => ?_
    unfold qL
    have x710 : aS w7 w10 cM := x78.new x10 (by omega)
    have lz' := lz (x710.seq (aS.dr _ _))
    simp (disch := omega) only [aC, eT, n1, true_and, eE, aGO, aGP, uM, aA, lz', aF]
    exact Zm (dO (o57.ext x710 (fun h => h))) rfl fun w' x _ => err7 hS (x710.seq (aS.dr _ _)) x
  | ok yu =>
    obtain ⟨T, u⟩ := yu
    rw [hE'] at hR hS
    have hu := PS hE'
    unfold RtR at hR
    obtain ⟨t, rfl, hV⟩ := hR
    obtain ⟨ta, tc, rfl⟩ := hV.form
    simp (disch := omega) only [SE, SF, SD, Result.ok.injEq, Next.value.injEq, and_true, aA, true_and]
    refine eM o9 rfl (by simp [one]) (by simp) fun w10 o10 x10 s10 => ?_
    have o10 : cJ w10 (dr w7).heap.size [.int .i64 T.1, .slice ta T.2.length tc] := o10
    have hV10 : RtV w10 0 T (tvR T ta tc) := hV.own o9 o10 (fun u x => by simp) x10
    have x710 : aS w7 w10 cM := x78.new x10 (by omega)
    have l10 := dB (off := 0) o10 (by simp)
    simp only [aGT, aGN, aGV] at l10
    unfold qL
    simp (disch := omega) only [aC, eT, n0, true_and, eE, aGO, aGP, uM, aA, l10, aE]
    have o8' := o8.ext x710 (fun h => h)
    refine eM o8' rfl (by simp [one]) (by simp [r6]; omega) fun w11 o11 x11 s11 => ?_
    have o11 : cJ w11 pt (r6 (Ss t' k T) (upA a' k ta) (upS c' k tc)) := by rw [<- aDg _ _ _ hk3]; exact o11
    have hV11 : RtV w11 0 T (tvR T ta tc) := hV10.own o8' o11 (fun u x => by simp [r6]) x11
    have hT11 : Rb3 w11 t' a' c' := (hT7.ext x710).own o8' o11 (fun u x => by simp [r6]) x11
    have e3 : ((k : Int) + 1) = ((3 - n : Nat) : Int) := by omega
    have hul : u <= x'.size := by omega
    have hext : lC (x'.extract u x'.size) = (lC x').drop u := by rw [LO, aHk (by rw [aHh]; omega)]
    unfold xM
    simp (disch := omega) only [aC, bM, e3, aT, aA]
    exact ⟨n, by omega, n, x'.extract u x'.size, _, _, _, rfl, by omega, rfl, by rw [<- kG (x'.extract u x'.size), hext, aHh]; omega, o11, hT11.up hV11, by rw [hE, hS, hext], x7.seq ((x710.mono fun _ _ h => h.elim).seq x11)⟩
def agJ (w : aJa) (base : Nat) (x : Except Int (List Sq × (Nat -> TT))) (r : aJb) : Prop := match x with
 | .error e => r = .tuple #[.slice none 0 0, Gf, .int .i64 e]
 | .ok (q, t) => ∃ v a c, r = .tuple #[v, .agg (r6 t a c).toArray, .int .i64 0] /\ sN w base 3 v q.length (Zn q) /\ Rb3 w t a c
theorem avJ {RR : K1} {n p5 pn pt : Nat} {t : Nat -> TT} {a : Nat -> Option Addr} {c : Nat -> Nat} {x : ByteArray} {w : aJa} (hn : n <= 98047) (oF : cJ w p5 z6) (on : cJ w pn z6) (oT : cJ w pt (r6 t a c)) (hT : Rb3 w t a c) (hG : ∀ k, k < 3 -> yQ k (t k)) (hx : x.size <= 1000000)
 (h1 : pt ≠ p5 /\ p5 ≠ pn)
 (hk : ∀ w' r, agJ w' w.heap.size (DI t n (lC x)) r -> aS w w' (fun y => y = p5) -> RR r w') :
 CH RR (.pointer (some ⟨p5, 0, none⟩)) (.pointer (some ⟨pn, 0, none⟩)) (.int .u64 n) (.pointer (some ⟨pt, 0, none⟩)) (.string x) w := by
 have hll := kG x
 have err : ∀ {e : Int} {w' : aJa}, DI t n (lC x) = .error e -> aS w w' (fun y => y = p5) -> RR (.tuple #[.slice none 0 0, Gf, .int .i64 e]) w' := fun h x => by
  refine hk _ _ ?_ x
  unfold agJ; rw [h]
 have hp5 := oF.lt
 have hpt := oT.lt
 have lz : ∀ {w' : aJa}, aS w w' cM -> (aH 36 (.pointer (some ⟨pn, 0, none⟩))).run pg w' = .ok (.value Gf) w' := fun x => by
  have := gM (off := 0) (on.ext x (fun h => h)) (by simp [z6])
  simp only [z6, aGT, aGN, aGV] at this
  exact this
 have n0 : ((0 : Int) != 0) = false := rfl
 unfold CH KU
 cases he : Zp (lC x) with
 | none =>
   have hB : DI t n (lC x) = .error 11 := by unfold DI; rw [he]
   have n1 : ((11 : Int) != 0) = true := rfl
   refine (axP he (by omega)).mono ?_
   rintro r w1 ⟨rfl, x1⟩
   simp (disch := omega) only [aC, Ch, B7, true_and, eE, aGP, aA, eT]
   refine jA fun w2 o2 x2 s2 => ?_
   refine bU o2 rfl (by simp [one]) (by simp) fun w3 o3 x3 s3 => ?_
   have x03 : aS w w3 cM := x1.seq (x2.new x3 (aGZ _))
   have lz' := lz (x03.seq (aS.dr _ _))
   simp (disch := omega) only [n1, lz', aA, true_and, aF]
   exact Zm (dO (oF.ext x03 (fun h => h))) rfl fun w' x _ => err hB (((x03.seq (aS.dr _ _)).mono fun _ _ h => h.elim).seq x)
 | some k =>
   obtain ⟨hk0, hk1, hk2, _⟩ := OC he
   have hB : DI t n (lC x) = if (runT t (bE (lC x)) n k).2 < 0 then .error 11 else if 0 < (runT t (bE (lC x)) n k).2 then .error 15 else .ok ((runT t (bE (lC x)) n k).1, t) := by unfold DI; rw [he]
   refine (aAN he (by omega)).mono ?_
   rintro r w1 ⟨b, hi, rfl, hhi, hR1, x1⟩
   have hBl := lQ (lC x)
   generalize bE (lC x) = B at *
   have hR1 : RBl w1 w.heap.size hi b B (k : Int) := by
    unfold RBl
    rw [aGO, show (-(k : Int)).toNat = 0 by omega]
    exact hR1
   obtain ⟨ba, bc, rfl⟩ := hR1.form (by omega)
   simp (disch := omega) only [aC, aGO, Ch, B7, true_and, eE, aGP, aA, eT]
   refine jA fun w2 o2 x2 s2 => ?_
   refine bU o2 rfl (by simp [one]) (by simp) fun w3 o3 x3 s3 => ?_
   simp only [aV, aGS, aGU] at o3
   obtain ⟨pb, hpb⟩ : ∃ pb, pb = w1.heap.size := ⟨_, rfl⟩
   rw [<- hpb] at o3 ⊢
   have z1 := x1.size
   have xx3 : aS w w3 cM := x1.seq (x2.new x3 (aGZ _))
   have hR3 := (hR1.ext x2 (fun _ _ _ h => h)).ext x3 (fun b _ hb => by omega)
   have g0 := (hG 0 (by omega)).lg
   have g1 := (hG 1 (by omega)).lg
   have g2 := (hG 2 (by omega)).lg
   have t1 : (1 : Int).toNat = 1 := rfl
   have t2 : (2 : Int).toNat = 2 := rfl
   have t0 : (0 : Int).toNat = 0 := rfl
   have oT3 := oT.ext xx3 (fun h => h)
   have l3 := dB (off := 0) oT3 (by simp [r6])
   simp only [r6, aHx, aGT, aGN, aGV] at l3
   have q3 := cX (off := 0) o3 (by simp)
   simp only [aGT, aGN, aGV] at q3
   simp (disch := omega) only [n0, t0, l3, t1, t2, aA, q3, aE]
   have y3 := xx3.size
   have v3 := o3.lt
   refine (adD hR3 (by omega) (by omega) (by omega) (by omega) (by omega)).mono ?_
   rintro r u3 ⟨bb3, rfl, hRv3, xv3⟩
   obtain ⟨ba4, bc4, rfl⟩ := hRv3.form (by omega)
   simp (disch := omega) only [Ch, B7, aA]
   refine bU (o3.ext xv3 (fun h => h)) rfl (by simp [one]) (by simp) fun w4 o4 x4 s4 => ?_
   simp only [aV, aGS, aGU] at o4
   have hR4 := hRv3.ext x4 (fun b _ _ => by omega)
   have xx4 : aS w w4 cM := (xx3.seq xv3).new x4 (by omega)
   have oT4 := oT.ext xx4 (fun h => h)
   have l4 := dB (off := 2) oT4 (by simp [r6])
   simp only [r6, aHx, aGT, aGN, aGV] at l4
   have q4 := cX (off := 0) o4 (by simp)
   simp only [aGT, aGN, aGV] at q4
   simp (disch := omega) only [l4, aA, q4]
   have y4 := xx4.size
   have v4 := o4.lt
   refine (adD hR4 (by omega) (by omega) (by omega) (by omega) (by omega)).mono ?_
   rintro r u4 ⟨bb4, rfl, hRv4, xv4⟩
   obtain ⟨ba5, bc5, rfl⟩ := hRv4.form (by omega)
   simp (disch := omega) only [Ch, B7, aA]
   refine bU (o4.ext xv4 (fun h => h)) rfl (by simp [one]) (by simp) fun w5 o5 x5 s5 => ?_
   simp only [aV, aGS, aGU] at o5
   have hR5 := hRv4.ext x5 (fun b _ _ => by omega)
   have xx5 : aS w w5 cM := (xx4.seq xv4).new x5 (by omega)
   have oT5 := oT.ext xx5 (fun h => h)
   have l5 := dB (off := 4) oT5 (by simp [r6])
   simp only [r6, aHx, aGT, aGN, aGV] at l5
   have q5 := cX (off := 0) o5 (by simp)
   simp only [aGT, aGN, aGV] at q5
   simp (disch := omega) only [l5, aA, q5]
   have y5 := xx5.size
   have v5 := o5.lt
   refine (adD hR5 (by omega) (by omega) (by omega) (by omega) (by omega)).mono ?_
   rintro r u5 ⟨bb5, rfl, hRv5, xv5⟩
   obtain ⟨ba6, bc6, rfl⟩ := hRv5.form (by omega)
   simp (disch := omega) only [Ch, B7, aA]
   refine bU (o5.ext xv5 (fun h => h)) rfl (by simp [one]) (by simp) fun w6 o6 x6 s6 => ?_
   simp only [aV, aGS, aGU] at o6
   have hR6 := hRv5.ext x6 (fun b _ _ => by omega)
   have xx6 : aS w w6 cM := (xx5.seq xv5).new x6 (by omega)
   obtain ⟨gs1, gs2, gs3⟩ := anC hG B (fun _ => 0) (k : Int)
   have y6 := xx6.size
   unfold NF MD Mu NU
   refine aA1 (st := (sts t B 3 (fun _ => 0) (k : Int)).1) (left := (sts t B 3 (fun _ => 0) (k : Int)).2) (lo := w.heap.size) (hi := hi) (B := B) hn (oT.ext xx6 (fun h => h)) (hT.ext xx6) ⟨_, _, o6, hR6⟩ (by omega) (by omega) gs1 (by omega) (by omega) (by omega) fun w7 out os7 hB7 oT7 hT7 x7 => ?_
   have x07 : aS w w7 cM := xx6.new x7 (by omega)
   obtain ⟨_, _, hlen⟩ := anH (B := B) (n := n) (left := (sts t B 3 (fun _ => 0) (k : Int)).2) gs1
   obtain ⟨hb1, hb2, _⟩ := anH (B := B) (n := n) (left := (sts t B 3 (fun _ => 0) (k : Int)).2) gs1
   rw [<- amD] at os7 hB7 hlen hb1 hb2
   generalize hq : runT t B n k = q at *
   obtain ⟨ca, cc, o7, hR7⟩ := hB7
   have l7 := cX (off := 0) o7 (by simp)
   simp only [aGT, aGN, aGV] at l7
   unfold FP
   simp (disch := omega) only [aC, l7, true_and, aA]
   refine (aCI hR7 (by omega) (by omega) (by omega)).mono ?_
   rintro r w8 ⟨rfl, x8⟩
   have x08 := x07.seq x8
   have lz' := lz (x08.seq (aS.dr _ _))
   have o58 := oF.ext x08 (fun h => h)
   by_cases hneg : q.2 < 0
   .have d1 : decide (q.2 < 0) = true := by simpa using hneg
    rw [if_pos hneg] at hB
    simp (disch := omega) only [aX, d1, dP, aA, lz', true_and, aF]
    exact Zm (dO o58) rfl fun w' x _ => err hB (((x08.seq (aS.dr _ _)).mono fun _ _ h => h.elim).seq x)
   .have d1 : decide (q.2 < 0) = false := by simpa using hneg
    rw [if_neg hneg] at hB
    by_cases hps : 0 < q.2
    .have d2 : decide (0 < q.2) = true := by simpa using hps
     rw [if_pos hps] at hB
     simp (disch := omega) only [aX, d1, dP, d2, aA, aF, lz', true_and, aE]
     exact Zm (dO o58) rfl fun w' x _ => err hB (((x08.seq (aS.dr _ _)).mono fun _ _ h => h.elim).seq x)
    .have d2 : decide (0 < q.2) = false := by simpa using hps
     rw [if_neg hps] at hB
     have oT8 := dO (oT7.ext x8 (fun h => h))
     have l9 := gM (off := 0) oT8 (by simp [r6])
     simp only [r6, aGT, aGN, aGV] at l9
     simp (disch := omega) only [aX, d1, dP, d2, aA, aE, l9, true_and]
     refine Zm (dO o58) rfl fun w' x o9 => ?_
     have xd : aS w8 w' (fun y => y = p5) := (aS.dr _ _).seq x
     refine hk _ _ ?_ ((x08.mono fun _ _ h => h.elim).seq xd)
     unfold agJ
     rw [hB]
     refine ⟨out, a, c, rfl, ?_, ((hT7.ext x8)).own o58 o9 (fun u x => by simp [z6]) xd⟩
     rw [hlen]
     exact ((os7.ext x8 (fun _ _ h => h)).ext xd (fun b hb h => by omega)).lower (by omega)
theorem aCJ {p pr : Nat} {w : aJa} {e : Int} {c cr : List aJb} (o : cJ w p c) (hc : c.length = 6) (r : cJ w pr cr) (hr : cr[1]? = some (.int .i64 e)) (hne : pr ≠ p) {RR : aJb -> aJa -> Prop}
 (hR : ∀ w', aS w w' (fun y => y = p) -> RR (.tuple #[.slice none 0 0, Gf, .int .i64 e]) w') :
 aC pg (aJ 36 (.pointer (some ⟨p, 0, none⟩)) Gf) w fun _u w' => ldC (w'.cell? ⟨pr, 1, none⟩) w' (far pg 30 ⟨pr, 1, none⟩ w') = Result.ok (Next.value (.int .i64 e)) w' /\
  kC pg 36 (.pointer (some ⟨p, 0, none⟩)) w' fun r1 => RR (.tuple #[.slice none 0 0, r1, .int .i64 e]) w' := by
 match c, hc with
 | [c0, c1, c2, c3, c4, c5], _ =>
   unfold Gf
   refine mY o rfl (by simp [one]) (by simp) fun w6 o6 x6 s6 => ?_
   have q := (r.ext x6 hne).cell (off := 1)
   rw [hr] at q
   refine ⟨by rw [q] <;> rfl, ?_⟩
   refine zX o6 (by simp [aV]) ?_
   simp only [aV, aGS, aGU, aGT, aGN, aGV]
   exact hR _ x6
theorem arL {x : ByteArray} {o : Nat -> TT} {a : Nat -> Option Addr} {c : Nat -> Nat} {w : aJa} (hl : x.size <= 1000000) (hT : Rb3 w o a c) (hO : aoH o) :
 aR pg CB #[.string x, .agg (r6 o a c).toArray] w (fun r w' => agJ w' w.heap.size (tZ (lC x) o) r /\ aS w w' cM) := by
 refine ajU ?_
 obtain ⟨RR, hRR⟩ : ∃ RR : aJb -> aJa -> Prop, RR = fun r w' => agJ w' w.heap.size (tZ (lC x) o) r /\ aS w w' cM := ⟨_, rfl⟩
 rw [<- hRR]
 have hll := kG x
 have err : ∀ {e : Int} {w' : aJa}, tZ (lC x) o = .error e -> aS w w' cM -> RR (.tuple #[.slice none 0 0, Gf, .int .i64 e]) w' := fun h x => by
  rw [hRR]; unfold agJ; rw [h]; exact ⟨rfl, x⟩
 unfold amG Jv Je
 refine fY fun w1 o1 x1 s1 => ?_
 have o1 : cJ w1 w.heap.size (r6 o a c) := o1
 refine lL fun w2 o2 x2 s2 => ?_
 refine lL fun w3 o3 x3 s3 => ?_
 have o1 := (o1.ext x2 (fun h => h)).ext x3 (fun h => h)
 have o2 : cJ w3 w1.heap.size z6 := o2.ext x3 (fun h => h)
 have o3 : cJ w3 w2.heap.size z6 := o3
 have x03 := (x1.seq x2).seq x3
 have z1 := x1.size
 obtain ⟨p3, hp3⟩ : ∃ p3, p3 = w.heap.size := ⟨_, rfl⟩
 obtain ⟨p5, hp5⟩ : ∃ p5, p5 = w1.heap.size := ⟨_, rfl⟩
 obtain ⟨pn, hpn⟩ : ∃ pn, pn = w2.heap.size := ⟨_, rfl⟩
 rw [<- hp3] at o1 ⊢
 rw [<- hp5] at o2 ⊢
 rw [<- hpn] at o3 ⊢
 have z3 := x3.size
 have lz : ∀ {w' : aJa}, aS w3 w' cM -> (aH 36 (.pointer (some ⟨pn, 0, none⟩))).run pg w' = .ok (.value Gf) w' := fun x => by
  have := gM (off := 0) (o3.ext x (fun h => h)) (by simp [z6])
  simp only [z6, aGT, aGN, aGV] at this
  exact this
 have fin : ∀ {w5 w' : aJa}, aS w3 w5 cM -> aS w5 w' (fun y => y = p5) -> aS w w' cM := fun h x => (x03.seq h).new x (by omega)
 simp (disch := omega) only [aC, vA, eC, and_true, true_and, aA]
 refine (amX (x := x)).mono ?_
 rintro r w4 ⟨hN, x4⟩
 unfold aoO at hN
 cases hn : St (lC x) with
 | error e =>
   rw [hn] at hN
   obtain ⟨he, n, x', rfl⟩ := hN
   have hR : tZ (lC x) o = .error e := by unfold tZ; rw [hn]
   have n1 : (e != 0) = true := by simpa using he
   simp (disch := omega) only [Ch, B7, aA, cW]
   refine kE fun w5 o5 x5 s5 => ?_
   refine iI o5 rfl (by simp [one]) (by simp) fun w6 o6 x6 s6 => ?_
   simp only [aV, aGS, aGU] at o6
   have c6' := o6.cell (off := 1)
   have c6d := (dO o6).cell (off := 1)
   simp only [aGQ, aGR] at c6' c6d
   have x36 : aS w3 w6 cM := x4.seq (x5.new x6 (aGZ _))
   have lz' := lz (x36.seq (aS.dr _ _))
   simp (disch := omega) only [fG, aGP, Result.ok.injEq, Next.value.injEq, and_true, aA, jD, true_and, gP, zU, c6', aI, eT, n1, lz', c6d, aF]
   exact aCJ (dO (o2.ext x36 (fun h => h))) rfl (dO o6) rfl (by have := x4.size; omega) fun w' x => err hR (fin (x36.seq (aS.dr _ _)) x)
 | ok y =>
   obtain ⟨n, l'⟩ := y
   rw [hn] at hN
   obtain ⟨x', rfl, hx'⟩ := hN
   obtain ⟨hn1, hl'⟩ := asI hn
   have hR : tZ (lC x) o = if n = 0 then (if l' = [] then .ok ([], o) else .error 15) else aqC o n l' := by unfold tZ; rw [hn]
   have n0 : ((0 : Int) != 0) = false := rfl
   have hlx' := kG x'
   simp (disch := omega) only [Ch, B7, aA, cW]
   refine kE fun w5 o5 x5 s5 => ?_
   refine iI o5 rfl (by simp [one]) (by simp) fun w6 o6 x6 s6 => ?_
   simp only [aV, aGS, aGU] at o6
   obtain ⟨pr, hpr⟩ : ∃ pr, pr = w4.heap.size := ⟨_, rfl⟩
   rw [<- hpr] at o6 ⊢
   have y4 := x4.size
   have x36 : aS w3 w6 cM := x4.seq (x5.new x6 (aGZ _))
   have o16 := o1.ext x36 (fun h => h)
   have o26 := o2.ext x36 (fun h => h)
   have q0 := o6.cell (off := 0)
   have q1 := o6.cell (off := 1)
   simp only [aGQ, aGR] at q0 q1
   by_cases hn0 : n = 0
   .subst hn0
    rw [if_pos rfl] at hR
    have n2 : (((0 : Nat) : Int) == 0) = true := rfl
    by_cases hl0 : l' = []
    .rw [if_pos hl0] at hR
     have d1 : decide (0 < (x'.size : Int)) = false := by rw [<- hlx', hx', hl0] <;> rfl
     have l1 := gM (off := 0) (dO o16) (by simp [r6])
     simp only [r6, aGT, aGN, aGV] at l1
     simp (disch := omega) only [fG, aGP, Result.ok.injEq, Next.value.injEq, and_true, aA, jD, true_and, n2, gP, zU, aF, q1, aI, eT, n0, q0, rH, dP, d1, l1, aE]
     refine Zm (dO o26) rfl fun w' x _ => ?_
     rw [hRR]; unfold agJ; rw [hR]
     have x' := fin (x36.seq (aS.dr _ _)) x
     exact ⟨⟨_, a, c, rfl, sN.nil _ _ _, hT.ext x'⟩, x'⟩
    .rw [if_neg hl0] at hR
     have hpos := aHP.2 hl0
     have d1 : decide (0 < (x'.size : Int)) = true := by rw [<- hlx', hx']; simp; exact hpos
     have lz' := lz (x36.seq (aS.dr _ _))
     simp (disch := omega) only [fG, aGP, Result.ok.injEq, Next.value.injEq, and_true, aA, jD, true_and, n2, gP, zU, aF, q1, aI, eT, n0, lz', q0, rH, dP, d1, aE]
     exact Zm (dO o26) rfl fun w' x _ => err hR (fin (x36.seq (aS.dr _ _)) x)
   rw [if_neg hn0] at hR
   have n2 : ((n : Int) == 0) = false := by simp; exact hn0
   have l6 := gJ (off := 0) o6 (by simp)
   simp only [aGT, aGN, aGV] at l6
   simp (disch := omega) only [fG, aGP, Result.ok.injEq, Next.value.injEq, and_true, aA, jD, true_and, n2, gP, zU, aE, q1, aI, eT, n0, l6]
   refine (Ft (n := 1) (by omega)).mono ?_
   rintro r w7 ⟨x2', rfl, hx2, x7⟩
   have x37 := x36.seq x7
   rw [hx'] at hx2 ⊢
   simp (disch := omega) only [Ch, B7, aA, D5, DU, cZ, eT]
   refine iI (o6.ext x7 (fun h => h)) rfl (by simp [one]) (by simp) fun w8 o8 x8 s8 => ?_
   simp only [aV, aGS, aGU] at o8
   have y7 := x7.size
   have x38 : aS w3 w8 cM := x37.new x8 (by omega)
   have o18 := o1.ext x38 (fun h => h)
   have o28 := o2.ext x38 (fun h => h)
   have tkn := V0 1 (aGZ 1)
   have u0 := o8.cell (off := 0)
   have u1 := o8.cell (off := 1)
   have u1d := (dO o8).cell (off := 1)
   simp only [aGQ, aGR] at u0 u1 u1d
   rw [Q0] at hR
   cases l' with
   | nil =>
     simp only [tkn] at hx2 u0 u1 u1d o8
     have n1 : ((10 : Int) != 0) = true := rfl
     have lz' := lz (x38.seq (aS.dr _ _))
     simp (disch := omega) only [u1, aI, aA, eT, n1, lz', u1d, true_and, aF]
     exact aCJ (dO o28) rfl (dO o8) rfl (by omega) fun w' x => err hR (fin (x38.seq (aS.dr _ _)) x)
   | cons m r =>
     simp only [afB] at hx2 u0 u1 u1d o8 ⊢
     have hm8 : m.toNat < 256 := aHi m
     have hm1 : rC [m] = m.toNat := by simp [rC]
     have hH : LP o (m :: r) = if m.toNat % 4 ≠ 0 then .error 11 else DP m.toNat o 3 o r := rfl
     rw [hm1]
     generalize m.toNat = y at *
     have et : (y : Int).tmod 4 = ((y % 4 : Nat) : Int) := rfl
     by_cases h4 : y % 4 ≠ 0
     .have n1 : (((y % 4 : Nat) : Int) != 0) = true := by simp; omega
      rw [if_pos h4] at hH
      rw [hH] at hR
      have lz' := lz (x38.seq (aS.dr _ _))
      simp (disch := omega) only [u1, aI, et, n1, aF, aA, eT, n0, lz', true_and, aE]
      exact Zm (dO o28) rfl fun w' x _ => err hR (fin (x38.seq (aS.dr _ _)) x)
     .have n1 : (((y % 4 : Nat) : Int) != 0) = false := by simp; omega
      rw [if_neg h4] at hH
      rw [hH] at hR
      have d64 : (y : Int).tdiv 64 = ((y / 64 : Nat) : Int) := rfl
      have d16 : (y : Int).tdiv 16 = ((y / 16 : Nat) : Int) := rfl
      have d4 : (y : Int).tdiv 4 = ((y / 4 : Nat) : Int) := rfl
      have r16 : ((y / 16 : Nat) : Int).tmod 4 = ((y / 16 % 4 : Nat) : Int) := rfl
      have r4 : ((y / 4 : Nat) : Int).tmod 4 = ((y / 4 % 4 : Nat) : Int) := rfl
      have m0 : y / 64 = SC y 0 := by unfold SC; simp; omega
      have m1 : y / 16 % 4 = SC y 1 := rfl
      have m2 : y / 4 % 4 = SC y 2 := rfl
      have f0 := alZ y 0
      have f1 := alZ y 1
      have f2 := alZ y 2
      have g16 : IntKind.u64.wrap ((y / 16 : Nat) : Int) = ((y / 16 : Nat) : Int) := hJ (by omega) (by omega)
      have g4 : IntKind.u64.wrap ((y / 4 : Nat) : Int) = ((y / 4 : Nat) : Int) := hJ (by omega) (by omega)
      rw [m0] at d64
      rw [m1] at r16
      rw [m2] at r4
      have l8 := gM (off := 0) o18 (by simp [r6])
      simp only [r6, aGT, aGN, aGV] at l8
      have h64 : IntKind.u64.wrap ((SC y 0 : Nat) : Int) = ((SC y 0 : Nat) : Int) := hJ (by omega) (by omega)
      have h640 : IntKind.i64.wrap ((SC y 0 : Nat) : Int) = ((SC y 0 : Nat) : Int) := aT (by omega) (by omega)
      have h641 : IntKind.i64.wrap ((SC y 1 : Nat) : Int) = ((SC y 1 : Nat) : Int) := aT (by omega) (by omega)
      have h642 : IntKind.i64.wrap ((SC y 2 : Nat) : Int) = ((SC y 2 : Nat) : Int) := aT (by omega) (by omega)
      simp (disch := omega) only [u1, aI, et, n1, d64, h64, h640, d16, g16, r16, h641, d4, g4, r4, h642, aE, aA, eT, n0]
      refine wC (cells := #[.int .i64 (SC y 0 : Nat), .int .i64 (SC y 1 : Nat), .int .i64 (SC y 2 : Nat)]) (by decide) (by decide) (by kernel_rfl) fun w9 o9 x9 s9 => ?_
      have o9 : cJ w9 w8.heap.size [.int .i64 (SC y 0 : Nat), .int .i64 (SC y 1 : Nat), .int .i64 (SC y 2 : Nat)] := o9
      have y8 := x8.size
      have o19 := o18.ext x9 (fun h => h)
      have l9 := gM (off := 0) o19 (by simp [r6])
      simp only [r6, aGT, aGN, aGV] at l9
      simp (disch := omega) only [l9, aA]
      refine lL fun w10 o10 x10 s10 => ?_
      refine mY o10 rfl (by simp [one]) (by simp) fun w11 o11 x11 s11 => ?_
      have o11 : cJ w11 w9.heap.size (r6 o a c) := o11
      have y9 := x9.size
      have x911 : aS w9 w11 cM := x10.new x11 (aGZ _)
      have x811 := x9.seq x911
      have x311 := x38.seq x811
      have v0 := (o8.ext x811 (fun h => h)).cell (off := 0)
      simp only [aGQ, aGR] at v0
      simp (disch := omega) only [v0, aI, aA]
      unfold KE Ka Kl J9
      have hO6 : ∀ k, k < 3 -> (o k).2.length <= 1000000 := fun k hk => by
       rcases aHT (o k).2.length with h | h
       .omega
       .have := hO k hk (aHP.1 h)
        rw [this.len]
        have : 2 ^ (o k).1 <= 2 ^ 9 := aG0 (by omega) this.lg
        omega
      have hx2s : x2'.size <= 1000000 := by
       have := kG x2'
       rw [hx2] at this
       have : (m :: r).length <= (lC x).length := hl'
       simp at this
       omega
      refine aA9 (m := y) (o := o) (a := a) (c := c) (mc := 3) hm8 (o18.ext x811 (fun h => h)) (o28.ext x811 (fun h => h)) (o3.ext x311 (fun h => h)) (o9.ext x911 (fun h => h)) o11 ((hT.ext x03).ext x311) hO6 hx2s ⟨by omega, by omega, by omega, by omega⟩ (by omega) ?_ ?_
      .intro w12 t a2 c2 x3 ht oT12 hT12 x12
       rw [hx2] at ht
       rw [ht] at hR
       have hR : tZ (lC x) o = DI t n (lC x3) := hR
       obtain ⟨hG, hl2⟩ := PB (l := m :: r) hO (by rw [hH]; exact ht)
       have x312 : aS w3 w12 cM := x311.new x12 (by have := x38.size; omega)
       have hx3s : x3.size <= 1000000 := by
        have := kG x3
        have : (m :: r).length <= (lC x).length := hl'
        omega
       refine avJ hn1 (o2.ext x312 (fun h => h)) (o3.ext x312 (fun h => h)) oT12 hT12 hG hx3s ⟨by have := x38.size; omega, by omega⟩ fun w' r' hr x13 => ?_
       have x' := fin x312 x13
       rw [hRR]
       refine ⟨?_, x'⟩
       rw [hR]
       cases hb : DI t n (lC x3) with
       | error e => rw [hb] at hr; exact hr
       | ok z =>
         rw [hb] at hr
         obtain ⟨v, a3, c3, e1, e2, e3⟩ := hr
         exact ⟨v, a3, c3, e1, e2.lower (by have := (x03.seq x312).size; omega), e3⟩
      .intro w' e he x12
       rw [hx2] at he
       rw [he] at hR
       refine err hR ?_
       exact (x03.seq x311).trans x12 fun b hb h => by have := x38.size; omega
end Go.Proofs.YtaggdjhhmbnhoaaDoor
