/- Parts of the proof of SequencesWrites: merged and given short names by a program of ours. -/
import Derived.Test.YtaggdjhhmbnhoaaDoorSvD
set_option linter.unusedVariables false
set_option linter.unusedSimpArgs false
open Bool renaming false_eq_true → aI5, not_false → aJT, not_true → aJx
open Int renaming toNat_natCast → aIY, tdiv_eq_ediv_of_nonneg → aJs, fdiv_eq_ediv_of_nonneg → aKF
open List renaming getElem?_cons_zero → aI0, getElem?_cons_succ → aI1, set_cons_zero → aI2, set_cons_succ → aI3, drop_zero → aI4, take_zero → aI6, getElem?_eq_getElem → aI7, length_append → aI8, take_succ_cons → aIX, replicate_succ → aJ3, mem_cons_self → aJ6, cons_append → aJ9, getElem_map → aJB, drop_eq_getElem_cons → aJC, take_add_one → aJE, getElem?_take_of_lt → aJF, getElem?_append_right → aJG, map_append → aJJ, drop_succ_cons → aJK, nil_append → aJM, mem_map → aJO, append_nil → aJP, length_pos_iff → aJR, mem_of_getElem? → aJX, length_map → aJb, append_assoc → aJc, getElem?_append_left → aJd, getD_eq_getElem?_getD → aJe, length_take → aJg, getElem_mem → aJh, getElem?_eq_none → aJk, length_cons → aJo, getElem?_map → aJq, length_eq_zero_iff → aJr, length_drop → aJu, take_of_length_le → aJw, getElem_of_mem → aJy, range_succ → aK0, exists_mem_of_ne_nil → aK2, sum_append → aK3, map_replicate → aK7, drop_left → aK9, take_length → aKA, getElem_cons_zero → aKB, map_set → aKD, set_append_right → aKE, getLast?_eq_getElem? → aKI, eq_of_mem_replicate → aKK, getElem?_replicate → aKL, countP_le_length → aKU, map_take → aKX, getElem?_range → aKZ, drop_of_length_le → aKa, getElem?_drop → aKe, mem_singleton → aKf, mem_append → aKk, length_singleton → aKl, length_replicate → aKm, take_append_drop → aKs, ext_getElem? → aLa, takeWhile_sublist → aLe, mem_of_mem_drop → aLj, count_le_length → aLk
open Nat renaming le_refl → aI9, zero_add → aIZ, le_trans → aJ7, mod_eq_of_lt → aJA, mul_le_mul_right → aJH, min_eq_left → aJS, eq_zero_or_pos → aJU, add_zero → aJV, zero_le → aJW, add_sub_cancel → aJZ, pow_le_pow_right → aJa, lt_or_ge → aJl, pow_succ → aJp, two_pow_pos → aJv, sub_zero → aK6, sub_self → aKC
open Option renaming map_some → aJL, isNone_some → aJm, isNone_none → aKu
open Option.some renaming inj → aJj
open Prod.mk renaming inj → aLd
open UInt8 renaming toNat_lt → aJz
namespace Go.Proofs.YtaggdjhhmbnhoaaDoor
open Go Go.En Go.Pu
set_option maxRecDepth 4000
theorem ayK {w0 w : aLl} {p6 pf pc log st sym left x : Nat} {bv : aLm} {L : List Bool} {ps : List Int} {v : aLm} (h : RdS w p6 pf pc log st bv L ps v) (hl : ps.length <= 1000001) (hL : L.length <= 8000000) (hst : st <= L.length) (hx : aS w0 w cI) (hp : w0.heap.size <= p6) (hsym : sym <= 1000000)
 {kn : aLm -> aLm -> aLm -> aLm -> aLm -> aLl -> Prop} {RR : aLm -> aLl -> Prop}
 (hE : ∀ w', ON L x st = none -> aS w0 w' cI -> RR (.tuple #[.agg #[.int .i64 0, .slice none 0 0], .int .i64 0, .int .i64 10]) w')
 (hB : ∀ k st2 w', ON L x st = some (k, st2) -> sym < ps.length + k -> aS w0 w' cI -> RR (.tuple #[.agg #[.int .i64 0, .slice none 0 0], .int .i64 0, .int .i64 11]) w')
 (hK : ∀ k st2 w' v', ON L x st = some (k, st2) -> ¬ sym < ps.length + k -> RdS w' p6 pf pc log st2 bv L (ps ++ List.replicate k 0) v' -> aS w0 w' cI -> kn (.int .i64 sym) (.pointer (some ⟨p6, 0, none⟩)) (.pointer (some ⟨pf, 0, none⟩)) (.pointer (some ⟨pc, 0, none⟩)) (.int .i64 left) w') :
 AT kn RR (.int .i64 sym) (.pointer (some ⟨p6, 0, none⟩)) (.pointer (some ⟨pf, 0, none⟩)) (.pointer (some ⟨pc, 0, none⟩)) (.int .i64 left) (.int .i64 x) w := by
 have h6 := h.h6
 have hf := h.hf
 unfold AT Lg
 simp (disch := omega) only [aC, cK, aA]
 unfold Me Lv Ma
 refine cC.rule (fun m (t : aLm) w' => ∃ (k0 st' : Nat) (bt : Bool) (v' : aLm), t = .bool bt /\ RdS w' p6 pf pc log st' bv L (ps ++ List.replicate k0 0) v' /\ aS w0 w' cI /\ st' <= L.length /\ k0 <= 3 * st' /\
  (bt = true -> ON L x st = (match noR L m st' with | none => none | some (k, s) => some (k0 + k, s)) /\ L.length < 2 * m + st') /\ (bt = false -> ON L x st = some (k0, st'))) (L.length + 1)
  ⟨0, st, _, v, rfl, by simpa using h, hx, hst, by omega, ?_, ?_⟩ ?_
 .intro hb
  have hx1 : x = 1 := by simp at hb; omega
  subst hx1
  refine ⟨?_, by omega⟩
  unfold ON
  rw [if_pos rfl]
  cases noR L (L.length + 1) st with
  | none => rfl
  | some y => simp
 .intro hb
  have hx1 : x ≠ 1 := by
   intro h; subst h; simp at hb
  unfold ON
  rw [if_neg hx1]
 rintro m t w1 ⟨k0, st', bt, v', rfl, h1, x1, hst', hk0, ht, hfa⟩
 unfold DD MI
 cases bt with
 | false =>
   have hb := hfa rfl
   obtain ⟨av, cv, hv⟩ := h1.os.len
   have c1 := h1.oc.cell (off := 1)
   subst hv
   simp only [aI0, aI1, aI8, aKm] at c1
   have hlen : ((ps ++ List.replicate k0 0).length : Int) = ((ps.length + k0 : Nat) : Int) := by simp
   unfold Hh
   by_cases hgt : sym < ps.length + k0
   .have d1 : decide ((sym : Int) < ((ps.length + k0 : Nat) : Int)) = true := by simp only [decide_eq_true_eq]; omega
    simp (disch := omega) only [aC, aU, aIZ, gI, aA, cF, c1, aG, dU, dO, d1, jH, bM, if_true, aF, dH, aD]
    exact afC (RR := RR) (e := 11) h1.o6 x1 hp fun w' h => hB _ _ _ hb hgt h
   .have d1 : decide ((sym : Int) < ((ps.length + k0 : Nat) : Int)) = false := by simp only [decide_eq_false_iff_not]; omega
    have d2 : decide ((left : Int) < 0) = false := by simp
    simp (disch := omega) only [aC, aU, aIZ, gI, aA, cF, c1, aG, dU, dO, d1, dG, bM, aI5, if_false, bP, aW, d2, aD]
    exact hK _ _ _ _ hb hgt h1 x1
 | true =>
   obtain ⟨hb, hm⟩ := ht rfl
   obtain ⟨m, rfl⟩ : ∃ m', m = m' + 1 := ⟨m - 1, by omega⟩
   rw [azF] at hb
   have lf := fX (off := 0) h1.of (by simp)
   simp only [aI4, aIX, aI6] at lf
   unfold Mv VF KI
   simp (disch := omega) only [aC, lf, gI, aA, aF]
   refine (VQ (n := 2) h1.bl (by omega) hst' (by omega)).mono ?_
   rintro r w2 ⟨⟨hsh, rfl⟩ | ⟨hsh, rfl⟩, x2⟩
   .have n1 : ((10 : Int) != 0) = true := rfl
    rw [if_pos (by omega)] at hb
    obtain ⟨bn, bc, hbv, _⟩ := Nk h1.bl
    simp (disch := omega) only [Kh, Ka, J3, aA, fB]
    refine dJ (h1.ext x2).of rfl (by subst hbv; simp [one]) (by simp) fun w3 o3 x3 s3 => ?_
    simp (disch := omega) only [n1, aF]
    exact afC (RR := RR) (e := 10) ((h1.ext x2).o6.ext x3 (by omega)) ((x1.seq x2).new x3 (by omega)) hp fun w' h => hE _ hb h
   .have n1 : ((0 : Int) != 0) = false := rfl
    rw [if_neg (by omega)] at hb
    obtain ⟨bn, bc, hbv, _⟩ := Nk h1.bl
    have hlt := EU L st' 2
    simp (disch := omega) only [Kh, Ka, J3, aA, fB]
    refine dJ (h1.ext x2).of rfl (by subst hbv; simp [one]) (by simp) fun w3 o3 x3 s3 => ?_
    simp only [aV, aI2, aI3] at o3
    have h3 := (h1.ext x2).setF x3 o3
    have x03 : aS w0 w3 cI := (x1.seq x2).new x3 (by omega)
    have z03 := x03.size
    simp (disch := omega) only [n1, aD]
    refine aDH h3 (by omega) (by simp; omega) fun w4 v4 h4 x4 => ?_
    have hpc := h3.hf
    have x04 : aS w0 w4 cI := x03.trans x4 fun b hb h => by omega
    rw [aJc, List.replicate_append_replicate] at h4
    refine ⟨m, by omega, k0 + kP L st' 2, st' + 2, _, v4, rfl, h4, x04, hsh, by omega, ?_, ?_⟩
    .intro hq
     have h3' : kP L st' 2 = 3 := by simp at hq; omega
     rw [if_neg (by omega)] at hb
     refine ⟨?_, by omega⟩
     rw [hb, h3']
     cases noR L m (st' + 2) with
     | none => rfl
     | some y =>
       obtain ⟨k, s⟩ := y
       simp; omega
    .intro hq
     have h3' : kP L st' 2 ≠ 3 := by
      intro h; rw [h] at hq; simp at hq
     rw [if_pos (by omega)] at hb
     exact hb
theorem awQ {log p6 pf pc sym : Nat} {w0 w : aLl} {bv v : aLm} {L : List Bool} {res : Except Int (List Int × Nat)} (hlp : w0.heap.size <= p6) (hl : L.length <= 8000000) (hsym : sym <= 1000000) (hlog : log <= 15)
 (h : RdS w p6 pf pc log 4 bv L [] v) (h4 : 4 <= L.length) (hx : aS w0 w cI)
 (hres : WD L sym (L.length + 1) 4 (2 ^ log) [] = res)
 {RR : aLm -> aLl -> Prop} (hE : ∀ e w', res = .error e -> aS w0 w' cI -> RR (.tuple #[.agg #[.int .i64 0, .slice none 0 0], .int .i64 0, .int .i64 e]) w')
 (hO : ∀ ps st v w', res = .ok (ps, st) -> uD w' w0.heap.size 1 v ps.length (ps.map (Value.int .i64)) -> aS w0 w' cI -> RR (.tuple #[.agg #[.int .i64 log, v], .int .i64 (((st + 7) / 8 : Nat)), .int .i64 0]) w') :
 DZ RR (.int .i64 sym) (.pointer (some ⟨p6, 0, none⟩)) (.pointer (some ⟨pf, 0, none⟩)) (.pointer (some ⟨pc, 0, none⟩)) (.int .i64 (2 ^ log : Nat)) w := by
 have hp15 : 2 ^ log <= 2 ^ 15 := aJa (by omega) hlog
 have h6 := h.h6
 have hf := h.hf
 unfold DZ Mi LR
 refine cC.rule (fun m (t : aLm) w' => ∃ (st left : Nat) (ps : List Int) (v : aLm), t = .int .i64 left /\ WD L sym m st left ps = res /\ L.length < m + st /\ st <= L.length /\ left <= 32768 /\ ps.length <= 1000000 /\
  RdS w' p6 pf pc log st bv L ps v /\ aS w0 w' cI) (L.length + 1)
  ⟨4, 2 ^ log, [], v, rfl, hres, by omega, h4, by omega, by simp, h, hx⟩ ?_
 rintro m t w1 ⟨st, left, ps, v, rfl, hr, hm, hst, hleft, hpl, h1, x1⟩
 have hx0 := x1.size
 obtain ⟨m, rfl⟩ : ∃ m', m = m' + 1 := ⟨m - 1, by omega⟩
 obtain ⟨bn, bc, hbv, _⟩ := Nk h1.bl
 unfold Dz KX
 by_cases h0 : left = 0
 .have d1 : decide ((0 : Int) < (left : Int)) = false := by simp; omega
  rw [aoI, if_pos h0] at hr
  obtain ⟨av, cv, hv⟩ := h1.os.len
  subst hv hbv
  have lc := nK (off := 0) (dT h1.oc) (by simp)
  have lc' := nK (off := 0) h1.oc (by simp)
  have lf := fX (off := 0) (dT h1.of) (by simp)
  have lf' := fX (off := 0) h1.of (by simp)
  simp only [aI4, aIX, aI6] at lc lc' lf lf'
  unfold Hb
  simp (disch := omega) only [aC, dO, d1, dS, and_true, true_and, aA, lc, lf, aD]
  refine (aDy (by omega)).mono ?_
  rintro r w2 ⟨rfl, x2⟩
  have x12 : aS w1 w2 cI := (aS.dr w1 cI).seq x2
  have h2 := h1.ext x12
  have lc2 := nK (off := 0) h2.oc (by simp)
  simp only [aI4, aIX, aI6] at lc2
  simp (disch := omega) only [lc2, true_and]
  refine jX h2.o6 rfl (by simp [one]) (by simp) fun w6 o6 x6 s6 => ?_
  refine qA o6 (by simp [aV]) ?_
  simp only [aV, aI2, aI3, aI4, aIX, aI6]
  have ov6 := h2.os.ext x6 (fun b hb h => by omega)
  refine hO ps st _ w6 hr.symm ⟨ov6.1, ?_⟩ ((x1.seq x12).new x6 (by omega))
  rcases ov6.2 with h | ⟨b, c, rest, q1, q2, q3⟩
  .exact .inl h
  .exact .inr ⟨b, c, rest, q1, by omega, q3⟩
 .have d1 : decide ((0 : Int) < (left : Int)) = true := by simp; omega
  rw [aGl h0] at hr
  have lf := fX (off := 0) h1.of (by simp)
  simp only [aI4, aIX, aI6] at lf
  unfold LA T5 Mx
  simp (disch := omega) only [aC, dO, d1, gI, aA, aU, aIZ, dZ, aT, cF, lf, aF]
  refine (aC5 h1.bl hst (by omega) (by omega) hleft).mono ?_
  rintro r w2 ⟨hv2, x2⟩
  have h2 := h1.ext x2
  cases hval : Wi L st left with
  | none =>
    rw [hval] at hr hv2
    obtain ⟨st', rfl⟩ := hv2
    have n1 : ((10 : Int) != 0) = true := rfl
    simp (disch := omega) only [Kh, Ka, J3, aA, fB, dZ, aT, cK]
    refine dJ h2.of rfl (by subst hbv; simp [one]) (by simp) fun w3 o3 x3 s3 => ?_
    simp (disch := omega) only [n1, aF]
    exact afC (RR := RR) (e := 10) (h2.o6.ext x3 (by omega)) ((x1.seq x2).new x3 (by omega)) hlp fun w' h => hE _ _ hr.symm h
  | some y =>
    obtain ⟨x, st1⟩ := y
    rw [hval] at hr hv2
    simp only at hr
    obtain rfl := hv2
    obtain ⟨b1, b2, b3⟩ := VS hval (by omega)
    have n1 : ((0 : Int) != 0) = false := rfl
    simp (disch := omega) only [Kh, Ka, J3, aA, fB, dZ, aT, cK]
    refine dJ h2.of rfl (by subst hbv; simp [one]) (by simp) fun w3 o3 x3 s3 => ?_
    simp only [aV, aI2, aI3] at o3
    have h3 := h2.setF x3 o3
    have x03 : aS w0 w3 cI := (x1.seq x2).new x3 (by omega)
    have c3 := h3.oc.cell (off := 1)
    simp only [aI0, aI1] at c3
    simp (disch := omega) only [n1, c3, aG, aA, aD]
    refine aFw h3 ((x : Int) - 1) (by omega) fun w4 v4 h4 x4 => ?_
    have z03 := x03.size
    have hpc := h3.hf
    have x04 : aS w0 w4 cI := x03.trans x4 fun b hb h => by omega
    have hpn := nL (p := (x : Int) - 1) (by omega)
    have hfin : ∀ (left' : Nat), left' = left - (dC ((x : Int) - 1)).toNat -> AT (fun _ _ _ _ aX w'' => ∃ m', m' < m + 1 /\ ∃ (st left : Nat) (ps : List Int) (v : aLm), aX = .int .i64 left /\ WD L sym m' st left ps = res /\ L.length < m' + st /\ st <= L.length /\ left <= 32768 /\ ps.length <= 1000000 /\
        RdS w'' p6 pf pc log st bv L ps v /\ aS w0 w'' cI) RR (.int .i64 sym) (.pointer (some ⟨p6, 0, none⟩)) (.pointer (some ⟨pf, 0, none⟩)) (.pointer (some ⟨pc, 0, none⟩)) (.int .i64 left') (.int .i64 x) w4 := by
     intro left' hl'
     have hlen1 : (ps ++ [(x : Int) - 1]).length = ps.length + 1 := by simp
     refine ayK (left := left') h4 (by omega) hl b2 x04 hlp hsym ?_ ?_ ?_
     .intro w' hbe hx
      rw [hbe] at hr
      exact hE _ _ hr.symm hx
     .intro k st2 w' hbe hgt hx
      rw [hbe] at hr
      simp only at hr
      rw [if_pos (by omega)] at hr
      exact hE _ _ hr.symm hx
     .intro k st2 w' v' hbe hgt h5 hx
      rw [hbe] at hr
      simp only at hr
      rw [if_neg (by omega), <- hl'] at hr
      have hb2 : st1 <= st2 /\ st2 <= L.length := by
       unfold ON at hbe
       split at hbe
       .obtain ⟨q1, q2, _⟩ := apY hbe; omega
       .obtain ⟨rfl, rfl⟩ := aLd (aJj hbe); omega
      rw [aJc, List.singleton_append] at h5
      exact ⟨m, by omega, st2, left', _, v', rfl, hr, by omega, hb2.2, by omega, by simp; omega, h5, hx⟩
    by_cases hx0 : x = 0
    .subst hx0
     have n2 : (((0 : Nat) : Int) == 0) = true := rfl
     have e1 : (left : Int) - 1 = ((left - 1 : Nat) : Int) := by omega
     simp (disch := omega) only [n2, e1, aF]
     exact hfin _ rfl
    .have n2 : ((x : Int) == 0) = false := beq_eq_false_iff_ne.2 (by omega)
     have e0 : (x : Int) - 1 = ((x - 1 : Nat) : Int) := by omega
     have e1 : (left : Int) - ((x : Int) - 1) = ((left - (x - 1) : Nat) : Int) := by omega
     simp (disch := omega) only [n2, e1, aD]
     refine hfin _ ?_
     unfold dC
     rw [if_neg (by omega), e0, aIY]
theorem aBf {s : ByteArray} {most : Int} {sym : Nat} {w : aLl} (hl : s.size <= 1000000) (hsym : sym <= 1000000) :
 aR pg J4 #[.string s, .int .i64 most, .int .i64 sym] w (fun r w' => adF w' w.heap.size (yU (bK (nH s)) most sym) r /\ aS w w' cI) := by
 refine alK ?_
 obtain ⟨RR, hRR⟩ : ∃ RR : aLm -> aLl -> Prop, RR = fun r w' => adF w' w.heap.size (yU (bK (nH s)) most sym) r /\ aS w w' cI := ⟨_, rfl⟩
 rw [<- hRR]
 have hll := mM s
 have hbl := nV (nH s)
 unfold aqS Lu Lr
 refine qW fun w1 o1 x1 s1 => ?_
 refine (aoX hl).mono ?_
 rintro r w2 ⟨ob2, x2⟩
 have hbl2 : Bl w2 r (bK (nH s)) := ob2.sl
 have hat := uD.atI ob2
 obtain ⟨bn, bc, rfl, _⟩ := Nk hbl2
 have z1 := x1.size
 have z2 := x2.size
 simp (disch := omega) only [aC, lD, gI, aA]
 refine Ak fun w3 o3 x3 s3 => ?_
 refine dJ o3 rfl (by simp [one]) (by simp) fun w4 o4 x4 s4 => ?_
 simp only [aV, aI2, aI3] at o4
 have z3 := x3.size
 have z4 := x4.size
 have x24 : aS w2 w4 cI := x3.new x4 (by omega)
 have lf := fX (off := 0) o4 (by simp)
 simp only [aI4, aIX, aI6] at lf
 have hbl4 := hbl2.ext x24 (bU _)
 have e0 : (0 : Int) = ((0 : Nat) : Int) := rfl
 rw [e0] at lf
 simp (disch := omega) only [lf, aA]
 refine (VQ (st := 0) (n := 4) hbl4 (by omega) (by omega) (by omega)).mono ?_
 rintro r w5 ⟨⟨hsh, rfl⟩ | ⟨hsh, rfl⟩, x5⟩
 .have n1 : ((10 : Int) != 0) = true := rfl
  have hrl : yU (bK (nH s)) most sym = .error 10 := by unfold yU; rw [if_pos (by omega)]
  rw [hrl] at hRR
  simp (disch := omega) only [Kh, Ka, J3, aA, fB, cR, aT, bN, jP]
  refine dJ (o4.ext x5 (fun h => h)) rfl (by simp [one]) (by simp) fun w6 o6 x6 s6 => ?_
  simp (disch := omega) only [n1, aF]
  exact afC (RR := RR) (e := 10) ((((o1.ext x2 (fun h => h)).ext x24 (fun h => h)).ext x5 (fun h => h)).ext x6 (by omega)) ((((x1.seq x2).seq x24).seq x5).new x6 (by omega)) (aI9 _) fun w' h => by rw [hRR]; exact ⟨rfl, h⟩
 .have n1 : ((0 : Int) != 0) = false := rfl
  have hlt := EU (bK (nH s)) 0 4
  have hrl : yU (bK (nH s)) most sym = (if most < ((kP (bK (nH s)) 0 4 + 5 : Nat) : Int) ∨ 15 < kP (bK (nH s)) 0 4 + 5 then .error 12 else match WD (bK (nH s)) sym ((bK (nH s)).length + 1) 4 (2 ^ (kP (bK (nH s)) 0 4 + 5)) [] with
   | .error e => .error e
   | .ok (ps, st) => .ok (kP (bK (nH s)) 0 4 + 5, ps, (st + 7) / 8)) := by unfold yU; rw [if_neg (by omega)] <;> rfl
  rw [hrl] at hRR
  generalize kP (bK (nH s)) 0 4 = x at *
  have e1 : (x : Int) + 5 = ((x + 5 : Nat) : Int) := by omega
  have z5 := x5.size
  simp (disch := omega) only [aIZ, Kh, Ka, J3, aA, fB, cR, aT, bN, jP]
  refine dJ (o4.ext x5 (fun h => h)) rfl (by simp [one]) (by simp) fun w6 o6 x6 s6 => ?_
  simp only [aV, aI2, aI3] at o6
  have z6 := x6.size
  have x06 : aS w w6 cI := (((x1.seq x2).seq x24).seq x5).new x6 (by omega)
  have o16 := ((((o1.ext x2 (fun h => h)).ext x24 (fun h => h)).ext x5 (fun h => h)).ext x6 (by omega))
  have hbl6 : Bl w6 _ _ := (hbl4.ext x5 (bU _)).ext x6 (hat _ fun b hb hh => by omega)
  simp (disch := omega) only [n1, e1, aD]
  refine qW fun w7 o7 x7 s7 => ?_
  refine jX o7 rfl (by simp [one]) (by simp) fun w8 o8 x8 s8 => ?_
  simp only [aV, aI2, aI3] at o8
  have x68 : aS w6 w8 cI := x7.new x8 (by omega)
  have x08 : aS w w8 cI := x06.seq x68
  have o18 := o16.ext x68 (fun h => h)
  have c8 := o8.cell (off := 0)
  simp only [aI0, aI1] at c8
  by_cases hmo : most < ((x + 5 : Nat) : Int)
  .have d1 : decide (most < ((x + 5 : Nat) : Int)) = true := by simpa using hmo
   rw [if_pos (.inl hmo)] at hRR
   simp (disch := omega) only [bW, aA, bZ, c8, aG, dO, d1, jH, bM, if_true, aF, dH]
   exact afC (RR := RR) (e := 12) o18 x08 (aI9 _) fun w' h => by rw [hRR]; exact ⟨rfl, h⟩
  have d1 : decide (most < ((x + 5 : Nat) : Int)) = false := by simpa using hmo
  by_cases h15 : 15 < x + 5
  .have d2 : decide ((15 : Int) < ((x + 5 : Nat) : Int)) = true := by simp; omega
   rw [if_pos (.inr h15)] at hRR
   simp (disch := omega) only [bW, aA, bZ, c8, aG, dO, d1, dG, bM, aI5, if_false, bP, d2, aF]
   exact afC (RR := RR) (e := 12) o18 x08 (aI9 _) fun w' h => by rw [hRR]; exact ⟨rfl, h⟩
  have d2 : decide ((15 : Int) < ((x + 5 : Nat) : Int)) = false := by simp; omega
  rw [if_neg (by omega)] at hRR
  simp (disch := omega) only [bW, aA, bZ, c8, aG, dO, d1, dG, bM, aI5, if_false, bP, d2, aD]
  refine (VO (x + 5) (by omega) _).mono ?_
  rintro r w9 ⟨rfl, rfl⟩
  have hpow : ((2 ^ (x + 5) : Nat) : Int) = (2 : Int) ^ (x + 5) := by simp
  rw [<- hpow]
  have hS : RdS w9 w.heap.size w2.heap.size w6.heap.size (x + 5) 4 (.slice bn (bK (nH s)).length bc) (bK (nH s)) [] (.slice none 0 0) :=
   ⟨o18, o6.ext x68 (fun h => h), o8, uD.nil _ _ _, hbl6.ext x68 (bU _), fun M hM => hat M fun b _ hb => hM b (by omega) (by omega), by omega, by omega⟩
  refine awQ (w0 := w) (res := WD (bK (nH s)) sym ((bK (nH s)).length + 1) 4 (2 ^ (x + 5)) []) (aI9 _) (by omega) hsym (by omega) hS (by omega) x08 rfl ?_ ?_
  .intro e w' he hx
   rw [hRR, he]
   exact ⟨rfl, hx⟩
  .intro ps st v w' he ho hx
   rw [hRR, he]
   exact ⟨⟨v, rfl, ho⟩, hx⟩
end Go.Proofs.YtaggdjhhmbnhoaaDoor
namespace Go.Pu
open Go Go.En
theorem aFS {ps : List Int} (hlo : ∀ p ∈ ps, -1 <= p) (hne : ps ≠ []) (hlast : ps.getLast? ≠ some 0) : 0 < tX ps := by
 have h0 := HF hlo
 rcases Int.lt_or_eq_of_le h0 with h | h
 .exact h
 .exfalso
  have hz : ∀ q ∈ ps, q = 0 := fun q hq => by
   have h1 := aoB hlo hq
   have h2 := hlo q hq
   unfold dC at h1
   split at h1 <;> omega
  refine hlast ?_
  cases hg : ps.getLast? with
  | none => simp at hg; exact absurd hg hne
  | some y => rw [hz y (List.mem_of_getLast? hg)]
theorem azZ {left v : Nat} (h : left <= 32768) : (M0 left v).length <= 17 := by
 have hb := tR (k := left + 1) (n := 17) (by omega)
 unfold M0
 simp only
 split
 .rw [dQ]; omega
 .split <;> rw [dQ] <;> omega
theorem aFZ : ∀ k : Nat, (noW k).length <= 2 * k + 2 := by
 intro k
 induction k using Nat.strongRecOn with
 | ind k ih =>
   rw [noW]
   split
   .rw [dQ]; omega
   .have := ih (k - 3) (by omega)
    rw [aI8, dQ]; omega
theorem awT : ∀ (g left : Nat) (ps : List Int), left <= 32768 -> (Zf g left ps).length <= 20 * ps.length
 | 0, left, ps, h => by simp [Zf]
 | g + 1, left, [], h => by simp [Zf]
 | g + 1, left, p :: ps, h => by
   rw [Zf]
   have hk : (ps.takeWhile (· == 0)).length <= ps.length := (aLe _).length_le
   split
   .have h1 := azZ (v := 1) h
    have h2 := aFZ (ps.takeWhile (· == 0)).length
    have h3 := awT g left (ps.drop (ps.takeWhile (· == 0)).length) h
    rw [aJu] at h3
    simp only [aI8, aJo]
    omega
   .have h1 := azZ (v := (p + 1).toNat) h
    have h3 := awT g (left - (dC p).toNat) ps (by omega)
    simp only [aI8, aJo]
    omega
theorem ahP {log : Nat} {ps : List Int} (hm : TO log ps) : (JA log ps).length <= 6000 := by
 have h15 := hm.log15
 have hp : 2 ^ log <= 2 ^ 15 := aJa (by omega) h15
 have := awT ps.length (2 ^ log) ps (by omega)
 have := hm.len256
 unfold JA
 rw [aI8, dQ]
 omega
theorem apS : ∀ {ps : List Int} {j : Nat}, j < (ps.takeWhile (· == 0)).length -> ps[j]? = some 0
 | [], j, h => by simp at h
 | p :: ps, j, h => by
   rw [List.takeWhile_cons] at h
   by_cases hp : (p == 0) = true
   .rw [if_pos hp] at h
    cases j with
    | zero => simpa using hp
    | succ j => simpa using apS (ps := ps) (j := j) (by simpa using h)
   .rw [if_neg hp] at h; simp at h
theorem avE : ∀ {ps : List Int} {y : Int}, ps[(ps.takeWhile (· == 0)).length]? = some y -> y ≠ 0
 | [], y, h => by simp at h
 | p :: ps, y, h => by
   rw [List.takeWhile_cons] at h
   by_cases hp : (p == 0) = true
   .rw [if_pos hp] at h
    exact avE (ps := ps) (by simpa using h)
   .rw [if_neg hp] at h
    simp at h hp
    rw [<- h]; exact hp
theorem aE3 {ps : List Int} (hlast : ps.getLast? ≠ some 0) (hne : ps ≠ []) : (ps.takeWhile (· == 0)).length < ps.length := by
 have hk : (ps.takeWhile (· == 0)).length <= ps.length := (aLe _).length_le
 rcases aJl (ps.takeWhile (· == 0)).length ps.length with h | h
 .exact h
 .exfalso
  have hl : 0 < ps.length := aJR.2 hne
  have := apS (ps := ps) (j := ps.length - 1) (by omega)
  apply hlast
  rw [aKI, this]
end Go.Pu
namespace Go.Proofs.YtaggdjhhmbnhoaaDoor
open Go Go.En Go.Pu
set_option maxRecDepth 4000
theorem aHZ {lo p : Nat} {B : List Bool} {w : aLl} (h : Wr w lo p B) (hB : B.length <= 10000000) :
 aR pg zQ #[.pointer (some ⟨p, 0, none⟩)] w (fun r w' => ∃ bytes, agA B bytes /\ uD w' w.heap.size 1 r bytes.length (bytes.map KY) /\ aS w w' cI) := by
 refine Us ?_
 obtain ⟨h0, v, bytes, o, os, hh⟩ := h
 have c0 := (dT o).cell (off := 0)
 have c0' := o.cell (off := 0)
 simp only [aI0, aI1] at c0 c0'
 have hs : Bs w v bytes := by
  have h1 := os.1
  rcases os.2 with ⟨rfl, h2⟩ | ⟨b, c, rest, rfl, h2, h3, h4, h5⟩
  .exact ⟨_, _, _, rfl, by omega, by omega, fun h => by omega⟩
  .refine ⟨_, _, _, rfl, by omega, h5, fun _ => ⟨b, 0, rfl, fun i hi => ?_⟩⟩
   rw [h3.cell, aIZ, aJd (by omega)]
 have hl := hh.len
 unfold Su CQ
 simp (disch := omega) only [aC, iB, aJm, rI, aA, gM, fS, c0', aG, aD]
 refine (VP hs (by omega)).mono ?_
 rintro r w1 ⟨o1, x1⟩
 exact ⟨bytes, hh, o1, x1⟩
structure WrS (w : aLl) (w0 : aLl) (pc lo pw log : Nat) (sv : aLm) (ps : List Int) (B : List Bool) : Prop where
 oc : cM w pc [.int .i64 log, sv]
 sl : Sl w0 sv (ps.map (Value.int .i64))
 hw : Wr w lo pw B
 hc : pc < lo
 hx : aS w0 w cI
 hlo : w0.heap.size <= lo
theorem WrS.put {w w' w0 : aLl} {pc lo pw log : Nat} {sv : aLm} {ps : List Int} {B B' : List Bool} (h : WrS w w0 pc lo pw log sv ps B) (hw : Wr w' lo pw B') (hx : aS w w' (fun y => lo <= y)) : WrS w' w0 pc lo pw log sv ps B' :=
 ⟨h.oc.ext hx (by have := h.hc; omega), h.sl, hw, h.hc, h.hx.trans hx fun b hb hh => by have := h.hlo; omega, h.hlo⟩
theorem aDb {w w0 : aLl} {pc lo pw log left i : Nat} {sv : aLm} {ps : List Int} {B : List Bool} {p : Int} (h : WrS w w0 pc lo pw log sv ps B) (hB : B.length <= 1000000) (h0 : 0 < left) (h1 : left <= 32768) (hg : ps[i]? = some p) (hp0 : -1 <= p) (hpl : p <= left)
 {kn : aLm -> aLm -> aLm -> aLm -> aLm -> aLl -> Prop}
 (hK : ∀ w', WrS w' w0 pc lo pw log sv ps (B ++ M0 left (p + 1).toNat) -> kn (.pointer (some ⟨pc, 0, none⟩)) (.pointer (some ⟨pw, 0, none⟩)) (.int .i64 left) (.int .i64 i) (.int .i64 p) w') :
 A9 kn (.pointer (some ⟨pc, 0, none⟩)) (.pointer (some ⟨pw, 0, none⟩)) (.int .i64 left) (.int .i64 i) w := by
 unfold A9
 have hi : i < ps.length := by
  rcases aJl i ps.length with h' | h'
  .exact h'
  .rw [aJk h'] at hg; cases hg
 have hsl := h.sl.ext h.hx (bU _)
 obtain ⟨b', off', c', hv, _, hcell⟩ := hsl.openI (by omega)
 have g1 := hcell i hi
 rw [aI7 hi] at hg
 rw [aJj hg] at g1
 have hoc := h.oc
 subst hv
 have c1 := hoc.cell (off := 1)
 simp only [aI0, aI1] at c1
 obtain ⟨m, hm, hm1, hm2, hf1, hf2, hf3⟩ := agC h0 h1
 have e1 : (left : Int) + 1 = ((left + 1 : Nat) : Int) := by omega
 simp (disch := omega) only [aC, bC, aIZ, bN, e1, aT, aA, jB, iI, cF, c1, aG, dB, aIY, bZ, g1, fF]
 refine (aFD (x := left + 1) (by omega) w).mono ?_
 rintro r w1 ⟨rfl, rfl⟩
 rw [hm]
 obtain ⟨v, hv⟩ : ∃ v : Nat, p + 1 = (v : Int) := ⟨(p + 1).toNat, by omega⟩
 have hvt : (p + 1).toNat = v := by omega
 rw [hvt] at hK
 have hvl : v <= left + 1 := by omega
 have hsh1 := awN (n := m + 1) (by omega)
 have hsh0 := awN (n := m) (by omega)
 have e2 : ((m + 1 : Nat) : Int) - 1 = (m : Int) := by omega
 have hp : 2 ^ m <= 2 ^ 16 := aJa (by omega) hm2
 unfold M0 at hK
 simp only [hm, aJZ] at hK
 rw [hf3] at *
 generalize hq : 2 ^ m = q at *
 have e3 : ((2 * q : Nat) : Int) - 2 - (left : Int) = ((2 * q - 2 - left : Nat) : Int) := by omega
 by_cases hfr : v < 2 * q - 2 - left
 .have d1 : decide ((v : Int) < ((2 * q - 2 - left : Nat) : Int)) = true := by simp only [decide_eq_true_eq]; omega
  rw [if_pos hfr] at hK
  simp (disch := omega) only [mO, aIY, hsh1, hv, dZ, e2, aT, aA, aW, e3, d1, bN, fF, iI, aF]
  refine (QZ (n := m) (x := v) h.hw (by omega) (by omega) (by omega)).mono ?_
  rintro r w2 ⟨rfl, hw2, x2⟩
  exact hK w2 (h.put hw2 x2)
 .have d1 : decide ((v : Int) < ((2 * q - 2 - left : Nat) : Int)) = false := by simp only [decide_eq_false_iff_not]; omega
  rw [if_neg hfr] at hK
  by_cases h2 : v < q
  .have d2 : decide ((v : Int) < (q : Int)) = true := by simp only [decide_eq_true_eq]; omega
   rw [if_pos h2] at hK
   simp (disch := omega) only [mO, aIY, hsh1, hv, dZ, e2, aT, aA, hsh0, aW, d2, aF, e3, d1, aD]
   refine (QZ (n := m + 1) (x := v) h.hw (by omega) (by omega) (by omega)).mono ?_
   rintro r w2 ⟨rfl, hw2, x2⟩
   exact hK w2 (h.put hw2 x2)
  .have d2 : decide ((v : Int) < (q : Int)) = false := by simp only [decide_eq_false_iff_not]; omega
   have e4 : (v : Int) + ((2 * q - 2 - left : Nat) : Int) = ((v + (2 * q - 2 - left) : Nat) : Int) := by omega
   rw [if_neg h2] at hK
   simp (disch := omega) only [mO, aIY, hsh1, hv, dZ, e2, aT, aA, hsh0, aW, d2, aD, e3, d1, bN, e4, fF, iI]
   refine (QZ (n := m + 1) (x := v + (2 * q - 2 - left)) h.hw (by omega) (by omega) (by omega)).mono ?_
   rintro r w2 ⟨rfl, hw2, x2⟩
   exact hK w2 (h.put hw2 x2)
theorem aCO {w w0 : aLl} {pc lo pw log left i k : Nat} {sv : aLm} {ps : List Int} {B : List Bool} (h : WrS w w0 pc lo pw log sv ps B) (hl : ps.length <= 1000000) (hz : ∀ j, j < k -> ps[i + 1 + j]? = some 0) (hy : ∃ y, ps[i + 1 + k]? = some y /\ y ≠ 0)
 {k3 : aLm -> aLm -> aLm -> aLm -> aLm -> aLl -> Prop}
 (hK : k3 (.pointer (some ⟨pc, 0, none⟩)) (.pointer (some ⟨pw, 0, none⟩)) (.int .i64 left) (.int .i64 i) (.int .i64 k) w) :
 A5 k3 (.pointer (some ⟨pc, 0, none⟩)) (.pointer (some ⟨pw, 0, none⟩)) (.int .i64 left) (.int .i64 i) (.int .i64 0) w := by
 unfold A5
 have lt : ∀ {j : Nat} {y : Int}, ps[j]? = some y -> j < ps.length := fun {j y} h => by
  rcases aJl j ps.length with h' | h'
  .exact h'
  .rw [aJk h'] at h; cases h
 obtain ⟨y, hy, hyn⟩ := hy
 have hyl := lt hy
 have hsl := h.sl.ext h.hx (bU _)
 obtain ⟨b', off', c', hv, _, hcell⟩ := hsl.openI (by omega)
 have hoc := h.oc
 subst hv
 have c1 := hoc.cell (off := 1)
 simp only [aI0, aI1] at c1
 refine cC.rule (fun m (t : aLm) w' => ∃ j : Nat, m = k - j /\ t = .int .i64 j /\ j <= k /\ w' = w) k ⟨0, rfl, rfl, by omega, rfl⟩ ?_
 rintro m t w1 ⟨j, rfl, rfl, hj, rfl⟩
 unfold Bg
 have e1 : (i : Int) + 1 + (j : Int) = ((i + 1 + j : Nat) : Int) := by omega
 by_cases hlt : j < k
 .have g0 := hz j hlt
  have hl0 := lt g0
  have g1 := hcell (i + 1 + j) hl0
  rw [aI7 hl0] at g0
  rw [aJj g0] at g1
  have n1 : ((0 : Int) == 0) = true := rfl
  simp (disch := omega) only [aC, bC, aIZ, bN, aT, aA, e1, cF, c1, aG, dB, aIY, bZ, g1, cK, n1, and_true, aF]
  exact ⟨k - (j + 1), by omega, j + 1, rfl, rfl, by omega⟩
 .obtain rfl : j = k := by omega
  have g1 := hcell (i + 1 + j) hyl
  rw [aI7 hyl] at hy
  rw [aJj hy] at g1
  have n1 : (y == 0) = false := by simpa using hyn
  simp (disch := omega) only [aC, bC, aIZ, bN, aT, aA, e1, cF, c1, aG, dB, aIY, bZ, g1, cK, n1, and_true, aD]
  exact hK
theorem aE2 {w w0 : aLl} {pc lo pw log left i k : Nat} {sv : aLm} {ps : List Int} {B : List Bool} (h : WrS w w0 pc lo pw log sv ps B) (hB : B.length <= 1000000) (hk : k <= 1000000)
 {kn : aLm -> aLm -> aLm -> aLm -> aLl -> Prop}
 (hK : ∀ w', WrS w' w0 pc lo pw log sv ps (B ++ noW k) -> kn (.pointer (some ⟨pc, 0, none⟩)) (.pointer (some ⟨pw, 0, none⟩)) (.int .i64 left) (.int .i64 i) w') :
 Ci kn (.pointer (some ⟨pc, 0, none⟩)) (.pointer (some ⟨pw, 0, none⟩)) (.int .i64 left) (.int .i64 i) (.int .i64 k) w := by
 unfold Ci IQ IP
 refine cC.rule (fun m (t : aLm) w' => ∃ C : List Bool, t = .int .i64 m /\ m <= k /\ C ++ noW m = B ++ noW k /\ C.length <= 1000000 + 2 * (k - m) /\ WrS w' w0 pc lo pw log sv ps C) k ⟨B, rfl, aI9 _, rfl, by omega, h⟩ ?_
 rintro m t w1 ⟨C, rfl, hm, hC, hCl, h1⟩
 unfold BW
 rw [noW] at hC
 by_cases h3 : m < 3
 .have d1 : decide ((3 : Int) <= (m : Int)) = false := by simp; omega
  rw [dif_pos h3] at hC
  unfold B8
  simp (disch := omega) only [aC, oD, d1, dZ, aT, aA, fF, iI, aD]
  refine (QZ (n := 2) (x := m) h1.hw (by omega) (by omega) (by omega)).mono ?_
  rintro r w2 ⟨rfl, hw2, x2⟩
  rw [hC] at hw2
  exact hK w2 (h1.put hw2 x2)
 .have d1 : decide ((3 : Int) <= (m : Int)) = true := by simp; omega
  rw [dif_neg h3] at hC
  simp (disch := omega) only [aC, oD, d1, dZ, aT, aA, aF]
  refine (QZ (n := 2) (x := 3) h1.hw (by omega) (by omega) (by omega)).mono ?_
  rintro r w2 ⟨rfl, hw2, x2⟩
  have e1 : (m : Int) - 3 = ((m - 3 : Nat) : Int) := by omega
  simp (disch := omega) only [e1]
  refine ⟨m - 3, by omega, C ++ gU 3 2, rfl, by omega, by rw [aJc]; exact hC, ?_, h1.put hw2 x2⟩
  rw [aI8, dQ]; omega
theorem aBo {w w0 : aLl} {pc lo pw log : Nat} {sv : aLm} {ps : List Int} (hm : TO log ps) (h : WrS w w0 pc lo pw log sv ps (gU (log - 5) 4)) {RR : aLm -> aLl -> Prop}
 (hR : ∀ w' pw, WrS w' w0 pc lo pw log sv ps (JA log ps) -> yS RR (.pointer (some ⟨pw, 0, none⟩)) w') :
 Ba RR (.pointer (some ⟨pc, 0, none⟩)) (.pointer (some ⟨pw, 0, none⟩)) (.int .i64 (2 ^ log : Nat)) w := by
 have hlen := hm.len256
 have h15 := hm.log15
 have hp15 : 2 ^ log <= 2 ^ 15 := aJa (by omega) h15
 have hD := ahP hm
 have hpow : ((2 ^ log : Nat) : Int) = (2 : Int) ^ log := by simp
 generalize hDe : JA log ps = D at *
 unfold Ba FX FD F9 FL
 refine cC.rule (fun m (t : aLm × aLm) w' => ∃ (i left g : Nat) (B : List Bool), m = ps.length - i /\ t = (.int .i64 left, .int .i64 i) /\ i <= ps.length /\ ps.length - i <= g /\ tX (ps.drop i) = left /\ left <= 32768 /\ B ++ Zf g left (ps.drop i) = D /\ WrS w' w0 pc lo pw log sv ps B) ps.length
  ⟨0, 2 ^ log, ps.length, _, rfl, rfl, by omega, by omega, by rw [aI4, hm.sum, hpow], by omega, by rw [aI4]; exact hDe, h⟩ ?_
 rintro m t w1 ⟨i, left, g, B, rfl, rfl, hi, hg, hs, hleft, hB, h1⟩
 have hBl : B.length <= 6000 := by rw [<- hB, aI8] at hD; omega
 have hoc := h1.oc
 obtain ⟨sa, sc, hsv, _⟩ := h1.sl.lenI
 have hsv' := hsv
 subst hsv'
 have c1 := hoc.cell (off := 1)
 simp only [aI0, aI1] at c1
 unfold Bd Fw
 by_cases hlt : i < ps.length
 .have d1 : decide ((i : Int) < (ps.length : Int)) = true := by simp; omega
  have hdrop : ps.drop i = ps[i] :: ps.drop (i + 1) := aJC hlt
  have hlo' : ∀ p ∈ ps.drop i, -1 <= p := fun p hp => hm.low p (aLj hp)
  have hlast : ∀ j, j < ps.length -> (ps.drop j).getLast? ≠ some 0 := fun j hj => by
   rw [List.getLast?_drop, if_neg (by omega)]; exact hm.last
  have hpos : 0 < tX (ps.drop i) := aFS hlo' (fun h => by have := List.drop_eq_nil_iff.1 h; omega) (hlast i hlt)
  have hp0 := hm.low _ (aJh hlt)
  have hpi := aI7 hlt
  generalize ps[i] = p at *
  rw [hdrop, zG] at hs hpos
  have hlo2 : ∀ p ∈ ps.drop (i + 1), -1 <= p := fun p hp => hm.low p (aLj hp)
  have hn := HF hlo2
  have hpn := nL hp0
  have hple : p <= dC p := by unfold dC; split <;> omega
  obtain ⟨g, rfl⟩ : ∃ g', g = g' + 1 := ⟨g - 1, by omega⟩
  unfold FC F5 PZ
  simp (disch := omega) only [aC, bC, aIZ, aA, cF, c1, aG, dU, aW, d1, aF]
  refine aDb (left := left) (i := i) h1 (by omega) (by omega) hleft hpi hp0 (by omega) fun w2 h2 => ?_
  unfold FN Gb
  refine (aoC _ _).mono ?_
  rintro r w3 ⟨rfl, rfl⟩
  obtain ⟨pq, hpq⟩ : ∃ pq : Nat, dC p = pq := ⟨(dC p).toNat, by omega⟩
  rw [hpq] at hs hpn hple ⊢
  have e1 : (left : Int) - (pq : Int) = ((left - pq : Nat) : Int) := by omega
  have e2 : (i : Int) + 1 = ((i + 1 : Nat) : Int) := by omega
  by_cases h0 : p = 0
  .subst h0
   have n1 : ((0 : Int) != 0) = false := rfl
   obtain rfl : pq = 0 := by
    have : dC 0 = 0 := rfl
    omega
   have hne : ps.drop (i + 1) ≠ [] := by
    intro he
    rw [he] at hpos
    exact absurd hpos (by decide)
   have hlt2 : i + 1 < ps.length := by
    rcases aJl (i + 1) ps.length with h | h
    .exact h
    .exact absurd (List.drop_eq_nil_of_le h) hne
   have hz1 := fun j => apS (ps := ps.drop (i + 1)) (j := j)
   have hz2 := fun y => avE (ps := ps.drop (i + 1)) (y := y)
   have hz3 := aE3 (hlast (i + 1) hlt2) hne
   have hrep := W7 (ps.drop (i + 1))
   have hW : Zf (g + 1) left (0 :: ps.drop (i + 1)) = M0 left 1 ++ (noW ((ps.drop (i + 1)).takeWhile (· == 0)).length ++ Zf g left ((ps.drop (i + 1)).drop ((ps.drop (i + 1)).takeWhile (· == 0)).length)) := by rw [Zf, if_pos rfl]
   rw [hdrop, hW] at hB
   generalize ((ps.drop (i + 1)).takeWhile (· == 0)).length = k at *
   rw [aJu] at hz3
   simp only [aKe] at hz1 hz2
   have hsum : tX (ps.drop (i + 1 + k)) = left := by
    have : tX (ps.drop (i + 1)) = tX (List.replicate k 0) + tX ((ps.drop (i + 1)).drop k) := by
     conv => lhs; rw [hrep]
     rw [Hw]
    rw [RC, List.drop_drop] at this
    have e0 : dC 0 = 0 := rfl
    omega
   have h2' : WrS w3 w0 pc lo pw log (.slice sa ps.length sc) ps (B ++ M0 left 1) := h2
   rw [List.drop_drop] at hB
   have hl1 : (B ++ M0 left 1).length <= 6000 := by
    have := congrArg List.length hB
    simp only [aI8] at this ⊢
    omega
   have e3 : (left : Int) - ((0 : Nat) : Int) = (left : Int) := by omega
   unfold FV Gt
   simp (disch := omega) only [aC, dZ, e3, aT, fB, n1, aA, aD]
   refine aCO (left := left) (k := k) h2' (by omega) hz1 ⟨_, aI7 (show i + 1 + k < ps.length by omega), hz2 _ (aI7 (by omega))⟩ ?_
   unfold IF IU
   have e4 : (i : Int) + (k : Int) = ((i + k : Nat) : Int) := by omega
   simp (disch := omega) only [aC, bN, e4, aT, aA]
   refine aE2 (left := left) (i := i + k) h2' (by omega) (by omega) fun w4 h4 => ?_
   unfold zB
   have e5 : ((i + k : Nat) : Int) + 1 = ((i + 1 + k : Nat) : Int) := by omega
   simp (disch := omega) only [aC, bN, e5, aT, aA]
   exact ⟨ps.length - (i + 1 + k), by omega, i + 1 + k, left, g, _, rfl, rfl, by omega, by omega, hsum, hleft, by rw [<- hB]; simp [aJc], h4⟩
  .have n1 : (p != 0) = true := by simpa using h0
   have hW : Zf (g + 1) left (p :: ps.drop (i + 1)) = M0 left (p + 1).toNat ++ Zf g (left - pq) (ps.drop (i + 1)) := by rw [Zf, if_neg h0, hpq, aIY]
   rw [hdrop, hW, <- aJc] at hB
   unfold zB
   simp (disch := omega) only [aC, dZ, e1, aT, fB, n1, bN, e2, aA, aF]
   exact ⟨ps.length - (i + 1), by omega, i + 1, left - pq, g, _, rfl, rfl, by omega, by omega, by omega, by omega, hB, h2⟩
 .have d1 : decide ((i : Int) < (ps.length : Int)) = false := by simp; omega
  have hnil : ps.drop i = [] := List.drop_eq_nil_of_le (by omega)
  have hB : B = D := by
   rw [hnil] at hB
   cases g with
   | zero => simpa [Zf] using hB
   | succ g => simpa [Zf] using hB
  rw [hB] at h1
  simp (disch := omega) only [aC, bC, aIZ, aA, cF, c1, aG, dU, aW, d1, aD]
  exact hR w1 pw h1
theorem ayL {log : Nat} {sv : aLm} {ps : List Int} {w : aLl} (hm : TO log ps) (hs : Sl w sv (ps.map (Value.int .i64))) :
 aR pg Eu #[.agg #[.int .i64 log, sv]] w (fun r w' => ∃ bytes v, r = .tuple #[v, .int .i64 0] /\ agA (JA log ps) bytes /\ uD w' w.heap.size 1 v bytes.length (bytes.map KY) /\ aS w w' cI) := by
 refine aaK ?_
 have hlen := hm.len256
 have h15 := hm.log15
 have h5 := hm.log5
 unfold aaA Gn FO
 refine gA fun w1 o1 x1 s1 => ?_
 simp only [Value.cells] at o1
 have l1 := gX o1 (off := 0) (by simp)
 simp only [aI4, aIX, aI6] at l1
 simp (disch := omega) only [aC, l1, cP, aA, bZ]
 refine (aGJ (hs.ext x1 (bU _)) (by omega)).mono ?_
 rintro r w2 ⟨rfl, x2⟩
 rw [hm.b]
 have z1 := x1.size
 have z2 := x2.size
 simp (disch := omega) only [Bm, aJx, aA, aD]
 refine (ayE w2).mono ?_
 rintro r w3 ⟨rfl, hlt, hw3, x3⟩
 have z3 := x3.size
 have o13 := (o1.ext x2 (fun h => h)).ext x3 (fun h => h)
 have c0 := o13.cell (off := 0)
 simp only [aI0, aI1] at c0
 have e1 : (log : Int) - 5 = ((log - 5 : Nat) : Int) := by omega
 simp (disch := omega) only [c0, aG, aA, dZ, e1, aT, fF, iI]
 refine (QZ (n := 4) (x := log - 5) hw3 (by omega) (by omega) (by simp)).mono ?_
 rintro r w4 ⟨rfl, hw4, x4⟩
 have o14 := o13.ext x4 (by omega)
 have c04 := o14.cell (off := 0)
 simp only [aI0, aI1] at c04
 have hsh := awN (n := log) (by omega)
 simp (disch := omega) only [c04, aG, aA, mO, aIY, hsh]
 have x04 : aS w w4 cI := ((x1.seq x2).seq x3).trans x4 fun b hb h => by omega
 refine aBo (lo := w2.heap.size) (pw := w2.heap.size) hm ⟨o14, hs, hw4, by omega, x04, by omega⟩ ?_
 intro w5 pw h5
 have hD := ahP hm
 unfold yS
 refine (aHZ h5.hw (by omega)).mono ?_
 rintro r w6 ⟨bytes, hh, ho, x6⟩
 refine ⟨bytes, r, rfl, hh, ⟨ho.1, ?_⟩, h5.hx.seq x6⟩
 have := h5.hx.size
 rcases ho.2 with h | ⟨b, c, rest, q1, q2, q3⟩
 .exact .inl h
 .exact .inr ⟨b, c, rest, q1, by omega, q3⟩
def axO (log : Int) (ns : List Nat) : Bool := decide (5 <= log /\ log <= 15 /\ ns.length <= 256 /\ 2 <= ns.countP kH /\ ns.countP kH <= 2 ^ log.toNat /\ ns.sum <= 2147483647)
theorem aFp {ov t4 : aLm} {log : Int} {ns : List Nat} {w : aLl} (hs : Sl w ov (ns.map fun (n : Nat) => Value.int .u32 n)) (hn : ∀ n ∈ ns, n <= 4294967295) (hl : ns.length <= 300) {RR : aLm -> aLl -> Prop}
 (hK : ∀ last, Sv ns ns.length last -> G9 RR ov (.int .i64 log) t4 (.int .u64 ns.sum) (.int .i64 (ns.countP kH : Nat)) (.int .i64 last) w) :
 GC RR ov (.int .i64 log) t4 (.int .u64 0) (.int .i64 0) (.int .i64 0) w := by
 unfold GC OH Oz
 obtain ⟨a, c, hv, hc⟩ := hs.len
 rw [aJb] at hv
 subst hv
 simp (disch := omega) only [aC, eE, aA]
 unfold OI OD
 refine cC.rule (fun m (t : aLm × aLm × aLm × aLm) w' => ∃ i last : Nat, m = ns.length - i /\ t = (.int .u64 (ns.take i).sum, .int .i64 ((ns.take i).countP kH : Nat), .int .i64 last, .int .i64 i) /\ i <= ns.length /\ Sv ns i last /\ last <= i /\ w' = w) ns.length
  ⟨0, 0, rfl, by simp, by omega, .inl ⟨rfl, fun j h => by omega⟩, by omega, rfl⟩ ?_
 rintro m t w1 ⟨i, last, rfl, rfl, hi, hla, hli, rfl⟩
 unfold GX Pf
 by_cases hlt : i < ns.length
 .have d1 : decide ((i : Int) < (ns.length : Int)) = true := by simp; omega
  obtain ⟨b, off, rfl, hcell⟩ := slA hs (by omega)
  have g1 := hcell i hlt
  rw [aJq, aI7 hlt, <- nT hlt] at g1
  simp only [aJL] at g1
  have hni : ns.getD i 0 <= 4294967295 := by rw [nT hlt]; exact hn _ (aJh hlt)
  have hsl := aBd (B := 4294967295) (l := ns.take i) fun n hn' => hn n (List.mem_of_mem_take hn')
  rw [aJg, aJS (by omega)] at hsl
  have hsl2 : i * 4294967295 <= 300 * 4294967295 := aJH _ (by omega)
  have hct : (ns.take i).countP kH <= i := by
   have := aKU (l := ns.take i) (p := kH)
   rw [aJg] at this; omega
  have hsum : (ns.take (i + 1)).sum = (ns.take i).sum + ns.getD i 0 := by rw [Re hlt, aK3]; simp
  have hcnt : (ns.take (i + 1)).countP kH = (ns.take i).countP kH + (if 0 < ns.getD i 0 then 1 else 0) := by
   rw [Re hlt, List.countP_append, List.countP_singleton]
   unfold kH; simp only [decide_eq_true_eq]
  have hstep := hla.step
  generalize ns.getD i 0 = n at *
  have e1 : (((ns.take i).sum : Nat) : Int) + (n : Int) = (((ns.take i).sum + n : Nat) : Int) := by omega
  by_cases h0 : 0 < n
  .have d2 : decide ((0 : Int) < (n : Int)) = true := by simp; omega
   rw [if_pos h0] at hcnt hstep
   unfold BP
   simp (disch := omega) only [aC, aW, d1, lW, aIY, bN, aT, aA, mB, g1, aG, kG, iI, dO, d2, aF, e1, and_true]
   exact ⟨ns.length - (i + 1), by omega, i + 1, i, rfl, by rw [hsum, hcnt] <;> rfl, by omega, hstep, by omega⟩
  .have d2 : decide ((0 : Int) < (n : Int)) = false := by simp; omega
   rw [if_neg h0] at hcnt hstep
   unfold BP
   simp (disch := omega) only [aC, aW, d1, lW, aIY, bN, aT, aA, mB, g1, aG, kG, iI, dO, d2, aD, e1, and_true, aF]
   exact ⟨ns.length - (i + 1), by omega, i + 1, last, rfl, by rw [hsum, hcnt] <;> rfl, by omega, hstep, by omega⟩
 .have d1 : decide ((i : Int) < (ns.length : Int)) = false := by simp; omega
  obtain rfl : i = ns.length := by omega
  rw [aJw (aI9 _)]
  simp (disch := omega) only [aC, aW, d1, bN, aA, aD]
  exact hK last hla
def agM (R S last i : Nat) (ns : List Nat) : List Nat := (ns.take i).map (tB R S) ++ List.replicate (last + 1 - i) 0
theorem UO {R S last i : Nat} {ns : List Nat} (h : i <= last + 1) (hl : last < ns.length) : (agM R S last i ns).length = last + 1 := by
 unfold agM; rw [aI8, aJb, aJg, aKm]; omega
theorem Zy {R S last i j : Nat} {ns : List Nat} (h : i <= last + 1) (hl : last < ns.length) (hj : j <= last) : (agM R S last i ns)[j]? = some (if j < i then tB R S (ns.getD j 0) else 0) := by
 unfold agM
 by_cases hji : j < i
 .rw [aJd (by rw [aJb, aJg]; omega), aJq, aJF hji, aI7 (by omega), if_pos hji, nT (by omega)] <;> rfl
 .rw [aJG (by rw [aJb, aJg]; omega), aKL, if_pos (by rw [aJb, aJg]; omega), if_neg hji]
theorem aAe {R S last i : Nat} {ns : List Nat} (h : i <= last) (hl : last < ns.length) : (agM R S last i ns).set i (tB R S (ns.getD i 0)) = agM R S last (i + 1) ns := by
 unfold agM
 have hm : ((ns.take i).map (tB R S)).length = i := by rw [aJb, aJg]; omega
 rw [aKE _ _ (by omega), hm, aKC, show last + 1 - i = (last + 1 - (i + 1)) + 1 from by omega, aJ3, aI2, Re (by omega), aJJ, aJc] <;> rfl
theorem aDe {R S last i : Nat} {ns : List Nat} (h : i <= last) (hl : last < ns.length) (h0 : ns.getD i 0 = 0) : agM R S last (i + 1) ns = agM R S last i ns := by
 rw [<- aAe h hl, h0]
 have hp : tB R S 0 = 0 := by simp [tB]
 rw [hp]
 apply aLa
 intro j
 rw [List.getElem?_set]
 split
 .rename_i hj
  subst hj
  rw [if_pos (by rw [UO (by omega) hl]; omega), Zy (by omega) hl h, if_neg (by omega)]
 .rfl
abbrev pnC (R S last i : Nat) (ns : List Nat) : List aLm := (agM R S last i ns).map fun (n : Nat) => Value.int .i64 n
theorem aE7 {pc pb log there last : Nat} {ov t4 : aLm} {ns : List Nat} {w : aLl} (hs : Sl w ov (ns.map fun (n : Nat) => Value.int .u32 n)) (hn : ∀ n ∈ ns, n <= 4294967295) (hl : last < ns.length) (hl2 : ns.length <= 256) (hlog : log <= 15) (hth : there <= 2 ^ log) (hS0 : 0 < ns.sum) (hS : ns.sum <= 2147483647)
 (hlast : 0 < ns.getD last 0) (oc : cM w pc [.int .i64 log, .slice (some ⟨pb, 0, none⟩) (last + 1) (last + 1)]) (ob : cM w pb (pnC (2 ^ log - there) ns.sum last 0 ns)) (hne : pc ≠ pb) (hat : ¬ inB ov (fun y => y = pb)) {RR : aLm -> aLl -> Prop}
 (hK : ∀ (left gr : Nat) w', left + ((ns.take (last + 1)).map (uS (2 ^ log - there) ns.sum)).sum = 2 ^ log - there -> gr <= last -> 0 < ns.getD gr 0 -> cM w' pb (pnC (2 ^ log - there) ns.sum last (last + 1) ns) -> aS w w' (fun y => y = pb) -> DT RR t4 (.pointer (some ⟨pc, 0, none⟩)) (.int .i64 left) (.int .i64 gr) w') :
 JT RR ov (.int .i64 log) t4 (.int .u64 ns.sum) (.int .i64 there) (.int .i64 last) (.pointer (some ⟨pc, 0, none⟩)) (.int .i64 (2 ^ log - there : Nat)) (.int .i64 last) w := by
 have hp15 : 2 ^ log <= 2 ^ 15 := aJa (by omega) hlog
 obtain ⟨a, c, hv, hc⟩ := hs.len
 rw [aJb] at hv hc
 subst hv
 obtain ⟨b0, off0, rfl, hcell⟩ := slA hs (by omega)
 have hsub : Sl w (.slice (some ⟨b0, off0, none⟩) (last + 1) c) ((ns.map fun (n : Nat) => Value.int .u32 n).take (last + 1)) := aFy hs (by omega)
 have hshl := awN (n := log) (by omega)
 generalize hR : 2 ^ log - there = R at *
 have hRl : R <= 32768 := by omega
 generalize hSe : ns.sum = S at *
 unfold JT RQ RF
 have e1 : (last : Int) + 1 = ((last + 1 : Nat) : Int) := by omega
 have e2 : kL (some ⟨b0, off0, none⟩) c 0 1 = some ⟨b0, off0, none⟩ := by have := aBn (b := b0) (o := off0) (m := c) (l := 0) (by omega); simpa using this
 simp (disch := omega) only [aC, bN, e1, aT, aA, rP, e2, aIY, aK6, eE]
 unfold Sn Rw
 have hmsum : ∀ i, i <= ns.length -> ((ns.take i).map (uS R S)).sum <= R := fun i hi => by
  refine ajZ ?_ hS0
  have : ns.sum = (ns.take i).sum + (ns.drop i).sum := by rw [<- aK3, aKs]
  omega
 refine cC.rule (fun m (t : aLm × aLm × aLm) w' => ∃ left gr i : Nat, m = last + 1 - i /\ t = (.int .i64 left, .int .i64 gr, .int .i64 i) /\ i <= last + 1 /\ left + ((ns.take i).map (uS R S)).sum = R /\ gr <= last /\ 0 < ns.getD gr 0 /\ cM w' pb (pnC R S last i ns) /\ aS w w' (fun y => y = pb)) (last + 1)
  ⟨R, last, 0, rfl, rfl, by omega, by simp, by omega, hlast, ob, aS.refl _ _⟩ ?_
 rintro m t w1 ⟨left, gr, i, rfl, rfl, hi, hleft, hgr, hgr0, ob1, x1⟩
 unfold JO Rp
 by_cases hlt : i < last + 1
 .have d1 : decide ((i : Int) < ((last + 1 : Nat) : Int)) = true := by simp only [decide_eq_true_eq]; omega
  have hs1 := hs.ext x1 hat
  obtain ⟨b1, off1, he, hcell1⟩ := slA hs1 (by omega)
  cases he
  have g1 := hcell1 i (by omega)
  rw [aJq, aI7 (by omega), <- nT (by omega)] at g1
  simp only [aJL] at g1
  have hni : ns.getD i 0 <= 4294967295 := by rw [nT (by omega)]; exact hn _ (aJh (by omega))
  have hmore : ((ns.take (i + 1)).map (uS R S)).sum = ((ns.take i).map (uS R S)).sum + uS R S (ns.getD i 0) := by rw [Re (by omega), aJJ, aK3]; simp
  have hml := hmsum (i + 1) (by omega)
  have hset := aAe (R := R) (S := S) (i := i) (by omega) hl
  have hzero := aDe (R := R) (S := S) (i := i) (by omega) hl
  have hgi := Zy (R := R) (S := S) (i := i + 1) (j := i) (by omega) hl (by omega)
  have hgg := Zy (R := R) (S := S) (i := i + 1) (j := gr) (by omega) hl hgr
  have hpl := UO (R := R) (S := S) (i := i) (by omega) hl
  rw [if_pos (by omega)] at hgi
  unfold JM
  generalize hgrv : (if gr < i + 1 then tB R S (ns.getD gr 0) else 0) = pv at *
  generalize hnv : ns.getD i 0 = n at *
  by_cases h0 : n = 0
  .subst h0
   have n1 : (((0 : Nat) : Int) == 0) = true := rfl
   have hm0 : uS R S 0 = 0 := by simp [uS]
   rw [hm0] at hmore
   simp (disch := omega) only [aC, aW, d1, lW, aIY, bN, aT, aA, mO, bC, aIZ, true_and, cF, dZ, fF, iI, mB, g1, aG, cK, n1, kG, pX, zX, cR, aF]
   exact ⟨last + 1 - (i + 1), by omega, left, gr, i + 1, rfl, rfl, by omega, by omega, hgr, hgr0, by unfold pnC; rw [hzero rfl]; exact ob1, x1⟩
  .have n1 : ((n : Int) == 0) = false := beq_eq_false_iff_ne.2 (by omega)
   have e3 : ((2 ^ log : Nat) : Int) - (there : Int) = (R : Int) := by omega
   have hnR : n * R <= 4294967295 * 32768 := Nat.mul_le_mul hni hRl
   have e4 : (n : Int) * (R : Int) = ((n * R : Nat) : Int) := by simp
   have e5 : ((n * R : Nat) : Int).tdiv (S : Int) = ((uS R S n : Nat) : Int) := by
    rw [aJs (by omega)]; unfold uS; simp
   have n2 : ((S : Int) == 0) = false := beq_eq_false_iff_ne.2 (by omega)
   have hp : tB R S n = 1 + uS R S n := by unfold tB uS; rw [if_neg h0]
   have hml2 : uS R S n <= R := by omega
   rw [hp] at hset hgi
   have c1 := (oc.ext x1 hne).cell (off := 1)
   simp only [aI0, aI1] at c1
   generalize uS R S n = q at *
   have e6 : (1 : Int) + (q : Int) = ((1 + q : Nat) : Int) := by omega
   have e7 : (left : Int) - (q : Int) = ((left - q : Nat) : Int) := by omega
   simp (disch := omega) only [aC, aW, d1, lW, aIY, bN, aT, aA, mO, hshl, bC, aIZ, true_and, cF, dZ, e3, fF, iI, mB, g1, aG, cK, n1, kG, pX, e4, zX, e5, cR, e6, c1, dB, aD, aF]
   refine vP ob1 rfl (by rw [aJb, hpl]; omega) fun w2 ob2 x2 s2 => ?_
   have hset2 : (pnC R S last i ns).set i (.int .i64 (1 + q : Nat)) = pnC R S last (i + 1) ns := by unfold pnC; rw [<- hset, aKD]
   rw [hset2] at ob2
   have x12 := x1.seq x2
   have c2 := (oc.ext x12 hne).cell (off := 1)
   have c2d := (dT (oc.ext x12 hne)).cell (off := 1)
   simp only [aI0, aI1] at c2 c2d
   have f1 := (dT ob2).cell (off := i)
   have f2 := (dT ob2).cell (off := gr)
   unfold pnC at f1 f2
   rw [aJq, hgi] at f1
   rw [aJq, hgg] at f2
   simp only [aJL] at f1 f2
   have hpv : pv <= 1 + R := by
    rw [<- hgrv]
    split
    .unfold tB
     split
     .omega
     .have h1 : uS R S (ns.getD gr 0) <= R := by
       refine aJ7 ?_ (hmsum ns.length (aI9 _))
       rw [aJw (aI9 _)]
       have : uS R S (ns.getD gr 0) ∈ ns.map (uS R S) := aJO.2 ⟨_, by rw [nT (by omega)]; exact aJh _, rfl⟩
       exact avT this
      unfold uS at h1
      omega
    .omega
   have x13 : aS w (dr w2) (fun y => y = pb) := x12.seq (aS.dr _ _)
   by_cases hbig : pv < 1 + q
   .have d2 : decide ((pv : Int) < ((1 + q : Nat) : Int)) = true := by simp only [decide_eq_true_eq]; omega
    simp (disch := omega) only [c2d, aG, e7, aA, dB, aIY, aIZ, bZ, f2, true_and, f1, dO, d2, aF]
    exact ⟨last + 1 - (i + 1), by omega, left - q, i, i + 1, rfl, rfl, by omega, by omega, by omega, by omega, dT ob2, x13⟩
   .have d2 : decide ((pv : Int) < ((1 + q : Nat) : Int)) = false := by simp only [decide_eq_false_iff_not]; omega
    simp (disch := omega) only [c2d, aG, e7, aA, dB, aIY, aIZ, bZ, f2, true_and, f1, dO, d2, aD]
    exact ⟨last + 1 - (i + 1), by omega, left - q, gr, i + 1, rfl, rfl, by omega, by omega, hgr, hgr0, dT ob2, x13⟩
 .have d1 : decide ((i : Int) < ((last + 1 : Nat) : Int)) = false := by simp only [decide_eq_false_iff_not]; omega
  obtain rfl : i = last + 1 := by omega
  simp (disch := omega) only [aC, aW, d1, mO, aIY, bC, aIZ, true_and, aA, cF, dZ, aT, fF, iI, aD]
  exact hK left gr w1 hleft hgr hgr0 ob1 x1
theorem arF {p4 : Nat} {w0 w : aLl} (o4 : cM w p4 [.int .i64 0, .slice none 0 0]) (hx : aS w0 w cI) (hp : w0.heap.size <= p4) {RR : aLm -> aLl -> Prop}
 (hR : ∀ w', aS w0 w' cI -> RR (.tuple #[.agg #[.int .i64 0, .slice none 0 0], .int .i64 1]) w') :
 aC pg (aK 145 (.pointer (some ⟨p4, 0, none⟩)) (.agg #[.int .i64 0, .slice none 0 0])) w fun _u w => mW pg 145 (.pointer (some ⟨p4, 0, none⟩)) w fun r0 => RR (.tuple #[r0, .int .i64 1]) w := by
 refine fN o4 rfl (by simp [one]) (by simp) fun w6 o6 x6 s6 => ?_
 refine nF o6 (by simp [aV]) ?_
 simp only [aV, aI2, aI3, aI4, aIX, aI6]
 exact hR _ (hx.new x6 hp)
def aEh (w : aLl) (base : Nat) (log : Int) (ns : List Nat) (r : aLm) : Prop :=
 (axO log ns = false /\ r = .tuple #[.agg #[.int .i64 0, .slice none 0 0], .int .i64 1]) ∨
 (axO log ns = true /\ ∃ (l last pb : Nat) (ps : List Nat), log = l /\ Sv ns ns.length last /\ TO l (ps.map fun (n : Nat) => (n : Int)) /\ ps.length = last + 1 /\ last < ns.length /\ (∀ i, i < last + 1 -> (0 < ps.getD i 0 ↔ 0 < ns.getD i 0)) /\
  r = .tuple #[.agg #[.int .i64 l, .slice (some ⟨pb, 0, none⟩) (last + 1) (last + 1)], .int .i64 0] /\ base <= pb /\ cM w pb (ps.map fun (n : Nat) => Value.int .i64 n))
theorem apZ {ov : aLm} {log : Int} {ns : List Nat} {w : aLl} (hs : Sl w ov (ns.map fun (n : Nat) => Value.int .u32 n)) (hn : ∀ n ∈ ns, n <= 4294967295) (hl : ns.length <= 300) :
 aR pg Ds #[ov, .int .i64 log] w (fun r w' => aEh w' w.heap.size log ns r /\ aS w w' cI) := by
 refine arU ?_
 obtain ⟨RR, hRR⟩ : ∃ RR : aLm -> aLl -> Prop, RR = fun r w' => aEh w' w.heap.size log ns r /\ aS w w' cI := ⟨_, rfl⟩
 rw [<- hRR]
 have bad : axO log ns = false -> ∀ w', aS w w' cI -> RR (.tuple #[.agg #[.int .i64 0, .slice none 0 0], .int .i64 1]) w' := fun h w' hx => by
  rw [hRR]; exact ⟨.inl ⟨h, rfl⟩, hx⟩
 unfold auP NS Pg
 refine kI fun w1 o1 x1 s1 => ?_
 have z1 := x1.size
 have hs1 := hs.ext x1 (bU _)
 refine aFp hs1 hn hl fun last hlast => ?_
 unfold G9 Oe
 obtain ⟨a, c, hv, hc⟩ := hs.len
 rw [aJb] at hv hc
 subst hv
 have no : ¬ (5 <= log /\ log <= 15 /\ ns.length <= 256 /\ 2 <= ns.countP kH /\ ns.countP kH <= 2 ^ log.toNat /\ ns.sum <= 2147483647) -> axO log ns = false := fun h => by unfold axO; exact decide_eq_false h
 have hcl : ns.countP kH <= ns.length := aKU
 have hsl := aBd (B := 4294967295) hn
 have hsl2 : ns.length * 4294967295 <= 300 * 4294967295 := aJH _ (by omega)
 by_cases h1 : log < 5
 .have d1 : decide (log < 5) = true := by simpa using h1
  simp (disch := omega) only [aC, aW, d1, dF, aA, bN, jH, bM, if_true, aF, dH]
  exact arF (RR := RR) o1 x1 (aI9 _) (bad (no (by omega)))
 have d1 : decide (log < 5) = false := by simpa using h1
 by_cases h2 : 15 < log
 .have d2 : decide (15 < log) = true := by simpa using h2
  simp (disch := omega) only [aC, aW, d1, dF, aA, bN, mO, dZ, dG, bM, aI5, if_false, bP, dO, d2, jH, if_true, aF, dH]
  exact arF (RR := RR) o1 x1 (aI9 _) (bad (no (by omega)))
 have d2 : decide (15 < log) = false := by simpa using h2
 by_cases h3 : ns.length < 1
 .have d3 : decide ((ns.length : Int) < 1) = true := by simp; omega
  simp (disch := omega) only [aC, aW, d1, dF, aA, bN, mO, dZ, dG, bM, aI5, if_false, bP, dO, d2, eE, d3, jH, if_true, aF, dH]
  exact arF (RR := RR) o1 x1 (aI9 _) (bad (no (by omega)))
 have d3 : decide ((ns.length : Int) < 1) = false := by simp; omega
 by_cases h4 : 256 < ns.length
 .have d4 : decide ((256 : Int) < (ns.length : Int)) = true := by simp; omega
  simp (disch := omega) only [aC, aW, d1, dF, aA, bN, mO, dZ, dG, bM, aI5, if_false, bP, dO, d2, eE, d3, d4, jH, if_true, aF, dH]
  exact arF (RR := RR) o1 x1 (aI9 _) (bad (no (by omega)))
 have d4 : decide ((256 : Int) < (ns.length : Int)) = false := by simp; omega
 by_cases h5 : ns.countP kH < 2
 .have d5 : decide (((ns.countP kH : Nat) : Int) < 2) = true := by simp only [decide_eq_true_eq]; omega
  simp (disch := omega) only [aC, aW, d1, dF, aA, bN, mO, dZ, dG, bM, aI5, if_false, bP, dO, d2, eE, d3, d4, d5, jH, if_true, aF, dH]
  exact arF (RR := RR) o1 x1 (aI9 _) (bad (no (by omega)))
 have d5 : decide (((ns.countP kH : Nat) : Int) < 2) = false := by simp only [decide_eq_false_iff_not]; omega
 obtain ⟨l, rfl⟩ : ∃ l : Nat, log = l := ⟨log.toNat, by omega⟩
 have hshl := awN (n := l) (by omega)
 have hp15 : 2 ^ l <= 2 ^ 15 := aJa (by omega) (by omega)
 rw [aIY] at no
 by_cases h6 : 2 ^ l < ns.countP kH
 .have d6 : decide (((2 ^ l : Nat) : Int) < ((ns.countP kH : Nat) : Int)) = true := by simp only [decide_eq_true_eq]; omega
  simp (disch := omega) only [aC, aW, d1, dF, aA, bN, mO, aIY, hshl, dZ, dG, bM, aI5, if_false, bP, dO, d2, eE, d3, d4, d5, d6, jH, if_true, aF, dH]
  exact arF (RR := RR) o1 x1 (aI9 _) (bad (no (by omega)))
 have d6 : decide (((2 ^ l : Nat) : Int) < ((ns.countP kH : Nat) : Int)) = false := by simp only [decide_eq_false_iff_not]; omega
 by_cases h7 : 2147483647 < ns.sum
 .have d7 : decide ((2147483647 : Int) < ((ns.sum : Nat) : Int)) = true := by simp only [decide_eq_true_eq]; omega
  simp (disch := omega) only [aC, aW, d1, dF, aA, bN, mO, aIY, hshl, dZ, aT, dG, bM, aI5, if_false, bP, dO, d2, eE, d3, d4, d5, d6, d7, aF]
  exact arF (RR := RR) o1 x1 (aI9 _) (bad (no (by omega)))
 have d7 : decide ((2147483647 : Int) < ((ns.sum : Nat) : Int)) = false := by simp only [decide_eq_false_iff_not]; omega
 have hok : axO (l : Int) ns = true := by unfold axO; rw [aIY]; exact decide_eq_true (by omega)
 have hl2 : last < ns.length /\ 0 < ns.getD last 0 := by
  rcases hlast with ⟨rfl, h⟩ | ⟨q1, q2, _⟩
  .exfalso
   have : ns.countP kH = 0 := Dq fun n hn => by
    obtain ⟨i, hi, rfl⟩ := aJy hn
    rw [<- nT hi]; exact h i hi
   omega
  .exact ⟨q1, q2⟩
 have hS0 : 0 < ns.sum := by
  have := avT (l := ns) (n := ns.getD last 0) (by rw [nT hl2.1]; exact aJh _)
  omega
 have e1 : (last : Int) + 1 = ((last + 1 : Nat) : Int) := by omega
 simp (disch := omega) only [aC, aW, d1, dF, aA, bN, e1, aT, mO, aIY, hshl, dZ, dG, bM, aI5, if_false, bP, dO, d2, eE, d3, d4, d5, d6, d7, aD]
 refine atY (by omega) (by omega) fun w2 o2 x2 s2 => ?_
 rw [aIY] at o2 ⊢
 simp (disch := omega) only [iS, aA]
 refine kI fun w3 o3 x3 s3 => ?_
 refine fN o3 rfl (by simp [one]) (by simp) fun w4 o4 x4 s4 => ?_
 simp only [aV, aI2, aI3] at o4
 have z2 := x2.size
 have z3 := x3.size
 have x14 : aS w1 w4 cI := (x2.seq x3).new x4 (by omega)
 have e2 : ((2 ^ l : Nat) : Int) - ((ns.countP kH : Nat) : Int) = ((2 ^ l - ns.countP kH : Nat) : Int) := by omega
 have l2 := o2.lt
 have hpb : pnC (2 ^ l - ns.countP kH) ns.sum last 0 ns = List.replicate (last + 1) (Value.int .i64 0) := by
  unfold pnC agM
  simp [aK7]
 have ob4 : cM w4 w1.heap.size (pnC (2 ^ l - ns.countP kH) ns.sum last 0 ns) := by
  rw [hpb]; exact (o2.ext x3 (fun h => h)).ext x4 (by omega)
 simp (disch := omega) only [e2]
 refine aE7 (pc := w2.heap.size) (pb := w1.heap.size) (hs1.ext x14 (bU _)) hn hl2.1 (by omega) (by omega) (by omega) hS0 (by omega) hl2.2 o4 ob4 (by omega) (fun h => hs.old (aAf h fun b hb => by omega)) fun left gr w5 hleft hgr hgr0 ob5 x5 => ?_
 unfold DT
 have o45 := o4.ext x5 (by omega)
 have c5 := o45.cell (off := 1)
 simp only [aI0, aI1] at c5
 have hgg := Zy (R := 2 ^ l - ns.countP kH) (S := ns.sum) (i := last + 1) (j := gr) (by omega) hl2.1 hgr
 rw [if_pos (by omega)] at hgg
 have f1 := ob5.cell (off := gr)
 unfold pnC at f1
 rw [aJq, hgg] at f1
 simp only [aJL] at f1
 obtain ⟨hmay, hofl, _, hiff⟩ := aHd (log := l) (there := ns.countP kH) (left := left) (gr := gr) (by omega) (by omega) (by omega) rfl (by omega) (by omega) hlast hgr hgr0 hleft
 have hpq : agM (2 ^ l - ns.countP kH) ns.sum last (last + 1) ns = (ns.take (last + 1)).map (tB (2 ^ l - ns.countP kH) ns.sum) := by
  unfold agM; rw [aKC]; simp
 have hgd : ((ns.take (last + 1)).map (tB (2 ^ l - ns.countP kH) ns.sum)).getD gr 0 = tB (2 ^ l - ns.countP kH) ns.sum (ns.getD gr 0) := by
  rw [hpq] at hgg
  rw [aJe, hgg] <;> rfl
 have hset : (pnC (2 ^ l - ns.countP kH) ns.sum last (last + 1) ns).set gr (.int .i64 (tB (2 ^ l - ns.countP kH) ns.sum (ns.getD gr 0) + left : Nat)) = (B4 l (ns.countP kH) ns.sum last gr left ns).map fun (n : Nat) => Value.int .i64 n := by
  unfold pnC B4
  rw [hpq, hgd, aKD]
 have hpl := UO (R := 2 ^ l - ns.countP kH) (S := ns.sum) (i := last + 1) (by omega) hl2.1
 have hpb : tB (2 ^ l - ns.countP kH) ns.sum (ns.getD gr 0) + left <= 70000 := by
  have hq := ajZ (R := 2 ^ l - ns.countP kH) (S := ns.sum) (l := ns) (aI9 _) hS0
  have hq2 := avT (n := uS (2 ^ l - ns.countP kH) ns.sum (ns.getD gr 0)) (l := ns.map (uS (2 ^ l - ns.countP kH) ns.sum)) (aJO.2 ⟨_, by rw [nT (by omega)]; exact aJh _, rfl⟩)
  have hq3 : tB (2 ^ l - ns.countP kH) ns.sum (ns.getD gr 0) <= 1 + uS (2 ^ l - ns.countP kH) ns.sum (ns.getD gr 0) := by
   unfold tB uS
   split
   .exact aJW _
   .exact aI9 _
  omega
 generalize tB (2 ^ l - ns.countP kH) ns.sum (ns.getD gr 0) = pv at *
 have e3 : (pv : Int) + (left : Int) = ((pv + left : Nat) : Int) := by omega
 simp (disch := omega) only [aC, bC, aIZ, aA, cF, c5, aG, dB, aIY, bZ, f1, bN, e3, aT]
 refine vP ob5 rfl (by rw [aJb, hpl]; omega) fun w6 ob6 x6 s6 => ?_
 rw [hset] at ob6
 have o46 := o45.ext x6 (by omega)
 have lc := gX (off := 0) o46 (by simp)
 simp only [aI4, aIX, aI6] at lc
 have o16 := ((o1.ext x14 (fun h => h)).ext x5 (by omega)).ext x6 (by omega)
 simp (disch := omega) only [lc, aA]
 refine fN o16 rfl (by simp [one]) (by simp) fun w7 o7 x7 s7 => ?_
 refine nF o7 (by simp [aV]) ?_
 simp only [aV, aI2, aI3, aI4, aIX, aI6]
 rw [hRR]
 refine ⟨.inr ⟨hok, l, last, w1.heap.size, _, rfl, hlast, hmay, hofl, hl2.1, hiff, rfl, z1, ob6.ext x7 (by omega)⟩, ?_⟩
 have x06 : aS w w6 cI := ((x1.seq x14).trans x5 fun b hb h => by omega).trans x6 fun b hb h => by omega
 exact x06.new x7 (aI9 _)
abbrev cN (S : List Int) : List aLm := (MX S).map fun (n : Nat) => Value.int .u32 n
abbrev aFH : aLm := .agg #[.int .i64 0, .slice none 0 0]
theorem aHg {S : List Int} {c : Nat} (h : c < 256) : (cN S)[c]? = some (.int .u32 (S.count (c : Int) : Nat)) := by
 rw [aJq, aI7 (by rw [sZ]; exact h), <- nT, VN h] <;> rfl
theorem aG5 {S : List Int} {c : Nat} (h : c < 256) : (cN S).set c (.int .u32 ((S.count (c : Int) + 1 : Nat))) = cN (S ++ [(c : Int)]) := by
 show _ = (MX (S ++ [(c : Int)])).map _
 rw [ayP h, aKD]
theorem auO {p : Nat} {w0 w : aLl} {x : Int} {a : Option Addr} {k c : Nat} {n e f : aLm} (o : cM w p [.int .i64 0, .slice none 0 0]) (hx : aS w0 w cI) (hp : w0.heap.size <= p) {RR : aLm -> aLl -> Prop}
 (hR : ∀ w', aS w0 w' cI -> aS w w' (fun y => y = p) -> RR (.tuple #[.agg #[.int .i64 x, .slice a k c], n, e, f]) w') :
 aC pg (aK 27 (.pointer (some ⟨p, 0, none⟩)) (.agg #[.int .i64 x, .slice a k c])) w fun _u w => mW pg 27 (.pointer (some ⟨p, 0, none⟩)) w fun r0 => RR (.tuple #[r0, n, e, f]) w := by
 refine eL o rfl (by simp [one]) (by simp) fun w6 o6 x6 s6 => ?_
 refine sL o6 (by simp [aV]) ?_
 simp only [aV, aI2, aI3, aI4, aIX, aI6]
 exact hR _ (hx.new x6 hp) x6
theorem aG1 {a : Int} {lv : aLm} {l : List Int} {p4 po : Nat} {last : Int} {w0 w : aLl} (hs : Sl w0 lv (l.map (Value.int .i64))) (hx : aS w0 w cI) (hp4 : w0.heap.size <= p4) (hpo : w0.heap.size <= po) (hne : p4 ≠ po)
 (o4 : cM w p4 [.int .i64 0, .slice none 0 0]) (oo : cM w po (cN [])) (hl0 : 0 <= last) (hl1 : last <= 60) (hlen : l.length <= 131072) {RR : aLm -> aLl -> Prop} {kn : aLm -> aLm -> aLm -> aLm -> aLm -> aLm -> aLl -> Prop}
 (hbad : (∃ x ∈ l, ¬ (0 <= x /\ x <= last)) -> ∀ w', aS w0 w' cI -> RR (.tuple #[aFH, .int .i64 0, .slice none 0 0, .int .i64 1]) w')
 (hK : (∀ x ∈ l, 0 <= x /\ x <= last) -> ∀ w', cM w' p4 [.int .i64 0, .slice none 0 0] -> cM w' po (cN l) -> aS w0 w' cI →
  kn (.int .i64 a) lv (.pointer (some ⟨p4, 0, none⟩)) (.pointer (some ⟨po, 0, none⟩)) (.int .i64 ((MX l).countP kH : Nat)) (.int .i64 (gmx l)) w') :
 A8 kn RR (.int .i64 a) lv (.pointer (some ⟨p4, 0, none⟩)) (.int .i64 last) (.pointer (some ⟨po, 0, none⟩)) (.int .i64 0) (.int .i64 0) w := by
 unfold A8 Ga
 obtain ⟨la, lc, rfl, _⟩ := hs.lenI
 simp (disch := omega) only [aC, dU, aA]
 unfold Fy FF
 refine cC.rule (fun m (t : aLm × aLm × aLm) w' => ∃ i : Nat, m = l.length - i /\ t = (.int .i64 ((MX (l.take i)).countP kH : Nat), .int .i64 (gmx (l.take i)), .int .i64 i) /\ i <= l.length /\ (∀ x ∈ l.take i, 0 <= x /\ x <= last) /\
  cM w' po (cN (l.take i)) /\ aS w w' (fun y => y = po)) l.length ⟨0, rfl, ?_, by omega, by simp, by rw [aI6]; exact oo, aS.refl _ _⟩ ?_
 .rw [aI6, avL, Dq (fun n hn => aKK hn)] <;> rfl
 rintro m t w1 ⟨i, rfl, rfl, hi, hok, o1, x1⟩
 have x01 : aS w0 w1 cI := hx.new x1 hpo
 have z1 := x01.size
 have o41 := o4.ext x1 (by omega)
 unfold A3 Gj
 by_cases hlt : i < l.length
 .have d1 : decide ((i : Int) < (l.length : Int)) = true := by simp; omega
  obtain ⟨lb, off, rfl, hcell⟩ := slA (hs.ext x01 (bU _)) (by omega)
  have g1 := hcell i hlt
  rw [aJq, aI7 hlt] at g1
  simp only [aJL] at g1
  have hmem : l[i] ∈ l := aJh hlt
  have htk : l.take (i + 1) = l.take i ++ [l[i]] := by rw [aJE, aI7 hlt] <;> rfl
  generalize l[i] = x at *
  unfold FQ Gk PN Gq
  by_cases h0 : x < 0
  .have d2 : decide (x < 0) = true := by simpa using h0
   simp (disch := omega) only [aC, aW, d1, dB, aIY, eT, aA, bN, bZ, g1, aG, d2, jH, bM, if_true, aF, dH]
   exact auO o41 x01 hp4 fun w' x' _ => hbad ⟨x, hmem, by omega⟩ w' x'
  have d2 : decide (x < 0) = false := by simpa using h0
  by_cases h1 : last < x
  .have d3 : decide (last < x) = true := by simpa using h1
   simp (disch := omega) only [aC, aW, d1, dB, aIY, eT, aA, bN, bZ, g1, aG, d2, dG, bM, aI5, if_false, bP, dO, d3, aF]
   exact auO o41 x01 hp4 fun w' x' _ => hbad ⟨x, hmem, by omega⟩ w' x'
  have d3 : decide (last < x) = false := by simpa using h1
  obtain ⟨c, rfl⟩ : ∃ c : Nat, x = c := ⟨x.toNat, by omega⟩
  have f1 := o1.cell (off := c)
  rw [aHg (by omega)] at f1
  have hcnt : (l.take i).count (c : Int) <= i := by
   have := aLk (a := (c : Int)) (l := l.take i)
   rw [aJg] at this; omega
  have hset := aG5 (S := l.take i) (c := c) (by omega)
  have hon : (MX (l.take (i + 1))).countP kH = (MX (l.take i)).countP kH + if (l.take i).count (c : Int) = 0 then 1 else 0 := by
   rw [htk, ayP (by omega), Y2 (by rw [sZ]; omega) (by omega), VN (by omega)]
  have hgm : gmx (l.take (i + 1)) = max (gmx (l.take i)) (c : Int) := by rw [htk, aFz]
  have hok' : ∀ x ∈ l.take (i + 1), 0 <= x /\ x <= last := by
   rw [htk]; intro x hx'
   rcases aKk.1 hx' with h | h
   .exact hok x h
   .rw [aKf.1 h]; omega
  have hcb : (MX (l.take i)).countP kH <= 256 := by
   have := aKU (l := MX (l.take i)) (p := kH)
   rw [sZ] at this; exact this
  have hgm2 : max (gmx (l.take i)) (c : Int) = if (c : Int) > gmx (l.take i) then (c : Int) else gmx (l.take i) := by omega
  rw [hgm2] at hgm
  rw [<- htk] at hset
  generalize (l.take i).count (c : Int) = q at *
  generalize hG : gmx (l.take i) = G at *
  generalize hG2 : gmx (l.take (i + 1)) = G2 at *
  have e1 : (q : Int) + 1 = ((q + 1 : Nat) : Int) := by omega
  simp (disch := omega) only [aC, aW, d1, dB, aIY, eT, aA, bN, aT, bZ, g1, aG, d2, rW, aIZ, mB, dG, bM, aI5, if_false, bP, dO, d3, f1, e1, Qe, aD, aF]
  refine FT o1 rfl (by rw [aJb, sZ]; omega) fun w2 o2 x2 s2 => ?_
  rw [hset] at o2
  have f2 := o2.cell (off := c)
  have f2' : (cN (l.take (i + 1)))[c]? = some (.int .u32 ((q + 1 : Nat))) := by
   rw [<- hset, List.getElem?_set_self (by rw [aJb, sZ]; omega)]
  rw [f2'] at f2
  have x12 : aS w w2 (fun y => y = po) := x1.seq x2
  unfold Bf A7
  by_cases hq : q = 0
  .have n1 : (((q + 1 : Nat) : Int) == 1) = true := by rw [hq] <;> rfl
   rw [if_pos hq] at hon
   simp (disch := omega) only [f2, aG, aC, Vf, bN, aT, aA, cK, n1, aF]
   refine ⟨l.length - (i + 1), by omega, i + 1, rfl, ?_, by omega, hok', o2, x12⟩
   rw [hon, hG2, hgm] <;> rfl
  .have n1 : (((q + 1 : Nat) : Int) == 1) = false := beq_eq_false_iff_ne.2 (by omega)
   rw [if_neg hq] at hon
   simp (disch := omega) only [f2, aG, aC, Vf, bN, aT, aA, cK, n1, aD]
   refine ⟨l.length - (i + 1), by omega, i + 1, rfl, ?_, by omega, hok', o2, x12⟩
   rw [hon, hG2, hgm] <;> rfl
 .have d1 : decide ((i : Int) < (l.length : Int)) = false := by simp; omega
  obtain rfl : i = l.length := by omega
  rw [aJw (aI9 _)] at *
  simp (disch := omega) only [aC, aW, d1, aA, aD]
  exact hK hok w1 o41 o1 x01
structure Xk (a : Int) (l : List Int) (mode : Int) (lg : Nat) (L : List T3) (bytes : List UInt8) : Prop where
 mode0 : 0 <= mode
 mode2 : mode <= 2
 read : ∀ T more, gY a mode (bytes ++ more) T = .ok ((lg, L), bytes.length)
 has : ∀ x ∈ l, ∃ e ∈ L, e.1 = x
 one : (∀ x ∈ l, ∀ y ∈ l, x = y) -> mode = 1 /\ L.length = 1
 len1 : mode = 1 -> bytes.length = 1
 tab : (∃ ps, TO lg ps /\ L = lQ lg ps) ∨ ∃ c : Int, 0 <= c /\ c <= 60 /\ lg = 0 /\ L = [(c, 0, 0)]
 log9 : lg <= 9
 blen : bytes.length <= 1000
theorem Xk.len {a : Int} {l : List Int} {mode : Int} {lg : Nat} {L : List T3} {bytes : List UInt8} (h : Xk a l mode lg L bytes) : L.length <= 512 := by
 rcases h.tab with ⟨ps, hm, rfl⟩ | ⟨c, _, _, rfl, rfl⟩
 .rw [kN]; exact aJa (by omega) h.log9
 .simp
theorem aHh {a : Int} (h : 0 <= a /\ a <= 2) : (∀ x ∈ gvP a, x ≠ 0) /\ YC a <= 6 /\ (gvP a).length <= 53 := by
 rcases (show a = 0 ∨ a = 1 ∨ a = 2 by omega) with rfl | rfl | rfl <;> decide
theorem ayG {a : Int} (h : 0 <= a /\ a <= 2) : 8 <= D1 a /\ D1 a <= 9 := by
 rcases (show a = 0 ∨ a = 1 ∨ a = 2 by omega) with rfl | rfl | rfl <;> decide
theorem aEW {a : Int} {l : List Int} {c : Nat} (ha : 0 <= a /\ a <= 2) (hc : (c : Int) <= pP a) (hc2 : c < 256) (h : ∀ x ∈ l, x = (c : Int)) : Xk a l 1 0 [((c : Nat), 0, 0)] [UInt8.ofNat c] := by
 have hcc : ((UInt8.ofNat c).toNat : Nat) = c := by simp; omega
 have := MM ha
 refine ⟨by omega, by omega, fun T more => ?_, fun x hx => ⟨_, aKf.2 rfl, (h x hx).symm⟩, fun _ => ⟨rfl, rfl⟩, fun _ => rfl, .inr ⟨_, by omega, by omega, rfl, rfl⟩, by omega, by simp⟩
 unfold gY
 rw [if_neg (by omega), if_neg (by omega), if_pos rfl]
 show (if pP a < ((UInt8.ofNat c).toNat : Int) then _ else _) = _
 rw [hcc, if_neg (by omega)] <;> rfl
theorem aBx {a : Int} {l : List Int} (ha : 0 <= a /\ a <= 2) (h : ∀ x ∈ l, 0 <= x /\ x < ((gvP a).length : Nat)) (h1 : ¬ (∀ x ∈ l, ∀ y ∈ l, x = y)) : Xk a l 0 (YC a) (lQ (YC a) (gvP a)) [] := by
 obtain ⟨hnz, hl6, _⟩ := aHh ha
 have hm := aoY (a := a) (by omega)
 refine ⟨by omega, by omega, fun T more => ?_, fun x hx => ?_, fun h => absurd h h1, fun h => by omega, .inl ⟨_, hm, rfl⟩, by omega, by simp⟩
 .unfold gY
  rw [if_neg (by omega), if_pos rfl] <;> rfl
 .obtain ⟨h0, h2⟩ := h x hx
  obtain ⟨c, rfl⟩ : ∃ c : Nat, x = c := ⟨x.toNat, by omega⟩
  obtain ⟨i, hi, e⟩ := aqI hm (s := c) (by omega) (hnz _ (aJh _))
  exact ⟨_, aJh hi, e⟩
theorem aDE {a : Int} {l : List Int} {lg : Nat} {ps : List Int} {bytes : List UInt8} (ha : 0 <= a /\ a <= 2) (hm : TO lg ps) (hh : agA (JA lg ps) bytes) (hlg : (lg : Int) = D1 a) (hps : (ps.length : Int) <= pP a + 1) (h : ∀ x ∈ l, ∃ c : Nat, x = c /\ ∃ h : c < ps.length, ps[c] ≠ 0) (h1 : ¬ (∀ x ∈ l, ∀ y ∈ l, x = y)) :
 Xk a l 2 lg (lQ lg ps) bytes := by
 have hmo := ayG ha
 have hla := MM ha
 have hD := ahP hm
 have hb := hh.len
 refine ⟨by omega, by omega, fun T more => ?_, fun x hx => ?_, fun h => absurd h h1, fun h => by omega, .inl ⟨_, hm, rfl⟩, by omega, by omega⟩
 .unfold gY
  rw [if_neg (by omega), if_neg (by omega), if_neg (by omega), if_neg (by omega), JN, hh.bits, aJc, aGp hm (by omega) (by omega)]
  show Except.ok _ = Except.ok _
  rw [hb]
 .obtain ⟨c, rfl, hc, hn⟩ := h x hx
  obtain ⟨i, hi, e⟩ := aqI hm (s := c) hc hn
  exact ⟨_, aJh hi, e⟩
def ZP (a : Int) (l : List Int) : Prop := (0 <= a /\ a <= 2) /\ l ≠ [] /\ ∀ x ∈ l, 0 <= x /\ x <= pP a
theorem aHp {a : Int} {l : List Int} {p4 po : Nat} {g : Nat} {w0 w : aLl} (hx : aS w0 w cI) (hg : vW w0) (hp4 : w0.heap.size <= p4) (hpo : w0.heap.size <= po) (hne : p4 ≠ po)
 (o4 : cM w p4 [.int .i64 0, .slice none 0 0]) (oo : cM w po (cN l)) (ha : 0 <= a /\ a <= 2) (hlen : l.length <= 131072) (hok : ∀ x ∈ l, 0 <= x /\ x <= pP a) (hgm : gmx l = g) (hcnt : 2 <= (MX l).countP kH) {RR : aLm -> aLl -> Prop}
 (hK : ∀ w' mode lg L bytes t v, F3 w' w0.heap.size (lg, L) t -> uD w' w0.heap.size 1 v bytes.length (bytes.map KY) -> Xk a l mode lg L bytes -> aS w0 w' cI -> RR (.tuple #[t, .int .i64 mode, v, .int .i64 0]) w') :
 yY RR (.int .i64 a) (.pointer (some ⟨p4, 0, none⟩)) (.pointer (some ⟨po, 0, none⟩)) (.int .i64 g) w := by
 have hmo := ayG ha
 have hla := MM ha
 obtain ⟨last, hlast⟩ : ∃ n : Nat, pP a = n := ⟨(pP a).toNat, by omega⟩
 obtain ⟨g', hg', hgl, hnl, hget, hle, hct⟩ := aCg (S := l) (n := last) (by omega) (fun x hx => by have := hok x hx; omega)
 obtain rfl : g = g' := by omega
 obtain ⟨ns, hns⟩ : ∃ ns, ns = (MX l).take (g + 1) := ⟨_, rfl⟩
 rw [<- hns] at hnl hget hct
 have hsum : ns.sum <= 131072 := by rw [hns]; have := axK l (g + 1) (by omega); omega
 have hmem : ∀ n ∈ ns, n <= 4294967295 := fun n hn => by
  rw [hns] at hn
  have := aHG l n (List.mem_of_mem_take hn); omega
 have hc53 : ns.countP kH <= 256 := by have := aKU (l := ns) (p := kH); omega
 have hp8 : 2 ^ 8 <= 2 ^ (D1 a).toNat := aJa (by omega) (by omega)
 have hofOk : axO (D1 a) ns = true := by
  unfold axO
  exact decide_eq_true ⟨by omega, by omega, by omega, by omega, by omega, by omega⟩
 have hno1 : ¬ (∀ x ∈ l, ∀ y ∈ l, x = y) := fun h => by
  cases l with
  | nil => rw [avL, Dq (fun n hn => aKK hn)] at hcnt; omega
  | cons y l =>
    have hy := hok y (aJ6 ..)
    have := aCa (S := y :: l) (c := y.toNat) (by omega) (fun x hx => by have := h x hx y (aJ6 ..); omega) (by simp)
    omega
 have hsh : xX ⟨po, 0, none⟩ 256 0 1 = ⟨po, 0, none⟩ := FI (by decide)
 have e1 : (g : Int) + 1 = ((g + 1 : Nat) : Int) := by omega
 have hsl : ∀ w', cM w' po (cN l) -> Sl w' (.slice (some ⟨po, 0, none⟩) (g + 1) 256) (ns.map fun (n : Nat) => Value.int .u32 n) := fun w' o => by
  refine ⟨_, _, _, rfl, by rw [aJb]; exact hnl.symm, by omega, fun _ => ⟨_, _, rfl, fun i hi => ?_⟩⟩
  rw [o.cell, aIZ, hns, aKX, aJF hi]
 unfold yY
 have fin : ∀ (w' : aLl) (pc pb : Nat) (lg last : Nat) (ps : List Nat), aS w0 w' cI -> w0.heap.size <= pc -> pc ≠ p4 -> w0.heap.size <= pb -> cM w' p4 [.int .i64 0, .slice none 0 0] -> (lg : Int) = D1 a -> Sv ns ns.length last -> TO lg (ps.map fun (n : Nat) => (n : Int)) -> ps.length = last + 1 -> last < ns.length →
     (∀ i, i < last + 1 -> (0 < ps.getD i 0 ↔ 0 < ns.getD i 0)) -> cM w' pc [.int .i64 lg, .slice (some ⟨pb, 0, none⟩) (last + 1) (last + 1)] -> cM w' pb (ps.map fun (n : Nat) => Value.int .i64 n) →
     zC RR (.pointer (some ⟨p4, 0, none⟩)) (.pointer (some ⟨pc, 0, none⟩)) (.int .i64 0) w' := by
  intro w1 pc pb lg la ps x1 hpc hpc4 hpb o41 hlg hlast' hmay hpl hlan hiff oc ob
  unfold zC
  have n1 : ((0 : Int) != 0) = false := rfl
  have l1 := gX (off := 0) oc (by simp)
  simp only [aI4, aIX, aI6] at l1
  have hs1 : Sl w1 (.slice (some ⟨pb, 0, none⟩) (la + 1) (la + 1)) ((ps.map fun (n : Nat) => (n : Int)).map (Value.int .i64)) := by
   rw [List.map_map]
   exact ⟨_, _, _, rfl, by rw [aJb, hpl], aI9 _, fun _ => ⟨_, _, rfl, fun i hi => by rw [ob.cell, aIZ] <;> rfl⟩⟩
  simp (disch := omega) only [aC, fB, n1, eT, aA, l1, aD]
  refine (ayL hmay hs1).mono ?_
  rintro r w2 ⟨bytes, v, rfl, hh, ho, x2⟩
  have z1 := x1.size
  have z2 := x2.size
  obtain ⟨va, vc, rfl⟩ := ho.len
  have l1 := gX (off := 0) (oc.ext x2 (fun h => h)) (by simp)
  simp only [aI4, aIX, aI6] at l1
  simp (disch := omega) only [Bc, A6, aA, fB, n1, aD, l1]
  refine (aoF hmay (hs1.ext x2 (bU _))).mono ?_
  rintro r w3 ⟨b, t, rfl, ⟨rfl, hb1, ob3⟩, x3⟩
  have z3 := x3.size
  have hbl := ob3.lt
  simp (disch := omega) only [Bc, A6, aA]
  refine kD fun w8 o8 x8 s8 => ?_
  refine eL o8 rfl (by simp [one]) (by simp) fun w9 o9 x9 s9 => ?_
  have l2 := fZ (off := 0) o9 (by simp [aV])
  simp only [aV, aI2, aI3, aI4, aIX, aI6] at l2
  have x39 : aS w3 w9 cI := x8.new x9 (aI9 _)
  have x29 : aS w2 w9 cI := x3.seq x39
  simp (disch := omega) only [l2, aA]
  refine auO ((o41.ext x2 (fun h => h)).ext x29 (fun h => h)) ((x1.seq x2).seq x29) hp4 fun w' x xx => ?_
  have h4 := o41.lt
  refine hK w' 2 lg (lQ lg (ps.map fun (n : Nat) => (n : Int))) bytes _ _ (.inr ⟨b, rfl, by omega, ?_⟩) ?_ ?_ x
  .exact ((ob3.ext x8 (fun h => h)).ext x9 (by omega)).ext xx (by omega)
  .have h1 := (ho.ext x29 (fun b hb h => h)).ext xx (fun b hb => by omega)
   refine ⟨h1.1, ?_⟩
   rcases h1.2 with h | ⟨b, c, rest, q1, q2, q3⟩
   .exact .inl h
   .exact .inr ⟨b, c, rest, q1, by omega, q3⟩
  .refine aDE ha hmay hh hlg (by rw [aJb]; omega) (fun x hx => ?_) hno1
   have hx1 := hok x hx
   have hx2 := hle x hx
   obtain ⟨c, rfl⟩ : ∃ c : Nat, x = c := ⟨x.toNat, by omega⟩
   have hon : 0 < ns.getD c 0 := by rw [hget c (by omega)]; exact ajR hx
   have hcl : c < la + 1 := by
    rcases aJl c (la + 1) with h | h
    .exact h
    .exfalso
     rcases hlast' with ⟨rfl, h0⟩ | ⟨_, _, h0⟩
     .have := h0 c (by omega); omega
     .have := h0 c (by omega) (by omega); omega
   have hp := (hiff c hcl).2 hon
   refine ⟨c, rfl, by rw [aJb]; omega, ?_⟩
   rw [nT (by omega)] at hp
   rw [aJB]; omega
 have res : ∀ {w1 : aLl} {b1 : Nat} {r : aLm}, aEh w1 b1 (D1 a) ns r -> ∃ (lg last pb : Nat) (ps : List Nat), (lg : Int) = D1 a /\ Sv ns ns.length last /\ TO lg (ps.map fun (n : Nat) => (n : Int)) /\ ps.length = last + 1 /\ last < ns.length /\ (∀ i, i < last + 1 -> (0 < ps.getD i 0 ↔ 0 < ns.getD i 0)) /\
     r = .tuple #[.agg #[.int .i64 lg, .slice (some ⟨pb, 0, none⟩) (last + 1) (last + 1)], .int .i64 0] /\ b1 <= pb /\ cM w1 pb (ps.map fun (n : Nat) => Value.int .i64 n) := fun h => by
  rcases h with ⟨h, _⟩ | ⟨_, l, la, pb, ps, h1, h2⟩
  .rw [hofOk] at h; cases h
  .exact ⟨l, la, pb, ps, h1.symm, h2⟩
 have z0 := hx.size
 have l4 := o4.lt
 have lo := oo.lt
 unfold Ih
 refine Ek (Ek ?_ ?_) ?_
 have hds : (dr w).heap.size = w.heap.size := rfl
 .simp (disch := omega) only [aC, bN, e1, aT, dS, Result.ok.injEq, Next.value.injEq, and_true, true_and, aA, lC, hsh, aIY, aK6]
  refine (awF a _).mono ?_
  rintro r w1 ⟨rfl, hw⟩
  rw [hw]; clear hw w1
  refine (apZ (hsl _ (dT oo)) hmem (by omega)).mono ?_
  rintro r w1 ⟨hr, x1⟩
  have x1 : aS w w1 cI := (aS.dr _ _).seq x1
  obtain ⟨lg, la, pb, ps, q1, q2, q3, q4, q5, q6, rfl, q7, q8⟩ := res hr
  have z1 := x1.size
  have lp := q8.lt
  simp (disch := omega) only [Bc, A6, Result.ok.injEq, Next.value.injEq, and_true, aA, true_and]
  refine kI fun w2 o2 x2 s2 => ?_
  refine fN o2 rfl (by simp [one]) (by simp) fun w3 o3 x3 s3 => ?_
  simp only [aV, aI2, aI3] at o3
  have x13 : aS w1 w3 cI := x2.new x3 (aI9 _)
  exact fin w3 _ pb lg la ps ((hx.seq x1).seq x13) (by omega) (by omega) (by omega) ((o4.ext x1 (fun h => h)).ext x13 (fun h => h)) q1 q2 q3 q4 q5 q6 o3 ((q8.ext x2 (fun h => h)).ext x3 (by omega))
 .simp (disch := omega) only [aC, bN, e1, aT, dS, Result.ok.injEq, Next.value.injEq, and_true, true_and, aA, lC, hsh, aIY, aK6]
  refine (awF a _).mono ?_
  rintro r w1 ⟨rfl, hw⟩
  rw [hw]; clear hw w1
  refine kI fun w2 o2 x2 s2 => ?_
  have x2 : aS w w2 cI := (aS.dr _ _).seq x2
  refine (apZ (hsl _ (oo.ext x2 (fun h => h))) hmem (by omega)).mono ?_
  rintro r w1 ⟨hr, x1⟩
  obtain ⟨lg, la, pb, ps, q1, q2, q3, q4, q5, q6, rfl, q7, q8⟩ := res hr
  have z2 := x2.size
  have lp := q8.lt
  simp (disch := omega) only [Bc, A6, Result.ok.injEq, Next.value.injEq, and_true, aA, true_and]
  refine fN (o2.ext x1 (fun h => h)) rfl (by simp [one]) (by simp) fun w3 o3 x3 s3 => ?_
  simp only [aV, aI2, aI3] at o3
  have x13 : aS w w3 cI := (x2.seq x1).new x3 (aI9 _)
  exact fin w3 w.heap.size pb lg la ps (hx.seq x13) (by omega) (by omega) (by omega) (o4.ext x13 (fun h => h)) q1 q2 q3 q4 q5 q6 o3 (q8.ext x3 (by omega))
 .simp (disch := omega) only [aC, bN, e1, aT, dS, Result.ok.injEq, Next.value.injEq, and_true, true_and, aA, lC, hsh, aIY, aK6]
  refine kI fun w2 o2 x2 s2 => ?_
  have x2 : aS w w2 cI := (aS.dr _ _).seq x2
  refine (awF a _).mono ?_
  rintro r w1 ⟨rfl, hw⟩
  rw [hw]; clear hw w1
  refine (apZ (hsl _ (oo.ext x2 (fun h => h))) hmem (by omega)).mono ?_
  rintro r w1 ⟨hr, x1⟩
  obtain ⟨lg, la, pb, ps, q1, q2, q3, q4, q5, q6, rfl, q7, q8⟩ := res hr
  have z2 := x2.size
  have lp := q8.lt
  simp (disch := omega) only [Bc, A6, Result.ok.injEq, Next.value.injEq, and_true, aA, true_and]
  refine fN (o2.ext x1 (fun h => h)) rfl (by simp [one]) (by simp) fun w3 o3 x3 s3 => ?_
  simp only [aV, aI2, aI3] at o3
  have x13 : aS w w3 cI := (x2.seq x1).new x3 (aI9 _)
  exact fin w3 w.heap.size pb lg la ps (hx.seq x13) (by omega) (by omega) (by omega) (o4.ext x13 (fun h => h)) q1 q2 q3 q4 q5 q6 o3 (q8.ext x3 (by omega))
theorem aIm {a : Int} {lv : aLm} {l : List Int} {p4 : Nat} {w0 w : aLl} (hs : Sl w0 lv (l.map (Value.int .i64))) (hx : aS w0 w cI) (hp4 : w0.heap.size <= p4)
 (o4 : cM w p4 [.int .i64 0, .slice none 0 0]) (ha : 0 <= a /\ a <= 2) (hne : l ≠ []) (hok : ∀ x ∈ l, 0 <= x /\ x <= pP a) (hall : ∀ x ∈ l, ∀ y ∈ l, x = y) {RR : aLm -> aLl -> Prop}
 (hK : ∀ w' mode lg L bytes t v, F3 w' w0.heap.size (lg, L) t -> uD w' w0.heap.size 1 v bytes.length (bytes.map KY) -> Xk a l mode lg L bytes -> aS w0 w' cI -> RR (.tuple #[t, .int .i64 mode, v, .int .i64 0]) w') :
 Ir RR lv (.pointer (some ⟨p4, 0, none⟩)) w := by
 have hla := MM ha
 have hl0 : 0 < l.length := aJR.2 hne
 obtain ⟨la, lc, rfl, _⟩ := hs.lenI
 have hsx := hs.ext hx (bU _)
 obtain ⟨lb, off, rfl, hcell⟩ := slA hsx (by omega)
 have g1 := hcell 0 hl0
 rw [aJq, aI7 hl0] at g1
 simp only [aJL, aJV] at g1
 have hmem : l[0] ∈ l := aJh hl0
 have hc := hok _ hmem
 have hall' : ∀ x ∈ l, x = l[0] := fun x hx => hall x hx _ hmem
 generalize l[0] = x at *
 obtain ⟨c, rfl⟩ : ∃ c : Nat, x = c := ⟨x.toNat, by omega⟩
 have t0 : (0 : Int).toNat = 0 := rfl
 have hpos : (0 : Int) < (l.length : Nat) := by omega
 have hW := aEW (l := l) ha hc.2 (by omega) hall'
 have hcc : ((UInt8.ofNat c).toNat : Nat) = c := by simp; omega
 have z0 := hx.size
 have l4 := o4.lt
 have g2 : (dr w).cell? ⟨lb, off, none⟩ = some (.int .i64 (c : Nat)) := g1
 have far : ∀ {w' : aLl} {M : Nat -> Prop}, aS w w' M -> (¬ inB (.slice (some ⟨lb, off, none⟩) l.length lc) M) -> w'.cell? ⟨lb, off, none⟩ = some (.int .i64 (c : Nat)) := fun x hM => by
  have h := slA (hsx.ext x hM) (by omega)
  obtain ⟨b', o', e, h'⟩ := h
  cases e
  have := h' 0 hl0
  rw [aJV, hcell 0 hl0 |>.symm, aJV, g1] at this
  exact this
 have fin : ∀ (w2 : aLl) (b bs : Nat), aS w0 w2 cI -> w0.heap.size <= b -> w0.heap.size <= bs -> cM w2 b (fe .u8 [((c : Nat), 0, 0)]) -> cM w2 bs [.int .u8 (c : Nat)] -> cM w2 p4 [.int .i64 0, .slice (some ⟨b, 0, none⟩) 1 1] →
     yZ RR (.pointer (some ⟨p4, 0, none⟩)) (.int .i64 1) (.slice (some ⟨bs, 0, none⟩) 1 1) (.int .i64 0) w2 := by
  intro w2 b bs x2 hb hbs ob obs o42
  unfold yZ
  refine sL o42 (by simp) ?_
  simp only [aI4, aIX, aI6]
  refine hK w2 1 0 [((c : Nat), 0, 0)] [UInt8.ofNat c] _ _ (.inr ⟨b, rfl, hb, ob⟩) ?_ hW x2
  refine ⟨rfl, .inr ⟨bs, 1, [], rfl, hbs, ?_, rfl, aI9 _⟩⟩
  have e : [UInt8.ofNat c].map KY ++ [] = [.int .u8 (c : Nat)] := by
   rw [aJP]
   show [Value.int .u8 ((UInt8.ofNat c).toNat : Nat)] = _
   rw [hcc]
  rw [e]; exact obs
 have hds : (dr w).heap.size = w.heap.size := rfl
 unfold Ir Ia
 refine Ek (Ek ?_ ?_) ?_
 .simp (disch := omega) only [aC, dB, t0, aJV, dS, Result.ok.injEq, Next.value.injEq, and_true, true_and, aA, bZ, g2, aG, jI, JG]
  refine (ayW (c : Nat) _).mono ?_
  rintro r w1 ⟨b, ⟨rfl, hb1, ob⟩, x1⟩
  have x1 : aS w w1 cI := (aS.dr _ _).seq x1
  have z1 := x1.size
  have lb1 := ob.lt
  have g3 := far x1 (bU _)
  have g4 : (dr w1).cell? ⟨lb, off, none⟩ = some (.int .i64 (c : Nat)) := g3
  simp (disch := omega) only [g3, aG, aA, jI, JG, Result.ok.injEq, Next.value.injEq, and_true, true_and]
  refine AP (cells := #[.int .u8 (c : Nat)]) (by decide) (by decide) (by kernel_rfl) fun w2 o2 x2 s2 => ?_
  have hds1 : (dr w1).heap.size = w1.heap.size := rfl
  have z2 := x2.size
  refine eL ((o4.ext x1 (fun h => h)).ext x2 (fun h => h)) rfl (by simp [one]) (by simp) fun w3 o3 x3 s3 => ?_
  simp only [aV, aI2, aI3] at o3
  exact fin w3 b w1.heap.size (((hx.seq x1).seq x2).new x3 hp4) (by omega) (by omega) ((ob.ext x2 (fun h => h)).ext x3 (by omega)) (o2.ext x3 (by omega)) o3
 .simp (disch := omega) only [aC, dB, t0, aJV, dS, Result.ok.injEq, Next.value.injEq, and_true, true_and, aA, bZ, g2, aG, jI, JG]
  refine (ayW (c : Nat) _).mono ?_
  rintro r w1 ⟨b, ⟨rfl, hb1, ob⟩, x1⟩
  have x1 : aS w w1 cI := (aS.dr _ _).seq x1
  have z1 := x1.size
  have lb1 := ob.lt
  have g3 := far x1 (bU _)
  have g4 : (dr w1).cell? ⟨lb, off, none⟩ = some (.int .i64 (c : Nat)) := g3
  simp (disch := omega) only [g3, aG, aA, jI, JG, Result.ok.injEq, Next.value.injEq, and_true, true_and]
  refine eL (o4.ext x1 (fun h => h)) rfl (by simp [one]) (by simp) fun w2 o2 x2 s2 => ?_
  simp only [aV, aI2, aI3] at o2
  have hds1 : (dr w1).heap.size = w1.heap.size := rfl
  have z2 := x2.size
  have x02 := (hx.seq x1).new x2 hp4
  have g5 : w2.cell? ⟨lb, off, none⟩ = some (.int .i64 (c : Nat)) := far ((x1.mono (N := fun y => y = p4) fun _ _ h => h.elim).seq x2) (by
   intro h
   exact hs.old (aAf h fun y hy => by omega))
  simp (disch := omega) only [g5, aG, true_and]
  refine AP (cells := #[.int .u8 (c : Nat)]) (by decide) (by decide) (by kernel_rfl) fun w3 o3 x3 s3 => ?_
  exact fin w3 b w2.heap.size (x02.seq x3) (by omega) (by omega) ((ob.ext x2 (by omega)).ext x3 (fun h => h)) o3 (o2.ext x3 (fun h => h))
 .simp (disch := omega) only [aC, dB, t0, aJV, dS, Result.ok.injEq, Next.value.injEq, and_true, true_and, aA, bZ, g2, aG, jI, JG]
  refine AP (cells := #[.int .u8 (c : Nat)]) (by decide) (by decide) (by kernel_rfl) fun w2 o2 x2 s2 => ?_
  have x2 : aS w w2 cI := (aS.dr _ _).seq x2
  have z2 := x2.size
  have g3 := far x2 (bU _)
  have g4 : (dr w2).cell? ⟨lb, off, none⟩ = some (.int .i64 (c : Nat)) := g3
  simp (disch := omega) only [g3, aG, true_and]
  refine (ayW (c : Nat) _).mono ?_
  rintro r w1 ⟨b, ⟨rfl, hb1, ob⟩, x1⟩
  have hds1 : (dr w2).heap.size = w2.heap.size := rfl
  have z1 := x1.size
  have lb1 := ob.lt
  refine eL ((o4.ext x2 (fun h => h)).ext x1 (fun h => h)) rfl (by simp [one]) (by simp) fun w3 o3 x3 s3 => ?_
  simp only [aV, aI2, aI3] at o3
  exact fin w3 b w.heap.size (((hx.seq x2).seq x1).new x3 hp4) (by omega) (by omega) (ob.ext x3 (by omega)) ((o2.ext x1 (fun h => h)).ext x3 (by omega)) o3
def WrR (w : aLl) (base : Nat) (a : Int) (l : List Int) (r : aLm) : Prop :=
 (¬ ZP a l /\ r = .tuple #[aFH, .int .i64 0, .slice none 0 0, .int .i64 1]) ∨
 (ZP a l /\ ∃ (mode : Int) (lg : Nat) (L : List T3) (bytes : List UInt8) (t v : aLm), r = .tuple #[t, .int .i64 mode, v, .int .i64 0] /\ F3 w base (lg, L) t /\ uD w base 1 v bytes.length (bytes.map KY) /\ Xk a l mode lg L bytes)
theorem aEE {a : Int} {lv : aLm} {l : List Int} {w : aLl} (hg : vW w) (hs : Sl w lv (l.map (Value.int .i64))) (hlen : l.length <= 131072) :
 aR pg qP #[.int .i64 a, lv] w (fun r w' => WrR w' w.heap.size a l r /\ aS w w' cI) := by
 refine abU ?_
 obtain ⟨RR, hRR⟩ : ∃ RR : aLm -> aLl -> Prop, RR = fun r w' => WrR w' w.heap.size a l r /\ aS w w' cI := ⟨_, rfl⟩
 rw [<- hRR]
 have bad : ¬ ZP a l -> ∀ w', aS w w' cI -> RR (.tuple #[aFH, .int .i64 0, .slice none 0 0, .int .i64 1]) w' := fun h w' x => by
  rw [hRR]; exact ⟨.inl ⟨h, rfl⟩, x⟩
 have good : ZP a l -> ∀ w' mode lg L bytes t v, F3 w' w.heap.size (lg, L) t -> uD w' w.heap.size 1 v bytes.length (bytes.map KY) -> Xk a l mode lg L bytes -> aS w w' cI -> RR (.tuple #[t, .int .i64 mode, v, .int .i64 0]) w' := fun h w' mode lg L bytes t v h1 h2 h3 x => by
  rw [hRR]; exact ⟨.inr ⟨h, mode, lg, L, bytes, t, v, rfl, h1, h2, h3⟩, x⟩
 unfold ZT FZ Gp
 refine kD fun w1 o1 x1 s1 => ?_
 refine (awH (hg.ext x1)).mono ?_
 rintro r w2 ⟨rfl, x2⟩
 have x02 := x1.seq x2
 have o12 := o1.ext x2 (fun h => h)
 have z1 := x1.size
 have z2 := x2.size
 by_cases ha : 0 <= a /\ a <= 2
 rotate_left
 .have d1 : decide (pP a < 0) = true := by rw [asE ha] <;> rfl
  simp (disch := omega) only [aC, aW, d1, eT, aA, jH, bM, if_true, aF, dH]
  exact auO o12 x02 (aI9 _) fun w' x _ => bad (fun h => ha h.1) w' x
 have hla := MM ha
 have d1 : decide (pP a < 0) = false := by simp; omega
 have hs0 := hs
 obtain ⟨la, lc, rfl, _⟩ := hs.lenI
 by_cases hl0 : l = []
 .have n1 : (((l.length : Nat) : Int) == 0) = true := by rw [hl0] <;> rfl
  simp (disch := omega) only [aC, aW, d1, eT, aA, dG, bM, aI5, if_false, bP, dU, cK, n1, jH, if_true, aF, dH]
  exact auO o12 x02 (aI9 _) fun w' x _ => bad (fun h => h.2.1 hl0) w' x
 have hlp : 0 < l.length := aJR.2 hl0
 have n1 : (((l.length : Nat) : Int) == 0) = false := beq_eq_false_iff_ne.2 (by omega)
 have d2 : decide ((131072 : Int) < ((l.length : Nat) : Int)) = false := by simp; omega
 have hcs : cN [] = List.replicate 256 (Value.int .u32 0) := by
  show (MX []).map _ = _
  rw [avL, aK7] <;> rfl
 simp (disch := omega) only [aC, aW, d1, eT, aA, dG, bM, aI5, if_false, bP, dU, cK, n1, dO, d2, aD]
 refine alI fun w3 o3 x3 s3 => ?_
 have o3 : cM w3 w2.heap.size (cN []) := by rw [hcs]; exact o3
 have z3 := x3.size
 unfold FJ
 refine aG1 (w0 := w) hs0 (x02.seq x3) (aI9 _) (by omega) (by omega) (o12.ext x3 (fun h => h)) o3 (by omega) (by omega) hlen (fun ⟨x, hx, hn⟩ => bad fun h => hn (h.2.2 x hx)) fun hok w4 o4 oo x4 => ?_
 have hcok : ZP a l := ⟨ha, hl0, hok⟩
 unfold F2 Gi
 have z4 := x4.size
 refine (aB0 (hg.ext x4)).mono ?_
 rintro r w5 ⟨gv, rfl, hsg, x5⟩
 have z5 := x5.size
 obtain ⟨ga, gc, rfl, _⟩ := hsg.lenI
 refine kI fun w6 o6 x6 s6 => ?_
 refine fN o6 rfl (by simp [one]) (by simp) fun w7 o7 x7 s7 => ?_
 simp only [aV, aI2, aI3] at o7
 have x57 : aS w5 w7 cI := x6.new x7 (aI9 _)
 have x47 := x5.seq x57
 have x07 := x4.seq x47
 have z7 := x57.size
 have l4 := o4.lt
 have o47 := o4.ext x47 (fun h => h)
 have oo7 := oo.ext x47 (fun h => h)
 unfold F1 Gc Qk Iz Ib
 have hb255 : ∀ x ∈ l, 0 <= x /\ x <= 255 := fun x hx => by have := hok x hx; omega
 have hcp := aGe hb255 hl0
 by_cases h1 : (MX l).countP kH = 1
 .have n2 : ((((MX l).countP kH : Nat) : Int) == 1) = true := by rw [h1] <;> rfl
  simp (disch := omega) only [aC, cK, n2, aA, aF]
  exact aIm hs0 x07 (aI9 _) o47 ha hl0 hok (aGw hb255 h1) (good hcok)
 have n2 : ((((MX l).countP kH : Nat) : Int) == 1) = false := beq_eq_false_iff_ne.2 (by omega)
 obtain ⟨last, hlast⟩ : ∃ n : Nat, pP a = n := ⟨(pP a).toNat, by omega⟩
 obtain ⟨g, hg', hgl, hnl, hget, hle, hct⟩ := aCg (S := l) (n := last) (by omega) (fun x hx => by have := hok x hx; omega)
 have told : yY RR (.int .i64 a) (.pointer (some ⟨w.heap.size, 0, none⟩)) (.pointer (some ⟨w2.heap.size, 0, none⟩)) (.int .i64 g) w7 :=
  aHp x07 hg (aI9 _) (by omega) (by omega) o47 oo7 ha hlen hok hg' (by omega) (good hcok)
 rw [hg']
 unfold Jl
 by_cases h64 : l.length < 64
 .have d3 : decide (((l.length : Nat) : Int) < 64) = true := by simp; omega
  have c1 := o7.cell (off := 1)
  simp only [aI0, aI1] at c1
  by_cases hgv : g < (gvP a).length
  .have d4 : decide (((g : Nat) : Int) < (((gvP a).length : Nat) : Int)) = true := by simp; omega
   have l1 := gX (off := 0) o7 (by simp)
   simp only [aI4, aIX, aI6] at l1
   have hm := aoY (a := a) (by omega)
   simp (disch := omega) only [aC, cK, n2, dU, bC, aIZ, aA, aW, d3, mU, bM, if_true, bP, cF, c1, aG, d4, l1, aF, aD]
   refine (aoF hm (hsg.ext x57 (bU _))).mono ?_
   rintro r w8 ⟨b, t, rfl, ⟨rfl, hb1, ob⟩, x8⟩
   have z8 := x8.size
   have hbl := ob.lt
   simp (disch := omega) only [Bc, A6, aA]
   refine kD fun w9 o9 x9 s9 => ?_
   refine eL o9 rfl (by simp [one]) (by simp) fun wa oa xa sa => ?_
   have l2 := fZ (off := 0) oa (by simp [aV])
   simp only [aV, aI2, aI3, aI4, aIX, aI6] at l2
   have x8a : aS w8 wa cI := x9.new xa (aI9 _)
   have x7a := x8.seq x8a
   simp (disch := omega) only [l2, aA]
   refine auO (o47.ext x7a (fun h => h)) (x07.seq x7a) (aI9 _) fun w' x xx => ?_
   refine good hcok w' 0 (YC a) (lQ (YC a) (gvP a)) [] _ _ (.inr ⟨b, rfl, by omega, ?_⟩) (uD.nil _ _ _) ?_ x
   .exact ((ob.ext x9 (fun h => h)).ext xa (by omega)).ext xx (by omega)
   .refine aBx ha (fun x hx => ?_) fun h => ?_
    .have h1 := hok x hx
     have h2 := hle x hx
     omega
    .obtain ⟨y, hy⟩ := aK2 _ hl0
     have hyb := hb255 y hy
     exact h1 (aCa (S := l) (c := y.toNat) (by omega) (fun x hx => by have := h x hx y hy; omega) hl0)
  .have d4 : decide (((g : Nat) : Int) < (((gvP a).length : Nat) : Int)) = false := by simp; omega
   simp (disch := omega) only [aC, cK, n2, dU, bC, aIZ, aA, aW, d3, mU, bM, if_true, bP, cF, c1, aG, d4, aD]
   exact told
 .have d3 : decide (((l.length : Nat) : Int) < 64) = false := by simp; omega
  simp (disch := omega) only [aC, cK, n2, dU, bC, aIZ, aA, aW, d3, vN, bM, aI5, if_false, aD, dH]
  exact told
def apW (L : List T3) : Prop := ∀ sy : Int, (∃ e ∈ L, e.1 = sy) -> ∀ s : Nat, s < L.length -> ∃ (i : Nat) (e : T3), L[i]? = some e /\ inE sy s e = true
theorem aCP (c : Int) : apW [(c, 0, 0)] := by
 rintro sy ⟨e, he, rfl⟩ s hs
 obtain rfl := aKf.1 he
 have : s = 0 := by simp at hs; omega
 subst this
 exact ⟨0, _, rfl, by unfold inE; simp⟩
theorem aAG {log : Nat} {ps : List Int} (hm : TO log ps) : apW (lQ log ps) := by
 rintro sy ⟨e, he, rfl⟩ s hs
 rw [kN] at hs
 obtain ⟨i, hi, rfl⟩ := aJy he
 have h2 : i < 2 ^ log := by rw [kN] at hi; exact hi
 obtain ⟨sy, hsy, e, hp, _⟩ := Y7 hm (xJ hm 0) h2
 have hn : ps[sy] ≠ 0 := fun h => by rw [h] at hp; revert hp; decide
 rw [Yz log ps h2, e]
 obtain ⟨i', hi', h1, _⟩ := aGy hm hsy hn hs
 exact ⟨i', _, aiG hi', h1⟩
theorem aBS {a : Int} {l : List Int} {mode : Int} {lg : Nat} {L : List T3} {bytes : List UInt8} (h : Xk a l mode lg L bytes) : apW L := by
 rcases h.tab with ⟨ps, hm, rfl⟩ | ⟨c, _, _, _, rfl⟩
 .exact aAG hm
 .exact aCP c
theorem afU {k : Nat} {l : List Int} {mode : Int} {lg : Nat} {L : List T3} {bytes : List UInt8} (hk : k < 3) (h : Xk (k : Int) l mode lg L bytes) : yT k (lg, L) := by
 have h1 := h.read (0, []) []
 have h0 := h.mode0
 have h2 := h.mode2
 obtain ⟨m, rfl⟩ : ∃ m : Nat, mode = m := ⟨mode.toNat, by omega⟩
 exact (aoO hk (fun h3 => by omega) h1).1
def azG (last : Bool) (L : List T3) (c s t : Nat) (u : List Bool) : Prop := (∃ e, L[s]? = some e /\ e.1 = (c : Int)) /\ (if last then u = [] else StB L s t u)
def aAq (r : Nat) : Nat := if r = 0 then 1 else if r = 1 then 2 else 0
def aDA (k : Nat) : Nat := if k = 1 then 0 else if k = 2 then 1 else 2
def aBK (us : Nat -> List Bool) (r : Nat) : List Bool := if r = 0 then [] else if r = 1 then us 1 else if r = 2 then us 1 ++ us 2 else us 1 ++ us 2 ++ us 0
def upU (us : Nat -> List Bool) (k : Nat) (x : List Bool) : Nat -> List Bool := fun i => if i = k then x else us i
theorem VL (us : Nat -> List Bool) {r : Nat} (h : r < 3) (x : List Bool) : aBK (upU us (aAq r) x) (r + 1) = aBK us r ++ x := by
 rcases (show r = 0 ∨ r = 1 ∨ r = 2 by omega) with rfl | rfl | rfl <;> simp [aBK, upU, aAq]
theorem aF6 (r : Nat) : aAq r < 3 := by unfold aAq; split <;> (try split) <;> omega
theorem aaJ {r k : Nat} (hr : r < 3) (hk : k < 3) : (aDA k < r + 1) ↔ (aDA k < r ∨ k = aAq r) := by
 rcases (show r = 0 ∨ r = 1 ∨ r = 2 by omega) with rfl | rfl | rfl <;> rcases (show k = 0 ∨ k = 1 ∨ k = 2 by omega) with rfl | rfl | rfl <;> decide
theorem aCM {r : Nat} (hr : r < 3) : aDA (aAq r) = r := by
 rcases (show r = 0 ∨ r = 1 ∨ r = 2 by omega) with rfl | rfl | rfl <;> rfl
theorem aFE {w : aLl} {base : Nat} {L : Nat -> List Nat} {v : Nat -> aLm} {D : Nat -> Nat -> Prop} (h : C3 w base L v D) {k i c : Nat} (hk : k < 3) (hc : (L k)[i]? = some c) :
 ∃ b off cc, v k = .slice (some ⟨b, off, none⟩) (L k).length cc /\ w.cell? ⟨b, off + i, none⟩ = some (.int .i64 c) := by
 have hi : i < (L k).length := by
  rcases aJl i (L k).length with h | h
  .exact h
  .rw [aJk h] at hc; cases hc
 have o := h.row k hk
 rcases o.2 with ⟨_, hz⟩ | ⟨b, c', rest, h1, h2, h3, h4, h5⟩
 .omega
 .refine ⟨b, 0, c', h1, ?_⟩
  rw [h3.cell, aIZ, aJd (by rw [aJb]; exact hi), aJq, hc]
  rfl
theorem aAv {k2 : K6} {RR : K1} {la : Option Addr} {n lc pe pt p ps i : Nat} {t : Nat -> TT} {a : Nat -> Option Addr} {L : Nat -> List Nat} {v : Nat -> aLm} {D : Nat -> Nat -> Prop} {st cc : Nat -> Nat} {B : List Bool} {wc w : aLl}
 (hTc : JV wc t a) (hCc : C3 wc 0 L v D) (xc : aS wc w cI) (hge : wc.heap.size <= pe /\ pe < pt /\ pt < p /\ p < ps) (oE : cM w pe (vL v)) (oT : cM w pt (c6 t a)) (oS : cM w ps (s3L st)) (hW : Ws w (fun b => ps < b) p B)
 (hi : i < n) (hn : n <= 1000000) (hcc : ∀ k, k < 3 -> (L k)[i]? = some (cc k) /\ cc k < lI k) (hG : ∀ k, k < 3 -> yT k (t k) /\ apW (t k).2 /\ ∃ e ∈ (t k).2, e.1 = (cc k : Int)) (hst : i + 1 < n -> ∀ k, k < 3 -> st k < (t k).2.length) (hB : B.length <= 90000000)
 (hk : ∀ (w' : aLl) (st' : Nat -> Nat) (us : Nat -> List Bool), cM w' ps (s3L st') -> (∀ k, k < 3 -> azG (decide (i + 1 = n)) (t k).2 (cc k) (st' k) (st k) (us k)) -> Ws w' (fun b => ps < b) p (B ++ (us 1 ++ us 2 ++ us 0)) -> aS w w' (fun y => y = p ∨ y = ps ∨ ps < y) -> k2 (.slice la n lc) (.pointer (some ⟨pe, 0, none⟩)) (.pointer (some ⟨pt, 0, none⟩)) (.pointer (some ⟨p, 0, none⟩)) (.pointer (some ⟨ps, 0, none⟩)) (.int .i64 i) w') :
 uX k2 RR (.slice la n lc) (.pointer (some ⟨pe, 0, none⟩)) (.pointer (some ⟨pt, 0, none⟩)) (.pointer (some ⟨p, 0, none⟩)) (.pointer (some ⟨ps, 0, none⟩)) (.int .i64 i) (.agg #[.int .i64 1, .int .i64 2, .int .i64 0]) (.int .i64 0) w := by
 have hps := oS.lt
 unfold uX
 refine cC.rule (fun m (x : aLm) w' => ∃ (j : Nat) (st' : Nat -> Nat) (us : Nat -> List Bool), m = j /\ j <= 3 /\ x = .int .i64 (3 - j : Nat) /\ cM w' ps (s3L st') /\ (∀ k, k < 3 -> aDA k < 3 - j -> azG (decide (i + 1 = n)) (t k).2 (cc k) (st' k) (st k) (us k)) /\ (∀ k, k < 3 -> ¬ aDA k < 3 - j -> st' k = st k) /\
  Ws w' (fun b => ps < b) p (B ++ aBK us (3 - j)) /\ (aBK us (3 - j)).length <= 20 * (3 - j) /\ aS w w' (fun y => y = p ∨ y = ps ∨ ps < y)) 3
  ⟨3, st, fun _ => [], rfl, aI9 _, rfl, oS, fun k _ h => by omega, fun _ _ _ => rfl, by simpa [aBK] using hW, by simp [aBK], aS.refl _ _⟩ ?_
 rintro j x w1 ⟨m, st', us, rfl, hj, rfl, oS1, hD, hU, hW1, hlen, x1⟩
 unfold uO AN
 rcases j with _ | j
 .have d1 : decide (((3 - 0 : Nat) : Int) < 3) = false := rfl
  simp (disch := omega) only [aC, aW, d1, cB, true_and, aA, dZ, aT, cK, aD]
  exact hk _ st' us oS1 (fun k hk => hD k hk (by unfold aDA; split <;> (try split) <;> omega)) hW1 x1
 obtain ⟨r, hr⟩ : ∃ r, r = 2 - j := ⟨_, rfl⟩
 have hr3 : r < 3 := by omega
 have ek : ((3 - (j + 1) : Nat) : Int) = (r : Int) := by omega
 have ek2 : 3 - (j + 1) = r := by omega
 have ek3 : 3 - j = r + 1 := by omega
 have d1 : decide ((r : Int) < 3) = true := by simp; omega
 have hx : (#[Value.int .i64 1, .int .i64 2, .int .i64 0] : Array aLm)[r]? = some (.int .i64 (aAq r : Nat)) := by
  rcases (show r = 0 ∨ r = 1 ∨ r = 2 by omega) with rfl | rfl | rfl <;> rfl
 have hk3 := aF6 r
 have hpo := aCM hr3
 obtain ⟨k, hkk⟩ : ∃ k, k = aAq r := ⟨_, rfl⟩
 rw [ek]
 rw [ek2] at hD hU hW1 hlen
 rw [<- hkk] at hx hk3 hpo
 obtain ⟨hck, hcl⟩ := hcc k hk3
 obtain ⟨hGk, hRk, hEk⟩ := hG k hk3
 have xc1 : aS wc w1 cI := xc.trans x1 fun b hb h => by have := xc.size; omega
 have hT1 := hTc.ext xc1
 have hC1 := hCc.ext xc1 (fun _ _ _ h => h)
 have oE1 := oE.ext x1 (by omega)
 have oT1 := oT.ext x1 (by omega)
 obtain ⟨b, off, c', ev, hcell⟩ := aFE hC1 hk3 hck
 have cE := oE1.cell (off := k)
 rw [aBZ _ hk3, ev] at cE
 have hc53 : lI k <= 53 := by rcases (show k = 0 ∨ k = 1 ∨ k = 2 by omega) with rfl | rfl | rfl <;> decide
 have hiL : i < (L k).length := by
  rcases aJl i (L k).length with h | h
  .exact h
  .rw [aJk h] at hck; cases hck
 have ew : IntKind.u8.wrap ((cc k : Nat) : Int) = ((cc k : Nat) : Int) := JG (by omega) (by omega)
 have l1 := fZ (off := k * 2) oT1 (by simp [c6]; omega)
 rw [abG _ _ hk3] at l1
 have hlt512 : (t k).2.length <= 512 := by rw [hGk.len]; exact aJa (by omega) hGk.lg
 have hlpos : 0 < (t k).2.length := by rw [hGk.len]; exact aJv _
 obtain ⟨tb, htb⟩ := (hT1 k hk3).tbl hlpos
 have n0 : ((0 : Int) != 0) = false := rfl
 by_cases hlast : i + 1 = n
 .have n1 : ((i : Int) == (n : Int) - 1) = true := by simp; omega
  simp (disch := omega) only [aC, aW, d1, tL, aIY, hx, aG, cB, true_and, aA, dZ, aT, cK, n1, aF, nQ, aIZ, cL, rS, cF, cE, dB, bZ, hcell, jI, ew, l1]
  refine (aF1 htb (by omega) (cc k : Nat)).mono ?_
  rintro rr w2 ⟨hF, x2⟩
  rcases hF with ⟨s', hs', rfl, hsy, _⟩ | ⟨_, hno⟩
  rotate_left
  .obtain ⟨e, he, hes⟩ := hEk
   obtain ⟨y, hy, rfl⟩ := aJy he
   exact absurd hes (hno y hy)
  have oS2 := oS1.ext x2 (fun h => h)
  simp (disch := omega) only [Bc, A6, aA, fB, n0, aD]
  refine vP oS2 rfl (by simp [s3L]; omega) fun w3 o3 x3 s3 => ?_
  rw [axF _ hk3] at o3
  have e1 : (r : Int) + 1 = ((3 - j : Nat) : Int) := by omega
  unfold qI
  simp (disch := omega) only [aC, bN, e1, aT, aA]
  refine ⟨j, by omega, j, upS st' k s', upU us k [], rfl, by omega, rfl, o3, fun q hq hqp => ?_, fun q hq hqp => ?_, ?_, ?_, ?_⟩
  .rw [ek3, aaJ hr3 hq, <- hkk] at hqp
   unfold upS upU
   by_cases hqk : q = k
   .subst hqk
    rw [if_pos rfl, if_pos rfl]
    refine ⟨⟨_, aI7 hs', hsy⟩, ?_⟩
    rw [decide_eq_true hlast] <;> rfl
   .rw [if_neg hqk, if_neg hqk]
    exact hD q hq (by rcases hqp with h | h
                      .exact h
                      .exact absurd h hqk)
  .rw [ek3, aaJ hr3 hq, <- hkk] at hqp
   unfold upS
   rw [if_neg (fun h => hqp (.inr h))]
   exact hU q hq (fun h => hqp (.inl h))
  .rw [ek3, hkk, VL us hr3, aJP]
   exact (hW1.ext x2 (fun h => h) (fun _ _ h => h)).ext x3 (by omega) (fun b hb h => by omega)
  .rw [ek3, hkk, VL us hr3, aJP]; omega
  .exact (x1.more x2).seq (x3.mono fun _ _ h => .inr (.inl h))
 .have n1 : ((i : Int) == (n : Int) - 1) = false := by simp; omega
  have hstk := hst (by omega) k hk3
  have hUk := hU k hk3 (by rw [hpo]; omega)
  have l1d := fZ (off := k * 2) (dT oT1) (by simp [c6]; omega)
  rw [abG _ _ hk3] at l1d
  have c1d := (dT oS1).cell (off := k)
  rw [atN _ hk3, hUk] at c1d
  simp (disch := omega) only [aC, aW, d1, tL, aIY, hx, aG, cB, true_and, aA, dZ, aT, cK, n1, aD, nQ, aIZ, cL, rS, bZ, cF, cE, dB, hcell, jI, ew, l1d, c1d, aF]
  obtain ⟨tb, htb⟩ := (hT1.ext (aS.dr w1 cI) k hk3).tbl hlpos
  refine (aEa htb hGk.low (by omega) (st k) hstk (cc k : Nat)).mono ?_
  rintro rr w2 ⟨hF, x2⟩
  have x12 : aS w1 w2 cI := (aS.dr _ _).seq x2
  rcases hF with ⟨s', e, hs', hin, rfl⟩ | ⟨hno, _⟩
  rotate_left
  .obtain ⟨y, e, hy, hin⟩ := hRk (cc k : Nat) hEk (st k) hstk
   rw [hno y e hy] at hin; cases hin
  obtain ⟨nb, hnb1, hnb2, hnb3, hnb4⟩ := hGk.low _ (aJX hs')
  obtain ⟨e0, e1', e2⟩ := e
  simp only at hnb1 hnb3 hnb4
  subst hnb1
  unfold inE at hin
  simp only [decide_eq_true_eq, aIY] at hin
  obtain ⟨g0, g1, g2⟩ := hin
  obtain ⟨xx, hxx⟩ : ∃ xx : Nat, (st k : Int) - e2 = xx := ⟨((st k : Int) - e2).toNat, by omega⟩
  have hp2 : (2 : Int) ^ nb = ((2 ^ nb : Nat) : Int) := by simp
  rw [hp2] at g2
  have hxl : xx < 2 ^ nb := by omega
  have hp20 : 2 ^ nb <= 2 ^ 20 := aJa (by omega) hnb2
  have hs's : s' < (t k).2.length := by
   rcases aJl s' (t k).2.length with h | h
   .exact h
   .rw [aJk h] at hs'; cases hs'
  simp (disch := omega) only [hxx, x40, x41, x42, x43, aA, fB, n0, aD, true_and]
  have hW2 := hW1.ext x12 (fun h => h) (fun _ _ h => h)
  refine (arL (x := xx) (n := nb) hW2 (fun b hb => by have := x12.size; have := x1.size; omega) (by omega) (by omega) (by rw [aI8]; omega)).mono ?_
  rintro rr w3 ⟨rfl, hW3, x3⟩
  have oS3 := (oS1.ext x12 (fun h => h)).ext x3 (by omega)
  refine vP oS3 rfl (by simp [s3L]; omega) fun w4 o4 x4 s4 => ?_
  rw [axF _ hk3] at o4
  have e1 : (r : Int) + 1 = ((3 - j : Nat) : Int) := by omega
  unfold qI
  simp (disch := omega) only [aC, bN, e1, aT, aA]
  refine ⟨j, by omega, j, upS st' k s', upU us k (gU xx nb), rfl, by omega, rfl, o4, fun q hq hqp => ?_, fun q hq hqp => ?_, ?_, ?_, ?_⟩
  .rw [ek3, aaJ hr3 hq, <- hkk] at hqp
   unfold upS upU
   by_cases hqk : q = k
   .subst hqk
    rw [if_pos rfl, if_pos rfl]
    refine ⟨⟨_, hs', g0⟩, ?_⟩
    rw [decide_eq_false hlast]
    exact ⟨_, nb, xx, hs', rfl, hxl, by simp only; omega, rfl⟩
   .rw [if_neg hqk, if_neg hqk]
    exact hD q hq (by rcases hqp with h | h
                      .exact h
                      .exact absurd h hqk)
  .rw [ek3, aaJ hr3 hq, <- hkk] at hqp
   unfold upS
   rw [if_neg (fun h => hqp (.inr h))]
   exact hU q hq (fun h => hqp (.inl h))
  .rw [ek3, hkk, VL us hr3, <- aJc]
   exact hW3.ext x4 (by omega) (fun b hb h => by omega)
  .rw [ek3, hkk, VL us hr3, aI8, dQ]; omega
  .exact ((x1.more x12).seq (x3.mono fun _ _ h => by rcases h with h | h; exact .inl h; exact .inr (.inr h))).seq (x4.mono fun _ _ h => .inr (.inl h))
def vb (q : Sq) (cc : Nat -> Nat) (k : Nat) : List Bool := gU (kv q k - (sG k).getD (cc k) 0) ((lR k).getD (cc k) 0)
def aBX (us : Nat -> List Bool) (r : Nat) : List Bool := if r = 0 then [] else if r = 1 then us 0 else if r = 2 then us 0 ++ us 2 else us 0 ++ us 2 ++ us 1
theorem aDO (us : Nat -> List Bool) {r : Nat} (h : r < 3) : aBX us (r + 1) = aBX us r ++ us (KP r) := by
 rcases (show r = 0 ∨ r = 1 ∨ r = 2 by omega) with rfl | rfl | rfl <;> simp [aBX, KP]
theorem aDk {k4 : K6} {lv : aLm} {pe pt p ps pv i : Nat} {L : Nat -> List Nat} {v : Nat -> aLm} {D : Nat -> Nat -> Prop} {cc : Nat -> Nat} {q : Sq} {B : List Bool} {wc w : aLl}
 (hg : vW wc) (hCc : C3 wc 0 L v D) (xc : aS wc w cI) (hge : wc.heap.size <= pe /\ pe < pt /\ pt < p /\ p < ps /\ ps < pv) (oE : cM w pe (vL v)) (oV : cM w pv (kvL q)) (hW : Ws w (fun b => ps < b /\ b ≠ pv) p B)
 (hcc : ∀ k, k < 3 -> (L k)[i]? = some (cc k) /\ sV k (kv q k) (cc k)) (hB : B.length <= 90000000)
 (hk : ∀ (w' : aLl), Ws w' (fun b => ps < b /\ b ≠ pv) p (B ++ (vb q cc 0 ++ vb q cc 2 ++ vb q cc 1)) -> aS w w' (fun y => y = p ∨ (ps < y /\ y ≠ pv)) -> k4 lv (.pointer (some ⟨pe, 0, none⟩)) (.pointer (some ⟨pt, 0, none⟩)) (.pointer (some ⟨p, 0, none⟩)) (.pointer (some ⟨ps, 0, none⟩)) (.int .i64 i) w') :
 uU k4 lv (.pointer (some ⟨pe, 0, none⟩)) (.pointer (some ⟨pt, 0, none⟩)) (.pointer (some ⟨p, 0, none⟩)) (.pointer (some ⟨ps, 0, none⟩)) (.int .i64 i) (.pointer (some ⟨pv, 0, none⟩)) (.agg #[.int .i64 0, .int .i64 2, .int .i64 1]) (.int .i64 0) w := by
 have hpv := oV.lt
 unfold uU
 refine cC.rule (fun m (x : aLm) w' => ∃ (j : Nat), m = j /\ j <= 3 /\ x = .int .i64 (3 - j : Nat) /\ Ws w' (fun b => ps < b /\ b ≠ pv) p (B ++ aBX (vb q cc) (3 - j)) /\ (aBX (vb q cc) (3 - j)).length <= 31 * (3 - j) /\ aS w w' (fun y => y = p ∨ (ps < y /\ y ≠ pv))) 3
  ⟨3, rfl, aI9 _, rfl, by simpa [aBX] using hW, by simp [aBX], aS.refl _ _⟩ ?_
 rintro j x w1 ⟨m, rfl, hj, rfl, hW1, hlen, x1⟩
 unfold wF
 rcases j with _ | j
 .have d1 : decide (((3 - 0 : Nat) : Int) < 3) = false := rfl
  simp (disch := omega) only [aC, aW, d1, bN, aT, aA, aD]
  exact hk _ hW1 x1
 obtain ⟨r, hr⟩ : ∃ r, r = 2 - j := ⟨_, rfl⟩
 have hr3 : r < 3 := by omega
 have ek : ((3 - (j + 1) : Nat) : Int) = (r : Int) := by omega
 have ek2 : 3 - (j + 1) = r := by omega
 have ek3 : 3 - j = r + 1 := by omega
 have d1 : decide ((r : Int) < 3) = true := by simp; omega
 have hx : (#[Value.int .i64 0, .int .i64 2, .int .i64 1] : Array aLm)[r]? = some (.int .i64 (KP r : Nat)) := by
  rcases (show r = 0 ∨ r = 1 ∨ r = 2 by omega) with rfl | rfl | rfl <;> rfl
 have hk3 := abC r
 obtain ⟨k, hkk⟩ : ∃ k, k = KP r := ⟨_, rfl⟩
 rw [ek]
 rw [ek2] at hW1 hlen
 have hOS := aDO (vb q cc) hr3
 rw [<- hkk] at hx hk3 hOS
 obtain ⟨hck, hcv⟩ := hcc k hk3
 have xc1 : aS wc w1 cI := xc.trans x1 fun b hb h => by have := xc.size; omega
 have hC1 := hCc.ext xc1 (fun _ _ _ h => h)
 have oE1 := oE.ext x1 (by omega)
 have oV1 := oV.ext x1 (by omega)
 obtain ⟨b, off, c', ev, hcell⟩ := aFE hC1 hk3 hck
 have cE := oE1.cell (off := k)
 rw [aBZ _ hk3, ev] at cE
 have hiL : i < (L k).length := by
  rcases aJl i (L k).length with h | h
  .exact h
  .rw [aJk h] at hck; cases hck
 simp (disch := omega) only [aC, aW, d1, tL, aIY, hx, aG, bN, aT, aA, nQ, aIZ, vC, mB, cF, cE, dB, bZ, hcell, aF]
 refine (aEt (hg.ext xc1) hk3 hcv.1).mono ?_
 rintro rr w2 ⟨rfl, x2⟩
 have cV := (oV1.ext x2 (fun h => h)).cell (off := k)
 have hkv : (kvL q)[k]? = some (.int .u32 (kv q k : Nat)) := by
  rcases (show k = 0 ∨ k = 1 ∨ k = 2 by omega) with rfl | rfl | rfl <;> rfl
 rw [hkv] at cV
 have hcl := hcv.lt hk3
 have hc1 := hcv.2.1
 have ha := VK hk3 (cc k)
 have hvb : vb q cc k = gU (kv q k - (sG k).getD (cc k) 0) ((lR k).getD (cc k) 0) := rfl
 have e1 : (r : Int) + 1 = ((3 - j : Nat) : Int) := by omega
 generalize (sG k).getD (cc k) 0 = bg at *
 generalize (lR k).getD (cc k) 0 = ad at *
 obtain ⟨y, hy⟩ : ∃ y, y = kv q k - bg := ⟨_, rfl⟩
 rw [<- hy] at hvb
 have es : IntKind.u32.wrap (((kv q k : Nat) : Int) - (bg : Int)) = (y : Int) := by rw [w32 (by omega) (by omega)]; omega
 have ey : IntKind.u64.wrap (y : Int) = (y : Int) := iI (by omega) (by omega)
 simp (disch := omega) only [Kh, Ka, J3, aA, cV, aG, dZ, es, kG, ey]
 refine (arL (x := y) (n := ad) (hW1.ext x2 (fun h => h) (fun _ _ h => h)) (fun b hb => by have := x2.size; have := x1.size; omega) (by omega) (by omega) (by rw [aI8]; omega)).mono ?_
 rintro rr w3 ⟨rfl, hW3, x3⟩
 simp (disch := omega) only [e1]
 rw [aJc, <- hvb, <- hOS, <- ek3] at hW3
 refine ⟨j, by omega, j, rfl, by omega, rfl, hW3, ?_, (x1.more x2).seq x3⟩
 rw [ek3, hOS, aI8, hvb, dQ]; omega
theorem aFr {k6 : K1} {pt p ps : Nat} {t : Nat -> TT} {a : Nat -> Option Addr} {st : Nat -> Nat} {B : List Bool} {w : aLl} (hge : pt < p /\ p < ps) (oT : cM w pt (c6 t a)) (oS : cM w ps (s3L st)) (hW : Ws w (fun b => ps < b) p B) (hlg : ∀ k, k < 3 -> (t k).1 <= 9) (hst : ∀ k, k < 3 -> st k < 1000) (hB : B.length <= 90000000)
 (hk : ∀ (w' : aLl), Ws w' (fun b => ps < b) p (B ++ gU (st 2) (t 2).1 ++ gU (st 1) (t 1).1 ++ gU (st 0) (t 0).1) -> aS w w' (fun y => y = p ∨ ps < y) -> k6 (.pointer (some ⟨p, 0, none⟩)) w') :
 wH k6 (.pointer (some ⟨pt, 0, none⟩)) (.pointer (some ⟨p, 0, none⟩)) (.pointer (some ⟨ps, 0, none⟩)) (.agg #[.int .i64 2, .int .i64 1, .int .i64 0]) (.int .i64 0) w := by
 have hps := oS.lt
 have hsum : ∃ f : Nat -> List Bool, f 0 = B /\ f 1 = B ++ gU (st 2) (t 2).1 /\ f 2 = B ++ gU (st 2) (t 2).1 ++ gU (st 1) (t 1).1 /\ f 3 = B ++ gU (st 2) (t 2).1 ++ gU (st 1) (t 1).1 ++ gU (st 0) (t 0).1 := by
  exact ⟨fun r => if r = 0 then B else if r = 1 then B ++ gU (st 2) (t 2).1 else if r = 2 then B ++ gU (st 2) (t 2).1 ++ gU (st 1) (t 1).1 else B ++ gU (st 2) (t 2).1 ++ gU (st 1) (t 1).1 ++ gU (st 0) (t 0).1, rfl, rfl, rfl, rfl⟩
 obtain ⟨f, f0, f1, f2, f3⟩ := hsum
 have hf : ∀ r, r < 3 -> f (r + 1) = f r ++ gU (st (2 - r)) (t (2 - r)).1 := fun r hr => by
  rcases (show r = 0 ∨ r = 1 ∨ r = 2 by omega) with rfl | rfl | rfl
  .rw [f1, f0]
  .rw [f2, f1]
  .rw [f3, f2]
 rw [<- f3] at hk
 unfold wH
 refine cC.rule (fun m (x : aLm) w' => ∃ (j : Nat), m = j /\ j <= 3 /\ x = .int .i64 (3 - j : Nat) /\ Ws w' (fun b => ps < b) p (f (3 - j)) /\ (f (3 - j)).length <= B.length + 9 * (3 - j) /\ aS w w' (fun y => y = p ∨ ps < y)) 3
  ⟨3, rfl, aI9 _, rfl, by rw [show 3 - 3 = 0 from rfl, f0]; exact hW, by rw [show 3 - 3 = 0 from rfl, f0]; omega, aS.refl _ _⟩ ?_
 rintro j x w1 ⟨m, rfl, hj, rfl, hW1, hlen, x1⟩
 unfold wG
 rcases j with _ | j
 .have d1 : decide (((3 - 0 : Nat) : Int) < 3) = false := rfl
  simp (disch := omega) only [aC, aW, d1, bN, aT, aA, true_and, aD]
  exact hk _ hW1 x1
 obtain ⟨r, hr⟩ : ∃ r, r = 2 - j := ⟨_, rfl⟩
 have hr3 : r < 3 := by omega
 have ek : ((3 - (j + 1) : Nat) : Int) = (r : Int) := by omega
 have ek2 : 3 - (j + 1) = r := by omega
 have ek3 : 3 - j = r + 1 := by omega
 have d1 : decide ((r : Int) < 3) = true := by simp; omega
 have hx : (#[Value.int .i64 2, .int .i64 1, .int .i64 0] : Array aLm)[r]? = some (.int .i64 (2 - r : Nat)) := by
  rcases (show r = 0 ∨ r = 1 ∨ r = 2 by omega) with rfl | rfl | rfl <;> rfl
 have hfr := hf r hr3
 obtain ⟨k, hkk⟩ : ∃ k, k = 2 - r := ⟨_, rfl⟩
 have hk3 : k < 3 := by omega
 rw [ek]
 rw [ek2] at hW1 hlen
 rw [<- hkk] at hx hfr
 have hlgk := hlg k hk3
 have hstk := hst k hk3
 have oT1 := dT (oT.ext x1 (by omega))
 have oS1 := dT (oS.ext x1 (by omega))
 have cS := oS1.cell (off := k)
 rw [atN _ hk3] at cS
 have cT := oT1.cell (off := k * 2)
 have hcT : (c6 t a)[k * 2]? = some (.int .i64 (t k).1) := by
  rcases (show k = 0 ∨ k = 1 ∨ k = 2 by omega) with rfl | rfl | rfl <;> rfl
 rw [hcT] at cT
 have ey : IntKind.u64.wrap ((st k : Nat) : Int) = ((st k : Nat) : Int) := iI (by omega) (by omega)
 have e1 : (r : Int) + 1 = ((3 - j : Nat) : Int) := by omega
 simp (disch := omega) only [aC, aW, d1, tL, aIY, hx, aG, bN, aT, aA, true_and, rS, aIZ, cL, mV, bZ, cS, cT, fF, ey, aF]
 refine (arL (x := st k) (n := (t k).1) (hW1.ext (aS.dr w1 cI) (fun h => h) (fun _ _ h => h)) (fun b hb => by have h1 : (dr w1).heap.size = w1.heap.size := rfl
                                                                                                              have := x1.size; omega) (by omega) (by omega) (by omega)).mono ?_
 rintro rr w3 ⟨rfl, hW3, x3⟩
 simp (disch := omega) only [e1]
 rw [<- hfr, <- ek3] at hW3
 refine ⟨j, by omega, j, rfl, by omega, rfl, hW3, ?_, x1.seq ((aS.dr _ _).seq x3)⟩
 rw [ek3, hfr, aI8, dQ]; omega
def awK (t : Nat -> TT) (st : Nat -> Nat) (X : List Bool) : List Bool := X ++ gU (st 2) (t 2).1 ++ gU (st 1) (t 1).1 ++ gU (st 0) (t 0).1
def aIq (w : aLl) (base : Nat) (l : List Sq) (t : Nat -> TT) (r : aLm) : Prop :=
 ∃ bv bytes X st, r = .tuple #[bv, .int .i64 0] /\ Bs w bv bytes /\ AtI bv base w.heap.size /\ agA (awK t st X ++ [true]) bytes /\ Enc (t 0).2 (t 1).2 (t 2).2 l (st 0) (st 1) (st 2) X /\ (∀ k, k < 3 -> st k < (t k).2.length) /\ X.length <= 200 * l.length
theorem Ws.wr {w : aLl} {S : Nat -> Prop} {p : Nat} {B : List Bool} (h : Ws w S p B) : Wr w 0 p B := by
 have h1 := h.turn (T := fun b => 0 <= b /\ b ≠ p) (fun h => h.2 rfl) (fun b hb _ => ⟨aJW _, fun e => h.1 (e ▸ hb)⟩)
 obtain ⟨h0, v, bytes, a, b, c⟩ := h1
 exact ⟨aJW _, v, bytes, a, b, c⟩
theorem avU (w : aLl) : aR pg sS #[] w (fun r w' => r = .pointer (some ⟨w.heap.size, 0, none⟩) /\ w'.heap.size = w.heap.size + 1 /\ Ws w' (fun _ => False) w.heap.size [] /\ aS w w' cI) := by
 refine Jq ?_
 unfold LQ Ae
 simp (disch := omega) only [aC, pS, aA]
 refine gA fun w1 o1 x1 s1 => ?_
 simp only [Value.cells] at o1
 exact ⟨rfl, by omega, ⟨fun h => h, _, [], o1, ⟨rfl, .inl ⟨rfl, rfl⟩⟩, aAi⟩, x1⟩
theorem aBA {q : Sq} {k s t : Nat} {L : List T3} {cc : Nat -> Nat} {u : List Bool} {last : Bool} (hc : sV k (kv q k) (cc k)) (h : azG last L (cc k) s t u) : ValB k L s (kv q k) (vb q cc k) := by
 obtain ⟨⟨e, he, hes⟩, _⟩ := h
 exact ⟨cc k, e, hc, he, hes, rfl⟩
theorem aE5 (q : Sq) (cc : Nat -> Nat) {k : Nat} (hk : k < 3) : (vb q cc k).length <= 31 := by
 unfold vb; rw [dQ]; exact VK hk _
theorem Kp {last : Bool} {L : List T3} {c s t : Nat} {u : List Bool} (hL : Low L) (h : azG last L c s t u) : u.length <= 20 := by
 obtain ⟨_, h2⟩ := h
 split at h2
 .rw [h2]; simp
 .obtain ⟨e, n, x, he, hn, _, _, rfl⟩ := h2
  obtain ⟨m, h3, h4, _⟩ := hL _ (aJX he)
  rw [dQ]; omega
theorem aFf {last : Bool} {L : List T3} {c s t : Nat} {u : List Bool} (h : azG last L c s t u) : s < L.length := by
 obtain ⟨⟨e, he, _⟩, _⟩ := h
 rcases aJl s L.length with h | h
 .exact h
 .rw [aJk h] at he; cases he
theorem aDU {lv : aLm} {l : List Sq} {L : Nat -> List Nat} {v : Nat -> aLm} {D : Nat -> Nat -> Prop} {t : Nat -> TT} {a : Nat -> Option Addr} {w : aLl} (hg : vW w) (h : Cl w 3 lv l.length (TR l)) (h0 : 0 < l.length) (hl : l.length <= 10000) (hC : C3 w 0 L v D) (hK : ∀ k, k < 3 -> Y3 k l (L k)) (hT : JV w t a)
 (hG : ∀ k, k < 3 -> yT k (t k) /\ apW (t k).2 /\ ∀ c ∈ L k, ∃ e ∈ (t k).2, e.1 = (c : Int)) :
 aR pg xR #[lv, .agg (vL v).toArray, .agg (c6 t a).toArray] w (fun r w' => aIq w' w.heap.size l t r /\ aS w w' cI) := by
 refine TF ?_
 obtain ⟨RR, hRR⟩ : ∃ RR : aLm -> aLl -> Prop, RR = fun r w' => aIq w' w.heap.size l t r /\ aS w w' cI := ⟨_, rfl⟩
 rw [<- hRR]
 have hf := h
 obtain ⟨la, lc, rfl, _⟩ := hf
 unfold PM Al Au
 refine gA fun w1 o1 x1 s1 => ?_
 refine gA fun w2 o2 x2 s2 => ?_
 obtain ⟨y0, y1, y2, f0, f1, f2⟩ := hC.form
 have o1 : cM w1 w.heap.size (vL v) := by
  have e : (Value.agg (vL v).toArray).cells.toList = vL v := by unfold vL; rw [f0, f1, f2] <;> rfl
  rw [e] at o1
  exact o1
 have o2 : cM w2 w1.heap.size (c6 t a) := o2
 refine (avU w2).mono ?_
 rintro r w3 ⟨rfl, hlt3, hW3, x3⟩
 refine apV fun w4 o4 x4 s4 => ?_
 have o4 : cM w4 w3.heap.size (s3L (fun _ => 0)) := o4
 have x04 : aS w w4 cI := ((x1.seq x2).seq x3).seq x4
 obtain ⟨pe, hpe⟩ : ∃ pe, pe = w.heap.size := ⟨_, rfl⟩
 obtain ⟨pt, hpt⟩ : ∃ pt, pt = w1.heap.size := ⟨_, rfl⟩
 obtain ⟨p, hp⟩ : ∃ p, p = w2.heap.size := ⟨_, rfl⟩
 obtain ⟨ps, hps⟩ : ∃ ps, ps = w3.heap.size := ⟨_, rfl⟩
 have oE : cM w4 pe (vL v) := by rw [hpe]; exact ((o1.ext x2 (fun h => h)).ext x3 (fun h => h)).ext x4 (fun h => h)
 have oT : cM w4 pt (c6 t a) := by rw [hpt]; exact (o2.ext x3 (fun h => h)).ext x4 (fun h => h)
 have hW4 : Ws w4 (fun b => ps < b) p [] := by
  have h1 := hW3.ext x4 (fun h => h) (fun _ h => h.elim)
  rw [hp]
  exact h1.turn (by omega) (fun b h => h.elim)
 rw [<- hpe, <- hpt, <- hp, <- hps]
 rw [<- hps] at o4
 have hge : w.heap.size <= pe /\ pe < pt /\ pt < p /\ p < ps := ⟨by omega, by omega, by omega, by omega⟩
 have hlg : ∀ k, k < 3 -> (t k).1 <= 9 := fun k hk => (hG k hk).1.lg
 unfold AU AF As
 simp (disch := omega) only [aC, cB, aA, dZ, aT]
 unfold Ah AL
 refine cC.rule (fun k (x : aLm) w' => ∃ (m : Nat) (st : Nat -> Nat) (B : List Bool), k = m /\ m <= l.length /\ x = .int .i64 ((m : Int) - 1) /\ cM w' ps (s3L st) /\ Ws w' (fun b => ps < b) p B /\ (m < l.length -> Enc (t 0).2 (t 1).2 (t 2).2 (l.drop m) (st 0) (st 1) (st 2) B /\ ∀ k, k < 3 -> st k < (t k).2.length) /\ (m = l.length -> B = []) /\ B.length <= 200 * (l.length - m) /\ aS w4 w' (fun y => y = p ∨ y = ps ∨ ps < y)) l.length
  ⟨l.length, fun _ => 0, [], rfl, aI9 _, rfl, o4, hW4, fun h => by omega, fun _ => rfl, by simp, aS.refl _ _⟩ ?_
 rintro k x w5 ⟨m, st, B, rfl, hm, rfl, o5, hW5, hEn, hE0, hBl, x5⟩
 unfold uN Am
 have z04 := x04.size
 have x05 : aS w w5 cI := x04.trans x5 fun b hb h => by omega
 have oE5 := oE.ext x5 (by omega)
 have oT5 := oT.ext x5 (by omega)
 rcases k with _ | i
 .obtain ⟨hEn, hst⟩ := hEn h0
  rw [aI4] at hEn
  have d1 : decide ((0 : Int) <= ((0 : Nat) : Int) - 1) = false := rfl
  simp (disch := omega) only [aC, oD, d1, aA, aD]
  unfold Bw BH BA
  simp (disch := omega) only [aC, lL, aA]
  unfold Bx
  have hst' : ∀ k, k < 3 -> st k < 1000 := fun k hk => by
   have h1 := hst k hk
   have h2 : (t k).2.length <= 512 := by rw [(hG k hk).1.len]; exact aJa (by omega) (hlg k hk)
   omega
  refine aFr ⟨hge.2.2.1, hge.2.2.2⟩ oT5 o5 hW5 hlg hst' (by omega) fun w6 hW6 x6 => ?_
  unfold wL
  have hlen : (B ++ gU (st 2) (t 2).1 ++ gU (st 1) (t 1).1 ++ gU (st 0) (t 0).1).length <= 10000000 := by
   simp only [aI8, dQ]
   have := hlg 0 (by omega); have := hlg 1 (by omega); have := hlg 2 (by omega)
   omega
  refine (aFi hW6.wr hlen).mono ?_
  rintro r w7 ⟨bytes, hb7, hh, hat, x7⟩
  rw [hRR]
  have x06 : aS w w6 cI := x05.trans x6 fun b hb h => by omega
  have z6 := x06.size
  refine ⟨⟨r, bytes, B, st, rfl, hb7, fun M hM => hat M fun b h1 h2 => hM b (by omega) h2, hh, hEn, hst, by omega⟩, x06.seq x7⟩
 .have d1 : decide ((0 : Int) <= ((i + 1 : Nat) : Int) - 1) = true := by simp
  have e1 : ((i + 1 : Nat) : Int) - 1 = (i : Int) := by omega
  have d2 : decide ((0 : Int) <= (i : Int)) = true := by simp
  rw [e1]
  simp (disch := omega) only [aC, oD, d2, aA, aF]
  unfold Ai An Hy Aj AR
  simp (disch := omega) only [aC, lL, aA]
  unfold AA
  obtain ⟨q, hq⟩ : ∃ q, l[i]? = some q := ⟨_, aI7 hm⟩
  have hcx : ∃ cc : Nat -> Nat, ∀ k, k < 3 -> (L k)[i]? = some (cc k) := by
   have hj : ∀ k, k < 3 -> ∃ c, (L k)[i]? = some c := fun k hk => ⟨_, aI7 (by rw [(hK k hk).1]; exact hm)⟩
   obtain ⟨c0, h0⟩ := hj 0 (by omega)
   obtain ⟨c1, h1⟩ := hj 1 (by omega)
   obtain ⟨c2, h2⟩ := hj 2 (by omega)
   refine ⟨fun k => if k = 0 then c0 else if k = 1 then c1 else c2, fun k hk => ?_⟩
   rcases (show k = 0 ∨ k = 1 ∨ k = 2 by omega) with rfl | rfl | rfl
   .exact h0
   .exact h1
   .exact h2
  obtain ⟨cc, hcc⟩ := hcx
  have hcv : ∀ k, k < 3 -> sV k (kv q k) (cc k) := fun k hk => (hK k hk).2 i q _ hq (hcc k hk)
  refine aAv (n := l.length) (cc := cc) hT hC x05 hge oE5 oT5 o5 hW5 hm (by omega) (fun k hk => ⟨hcc k hk, (hcv k hk).1⟩) (fun k hk => ⟨(hG k hk).1, (hG k hk).2.1, (hG k hk).2.2 _ (aJX (hcc k hk))⟩) (fun h => (hEn h).2) (by omega) fun w6 st' us o6 hS hW6 x6 => ?_
  have z5 := x5.size
  have x06 : aS w w6 cI := x05.trans x6 fun b hb h => by omega
  unfold Ao AE
  obtain ⟨b, off, c', e, lq⟩ := aoE (zI h x06 (bU _) (by omega)) hq
  cases e
  have lq6 := lq w6 (fun _ => rfl)
  simp only [TQ] at lq6
  simp (disch := omega) only [aC, iC, aIY, lL, aA, lq6]
  refine (aAH q _).mono ?_
  rintro r w7 ⟨rfl, x7⟩
  refine WY fun w8 o8 x8 s8 => ?_
  refine VE o8 rfl (by simp [one, kvL]) (by simp) fun w9 o9 x9 s9 => ?_
  obtain ⟨pv, hpv⟩ : ∃ pv, pv = w7.heap.size := ⟨_, rfl⟩
  rw [<- hpv] at o9 ⊢
  have o9 : cM w9 pv (kvL q) := o9
  have x69 : aS w6 w9 cI := x7.seq (x8.new x9 (aI9 _))
  have z7 := x7.size
  have hps6 := o6.lt
  have x09 := x06.seq x69
  have hW9 : Ws w9 (fun b => ps < b /\ b ≠ pv) p (B ++ (us 1 ++ us 2 ++ us 0)) := by
   have h1 := hW6.turn (T := fun b => ps < b /\ b < w6.heap.size) (by omega) (fun b hb hl => ⟨hb, hl⟩)
   have h2 := h1.ext x69 (fun h => h) (fun _ _ h => h)
   exact h2.turn (by omega) (fun b hb _ => ⟨hb.1, by omega⟩)
  unfold AW
  have oE9 := (oE5.ext x6 (by omega)).ext x69 (fun h => h)
  refine aDk (q := q) (cc := cc) (i := i) hg hC x09 ⟨hge.1, hge.2.1, hge.2.2.1, hge.2.2.2, by omega⟩ oE9 o9 hW9 (fun k hk => ⟨hcc k hk, hcv k hk⟩) ?_ fun w10 hW10 x10 => ?_
  .have u0 := Kp (hG 0 (by omega)).1.low (hS 0 (by omega))
   have u1 := Kp (hG 1 (by omega)).1.low (hS 1 (by omega))
   have u2 := Kp (hG 2 (by omega)).1.low (hS 2 (by omega))
   simp only [aI8]; omega
  unfold wI
  simp (disch := omega) only [aC, dZ, aT, aA]
  have u0 := Kp (hG 0 (by omega)).1.low (hS 0 (by omega))
  have u1 := Kp (hG 1 (by omega)).1.low (hS 1 (by omega))
  have u2 := Kp (hG 2 (by omega)).1.low (hS 2 (by omega))
  have v0 := aE5 q cc (k := 0) (by omega)
  have v1 := aE5 q cc (k := 1) (by omega)
  have v2 := aE5 q cc (k := 2) (by omega)
  have hdr : l.drop i = q :: l.drop (i + 1) := by
   rw [aJC hm]
   congr 1
   rw [aI7 hm] at hq
   exact aJj hq
  have xz6 := x69.size
  have x6z : aS w4 w10 (fun y => y = p ∨ y = ps ∨ ps < y) := ((x5.seq x6).more x69).seq (x10.mono fun _ _ h => by
   rcases h with h | h
   .exact .inl h
   .exact .inr (.inr h.1))
  have o10 : cM w10 ps (s3L st') := (o6.ext x69 (fun h => h)).ext x10 (by omega)
  refine ⟨i, by omega, i, st', _, rfl, by omega, rfl, o10, hW10.turn (by omega) (fun b hb _ => hb.1), fun _ => ⟨?_, fun k hk => aFf (hS k hk)⟩, fun h => by omega, ?_, x6z⟩
  .have a0 := aBA (hcv 0 (by omega)) (hS 0 (by omega))
   have a1 := aBA (hcv 1 (by omega)) (hS 1 (by omega))
   have a2 := aBA (hcv 2 (by omega)) (hS 2 (by omega))
   rw [hdr]
   by_cases hlast : i + 1 = l.length
   .have hB0 := hE0 hlast
    have hd0 : l.drop (i + 1) = [] := aKa (by omega)
    have hus : ∀ k, k < 3 -> us k = [] := fun k hk => by
     have := (hS k hk).2
     rw [decide_eq_true hlast] at this
     exact this
    rw [hB0, hd0, hus 0 (by omega), hus 1 (by omega), hus 2 (by omega)]
    simp only [aJM, aJP]
    exact Enc.one a0 a1 a2
   .obtain ⟨hEn1, _⟩ := hEn (by omega)
    have hst : ∀ k, k < 3 -> StB (t k).2 (st' k) (st k) (us k) := fun k hk => by
     have := (hS k hk).2
     rw [decide_eq_false hlast] at this
     exact this
    cases hdd : l.drop (i + 1) with
    | nil =>
      have := congrArg List.length hdd
      rw [aJu] at this
      simp at this; omega
    | cons p' r' =>
      rw [hdd] at hEn1
      have := Enc.cons hEn1 (hst 1 (by omega)) (hst 2 (by omega)) (hst 0 (by omega)) a0 a1 a2
      simp only [aJc] at this ⊢
      exact this
  .simp only [aI8]; omega
theorem aFx {t : Nat -> TT} {st : Nat -> Nat} {X T : List Bool} {l : List Sq} (hE : Enc (t 0).2 (t 1).2 (t 2).2 l (st 0) (st 1) (st 2) X) (hst : ∀ k, k < 3 -> st k < 2 ^ (t k).1) (hT : T.take (awK t st X).length = awK t st X) : runT t T l.length ((awK t st X).length : Nat) = (l, 0) := by
 unfold awK at hT ⊢
 obtain ⟨a1, a2, a3⟩ := aqB (B := []) hT rfl (hst 0 (by omega))
 obtain ⟨b1, b2, b3⟩ := aqB (B := []) a3 rfl (hst 1 (by omega))
 obtain ⟨c1, c2, c3⟩ := aqB (B := []) b3 rfl (hst 2 (by omega))
 have := aFv hE c3
 unfold runT
 rw [a1, a2, b1, b2, c1, c2]
 exact this
theorem aC8 {t : Nat -> TT} {st : Nat -> Nat} {X : List Bool} {l : List Sq} {bytes : List UInt8} (hE : Enc (t 0).2 (t 1).2 (t 2).2 l (st 0) (st 1) (st 2) X) (hst : ∀ k, k < 3 -> st k < 2 ^ (t k).1) (hh : agA (awK t st X ++ [true]) bytes) : Fp t l.length bytes = .ok (l, t) := by
 obtain ⟨h1, h2⟩ := aEg hh
 have h3 := aFx hE hst h2
 unfold Fp
 rw [h1]
 simp only
 rw [h3]
 rfl
def Vz (m : Nat -> Nat) : Nat := m 0 * 64 + m 1 * 16 + m 2 * 4
theorem avX {m : Nat -> Nat} (hm : ∀ k, k < 3 -> m k <= 3) {k : Nat} (hk : k < 3) : TP (Vz m) k = m k := by
 have h0 := hm 0 (by omega); have h1 := hm 1 (by omega); have h2 := hm 2 (by omega)
 unfold TP Vz
 rcases (show k = 0 ∨ k = 1 ∨ k = 2 by omega) with rfl | rfl | rfl
 .show (m 0 * 64 + m 1 * 16 + m 2 * 4) / 64 % 4 = m 0; omega
 .show (m 0 * 64 + m 1 * 16 + m 2 * 4) / 16 % 4 = m 1; omega
 .show (m 0 * 64 + m 1 * 16 + m 2 * 4) / 4 % 4 = m 2; omega
theorem aDr {m : Nat -> Nat} {c : Nat -> List Int} {t : Nat -> TT} {bs : Nat -> List UInt8} (h : ∀ k : Nat, k < 3 -> Xk (k : Int) (c k) (m k : Nat) (t k).1 (t k).2 (bs k)) (o : Nat -> TT) (s : List UInt8) :
 EX (Vz m) o 3 o (bs 0 ++ (bs 1 ++ (bs 2 ++ s))) = .ok (QU (QU (QU o 0 (t 0)) 1 (t 1)) 2 (t 2), s) := by
 have hm : ∀ k, k < 3 -> m k <= 3 := fun k hk => by have := (h k hk).mode2; omega
 have e0 := avX hm (k := 0) (by omega)
 have e1 := avX hm (k := 1) (by omega)
 have e2 := avX hm (k := 2) (by omega)
 have r0 := (h 0 (by omega)).read (o 0) (bs 1 ++ (bs 2 ++ s))
 have r1 := (h 1 (by omega)).read (o 1) (bs 2 ++ s)
 have r2 := (h 2 (by omega)).read (o 2) s
 rw [EX]
 simp only [show 2 - 2 = 0 from rfl, e0]
 rw [r0]
 simp only [aK9]
 rw [EX]
 simp only [show 2 - 1 = 1 from rfl, e1]
 rw [r1]
 simp only [aK9]
 rw [EX]
 simp only [show 2 - 0 = 2 from rfl, e2]
 rw [r2]
 simp only [aK9]
 rfl
def aDM (n : Nat) (m : Nat -> Nat) (bs : Nat -> List UInt8) (s : List UInt8) : List UInt8 := alV n ++ (UInt8.ofNat (Vz m) :: (bs 0 ++ (bs 1 ++ (bs 2 ++ s))))
theorem aEA {l : List Sq} {m : Nat -> Nat} {c : Nat -> List Int} {t : Nat -> TT} {bs : Nat -> List UInt8} {st : Nat -> Nat} {X : List Bool} {s : List UInt8} (h0 : 0 < l.length) (hl : l.length <= 98047) (h : ∀ k : Nat, k < 3 -> Xk (k : Int) (c k) (m k : Nat) (t k).1 (t k).2 (bs k))
 (hE : Enc (t 0).2 (t 1).2 (t 2).2 l (st 0) (st 1) (st 2) X) (hst : ∀ k, k < 3 -> st k < (t k).2.length) (hh : agA (awK t st X ++ [true]) s) (o : Nat -> TT) :
 ∃ t', BM (aDM l.length m bs s) o = .ok (l, t') /\ ∀ k, k < 3 -> t' k = t k := by
 have hg : ∀ k, k < 3 -> yT k (t k) := fun k hk => afU hk (h k hk)
 have hst' : ∀ k, k < 3 -> st k < 2 ^ (t k).1 := fun k hk => by rw [<- (hg k hk).len]; exact hst k hk
 have hm : ∀ k, k < 3 -> m k <= 2 := fun k hk => by have := (h k hk).mode2; omega
 have m0 := hm 0 (by omega); have m1 := hm 1 (by omega); have m2 := hm 2 (by omega)
 have hmod : Vz m < 256 := by unfold Vz; omega
 refine ⟨QU (QU (QU o 0 (t 0)) 1 (t 1)) 2 (t 2), ?_, fun k hk => ?_⟩
 .unfold BM aDM
  rw [aDf hl]
  simp only
  rw [if_neg (by omega)]
  unfold auW
  simp only
  rw [RH hmod, if_neg (by unfold Vz; omega), aDr h]
  simp only
  have e0 : QU (QU (QU o 0 (t 0)) 1 (t 1)) 2 (t 2) 0 = t 0 := rfl
  have e1 : QU (QU (QU o 0 (t 0)) 1 (t 1)) 2 (t 2) 1 = t 1 := rfl
  have e2 : QU (QU (QU o 0 (t 0)) 1 (t 1)) 2 (t 2) 2 = t 2 := rfl
  refine aC8 (st := st) (X := X) (by rw [e0, e1, e2]; exact hE) (fun k hk => ?_) (by unfold awK at hh ⊢; rw [e0, e1, e2]; exact hh)
  rcases (show k = 0 ∨ k = 1 ∨ k = 2 by omega) with rfl | rfl | rfl
  .rw [e0]; exact hst' 0 hk
  .rw [e1]; exact hst' 1 hk
  .rw [e2]; exact hst' 2 hk
 .rcases (show k = 0 ∨ k = 1 ∨ k = 2 by omega) with rfl | rfl | rfl <;> rfl
def Cw (w : aLl) (p : Nat) (S : Nat -> Prop) (l : List UInt8) : Prop := ¬ S p /\ ∃ v, cM w p [v] /\ OSS w S 1 v l.length (l.map KY)
theorem Cw.ext {w w' : aLl} {p : Nat} {S M : Nat -> Prop} {l : List UInt8} (h : Cw w p S l) (x : aS w w' M) (hp : ¬ M p) (hM : ∀ b, S b -> ¬ M b) : Cw w' p S l := by
 obtain ⟨h0, v, h1, h2⟩ := h
 exact ⟨h0, v, h1.ext x hp, Pa h2 x hM⟩
theorem Cw.lt {w : aLl} {p : Nat} {S : Nat -> Prop} {l : List UInt8} (h : Cw w p S l) : p < w.heap.size := by
 obtain ⟨_, v, h1, _⟩ := h; exact h1.lt
theorem Cw.turn {w : aLl} {p : Nat} {S T : Nat -> Prop} {l : List UInt8} (h : Cw w p S l) (hT : ∀ b, S b -> b < w.heap.size -> T b) (hp : ¬ T p) : Cw w p T l := by
 obtain ⟨h0, v, h1, h2, h3⟩ := h
 refine ⟨hp, v, h1, h2, ?_⟩
 rcases h3 with h3 | ⟨b, c, rest, g1, g2, g3, g4, g5⟩
 .exact .inl h3
 .exact .inr ⟨b, c, rest, g1, hT b g2 g3.lt, g3, g4, g5⟩
theorem VC {w : aLl} {S : Nat -> Prop} {sz n : Nat} {v : aLm} {l : List aLm} (o3 : OSS w S sz v n l) : ∃ a c, v = .slice a n c := by
 rcases o3.2 with ⟨rfl, rfl⟩ | ⟨b, c, rest, rfl, _⟩
 .exact ⟨_, _, rfl⟩
 .exact ⟨_, _, rfl⟩
theorem aBk {w : aLl} {S : Nat -> Prop} {n : Nat} {v : aLm} {l : List aLm} (o3 : OSS w S 1 v n l) : Sl w v l := by
 have : uD w 0 1 v n l := ⟨o3.1, by
  rcases o3.2 with h | ⟨b, c, rest, g1, g2, g3⟩
  .exact .inl h
  .exact .inr ⟨b, c, rest, g1, by omega, g3⟩⟩
 exact this.sl
theorem aA7 (w : aLl) : aR pg xI #[] w (fun r w' => r = .pointer (some ⟨w.heap.size, 0, none⟩) /\ w.heap.size < w'.heap.size /\ Cw w' w.heap.size (fun b => w.heap.size < b) [] /\ aS w w' cI) := by
 refine Tg ?_
 unfold QR By
 simp (disch := omega) only [aC, pH, aA]
 refine gA fun w1 o1 x1 s1 => ?_
 simp only [Value.cells] at o1
 exact ⟨rfl, by omega, ⟨by omega, _, o1, ⟨rfl, .inl ⟨rfl, rfl⟩⟩⟩, x1⟩
theorem aoZ {p : Nat} {S : Nat -> Prop} {l m : List UInt8} {v : aLm} {w : aLl} (h : Cw w p S l) (hS : ∀ b, w.heap.size <= b -> S b) (hv : Bs w v m) (hl : l.length + m.length <= 1000000000) :
 aR pg pZ #[.pointer (some ⟨p, 0, none⟩), v] w (fun r w' => r = .tuple #[] /\ Cw w' p S (l ++ m) /\ aS w w' (fun y => y = p ∨ S y)) := by
 refine Pz ?_
 unfold Jv yM
 obtain ⟨h0, v0, o, os⟩ := h
 obtain ⟨va, vc, rfl⟩ := VC os
 have c0 := o.cell (off := 0)
 simp only [aI0, aI1] at c0
 have lp := o.lt
 simp (disch := omega) only [aC, mH, aJm, aJT, rI, true_and, aA, jV, fS, c0, aG, aF]
 have hcl := hv.cl
 rw [aJb] at hcl
 refine Av (m := m.length) (news := m.map KY) (i := Tryd.t5) Tryd.underlying22 Tryd.underlying22 Yy rfl rfl rfl os hcl (aBL _) (fun b hb => hS b hb) (by omega) (by rw [show Tryd.t5.bytes = 1 from rfl]; omega) (by decide) fun v3 w3 o3 x3 => ?_
 have op3 := o.ext x3 h0
 obtain ⟨a3, c3, rfl⟩ := VC o3
 refine Hx op3 rfl (by simp) fun w4 o4 x4 s4 => ?_
 simp only [aI2, aI3] at o4
 refine ⟨⟨h0, _, o4, ?_⟩, (x3.mono fun y _ h => .inr h).seq (x4.mono fun y _ h => .inl h)⟩
 have := Pa o3 x4 (fun b hb h => h0 (h ▸ hb))
 rw [aI8, aJJ]
 exact this
theorem NC {p x n : Nat} {S : Nat -> Prop} {l : List UInt8} {w : aLl} (h : Cw w p S l) (hS : ∀ b, w.heap.size <= b -> S b) (hx : x < 2 ^ 64) (hn : 1 <= n /\ n <= 8) (hl : l.length <= 100000000) :
 aR pg iM #[.pointer (some ⟨p, 0, none⟩), .int .u64 x, .int .i64 n] w (fun r w' => r = .tuple #[] /\ Cw w' p S (l ++ PW x n) /\ aS w w' (fun y => y = p ∨ S y)) := by
 refine M1 ?_
 unfold Hk wV wR
 have d1 : decide ((n : Int) < 1) = false := by simp; omega
 have d2 : decide ((8 : Int) < (n : Int)) = false := by simp; omega
 simp (disch := omega) only [aC, kS, aJm, true_and, aA, dG, bM, aI5, if_false, bP, aW, d1, dO, d2, aD]
 unfold wU wM
 refine cC.rule (fun m (t : aLm) w' => ∃ i : Nat, m = n - i /\ t = .int .i64 i /\ i <= n /\ Cw w' p S (l ++ PW x i) /\ aS w w' (fun y => y = p ∨ S y)) n
  ⟨0, rfl, rfl, by omega, by rw [PW, aJP]; exact h, aS.refl _ _⟩ ?_
 rintro m t w1 ⟨i, rfl, rfl, hi, hw, x1⟩
 unfold rJ
 by_cases hlt : i < n
 .have d3 : decide ((i : Int) < (n : Int)) = true := by simp; omega
  have e0 : ((8 : Int) * (i : Int)) = ((8 * i : Nat) : Int) := by omega
  have e1 : (x : Int).fdiv (2 ^ (min (8 * i) IntKind.u64.bits)) = ((x / 256 ^ i : Nat) : Int) := by
   rw [aBW]; exact VH x (8 * i) (by omega)
  have e2 : IntKind.u8.wrap ((x / 256 ^ i : Nat) : Int) = (((UInt8.ofNat (x / 256 ^ i % 256)).toNat : Nat) : Int) := by
   rw [UInt8.toNat_ofNat']
   generalize x / 256 ^ i = y
   rw [show IntKind.u8.wrap (y : Int) = (y : Int) % 256 from rfl]
   omega
  obtain ⟨c, hc⟩ : ∃ c, c = UInt8.ofNat (x / 256 ^ i % 256) := ⟨_, rfl⟩
  rw [<- hc] at e2
  obtain ⟨h0, v0, o, os⟩ := hw
  obtain ⟨va, vc, rfl⟩ := VC os
  have c0 := o.cell (off := 0)
  simp only [aI0, aI1] at c0
  have lp := o.lt
  have hsz := x1.size
  have hpl := Dn i x
  rw [aI8, hpl] at os
  rw [aI8, hpl] at c0
  simp (disch := omega) only [aC, aW, d3, rI, pX, e0, aT, bN, aA, jV, jB, iI, vY, aIY, e1, lH, e2, fS, c0, aG, aF]
  refine AP (cells := #[.int .u8 c.toNat]) (by decide) (by decide) (by kernel_rfl) fun w2 o2 x2 s2 => ?_
  refine Av (m := 1) (news := [KY c]) (i := Tryd.t5) Tryd.underlying22 Tryd.underlying22 Yy rfl rfl rfl (Pa os x2 (fun _ _ h => h)) (o2.cl (off := 0) (l := [KY c]) (n := 1) rfl (fun i hi => by rw [aIZ] <;> rfl)) (by simp [one, KY]) (fun b hb => hS b (by omega)) (by omega) (by rw [show Tryd.t5.bytes = 1 from rfl]; omega) (by decide) fun v3 w3 o3 x3 => ?_
  have x13 : aS w1 w3 S := (x2.mono fun _ _ h => h.elim).seq x3
  have op3 := o.ext x13 h0
  obtain ⟨a3, c3, rfl⟩ := VC o3
  refine Hx op3 rfl (by simp) fun w4 o4 x4 s4 => ?_
  simp only [aI2, aI3] at o4
  have x14 : aS w1 w4 (fun y => y = p ∨ S y) := (x13.mono fun y _ h => .inr h).seq (x4.mono fun y _ h => .inl h)
  refine ⟨n - (i + 1), by omega, i + 1, rfl, rfl, by omega, ⟨h0, _, o4, ?_⟩, x1.seq x14⟩
  have := Pa o3 x4 (fun b hb h => h0 (h ▸ hb))
  rw [avH, <- hc, <- aJc, aJJ, aI8, aI8, Dn]
  exact this
 .have d3 : decide ((i : Int) < (n : Int)) = false := by simp; omega
  obtain rfl : i = n := by omega
  simp (disch := omega) only [aC, aW, d3, rI, pX, aT, bN, aA, jV, jB, iI, vY, lH, fS, aD]
  exact ⟨hw, x1⟩
theorem aD1 {p : Nat} {S : Nat -> Prop} {l : List UInt8} {w : aLl} (h : Cw w p S l) (hl : l.length <= 1000000000) :
 aR pg wK #[.pointer (some ⟨p, 0, none⟩)] w (fun r w' => uD w' w.heap.size 1 r l.length (l.map KY) /\ aS w w' cI) := by
 refine Ra ?_
 unfold Nb AZ
 obtain ⟨h0, v0, o, os⟩ := h
 obtain ⟨va, vc, rfl⟩ := VC os
 have c0 := o.cell (off := 0)
 simp only [aI0, aI1] at c0
 simp (disch := omega) only [aC, kS, aJm, rI, aA, jV, fS, c0, aG, aD]
 exact VP (aBk os) hl
def aDK (m : Nat -> Nat) (k : Nat) : Nat := if k = 0 then 0 else if k = 1 then m 0 * 64 else if k = 2 then m 0 * 64 + m 1 * 16 else m 0 * 64 + m 1 * 16 + m 2 * 4
theorem aDP {m : Nat -> Nat} {k x : Nat} (hk : k < 3) (hm : ∀ i, i < k -> m i <= 2) (hx : x <= 2) : aDK m k ||| (x * 2 ^ (6 - 2 * k)) = aDK (upS m k x) (k + 1) /\ aDK m k < 256 := by
 have h1 : ∀ x, x < 3 -> 0 ||| (x * 64) = x * 64 := by decide
 have h2 : ∀ a, a < 3 -> ∀ x, x < 3 -> (a * 64) ||| (x * 16) = a * 64 + x * 16 := by decide
 have h3 : ∀ a, a < 3 -> ∀ b, b < 3 -> ∀ x, x < 3 -> (a * 64 + b * 16) ||| (x * 4) = a * 64 + b * 16 + x * 4 := by decide
 rcases (show k = 0 ∨ k = 1 ∨ k = 2 by omega) with rfl | rfl | rfl
 .exact ⟨h1 x (by omega), by unfold aDK; simp⟩
 .have a := hm 0 (by omega)
  exact ⟨h2 (m 0) (by omega) x (by omega), by show m 0 * 64 < 256; omega⟩
 .have a := hm 0 (by omega)
  have b := hm 1 (by omega)
  exact ⟨h3 (m 0) (by omega) (m 1) (by omega) x (by omega), by show m 0 * 64 + m 1 * 16 < 256; omega⟩
def asV (bs : Nat -> List UInt8) (k : Nat) : List UInt8 := if k = 0 then [] else if k = 1 then bs 0 else if k = 2 then bs 0 ++ bs 1 else bs 0 ++ bs 1 ++ bs 2
def upB (bs : Nat -> List UInt8) (k : Nat) (x : List UInt8) : Nat -> List UInt8 := fun i => if i = k then x else bs i
theorem aCT {bs : Nat -> List UInt8} {k : Nat} (hk : k < 3) (x : List UInt8) : asV (upB bs k x) (k + 1) = asV bs k ++ x := by
 rcases (show k = 0 ∨ k = 1 ∨ k = 2 by omega) with rfl | rfl | rfl <;> simp [asV, upB]
def TbE (w : aLl) (E : Nat -> Prop) (o : Nat -> TT) (a : Nat -> Option Addr) : Prop := ∀ k, k < 3 -> (o k = (0, []) /\ a k = none) ∨ ∃ b, E b /\ Tbl w 0 b (o k).1 (o k).2 (tvL (o k) (a k))
theorem TbE.tb {w : aLl} {E : Nat -> Prop} {o : Nat -> TT} {a : Nat -> Option Addr} (h : TbE w E o a) : JV w o a := fun k hk => by
 rcases h k hk with ⟨h1, h2⟩ | ⟨b, _, h⟩
 .left; rw [h1, h2]; exact ⟨rfl, rfl⟩
 .exact .inr ⟨b, h⟩
theorem TbE.ext {w w' : aLl} {E M : Nat -> Prop} {o : Nat -> TT} {a : Nat -> Option Addr} (h : TbE w E o a) (x : aS w w' M) (hM : ∀ b, E b -> ¬ M b) : TbE w' E o a := fun k hk => by
 rcases h k hk with h | ⟨b, hb, h1, h2, h3⟩
 .exact .inl h
 .exact .inr ⟨b, hb, h1, h2, h3.ext x (hM b hb)⟩
theorem C3.extD {w w' : aLl} {base : Nat} {L : Nat -> List Nat} {v : Nat -> aLm} {D : Nat -> Nat -> Prop} {M : Nat -> Prop} (h : C3 w base L v D) (x : aS w w' M) (hM : ∀ k, k < 3 -> ∀ b, D k b -> ¬ M b) : C3 w' base L v D :=
 ⟨fun k hk => (h.row k hk).ext x fun b hb => hM k hk b hb, fun k hk b hb => ⟨(h.bd k hk b hb).1, by have := (h.bd k hk b hb).2; have := x.size; omega⟩, h.sep⟩
def iL (L : List Nat) : List Int := L.map fun (n : Nat) => (n : Int)
theorem aEx {k1 : K6} {RR : K1} {lv wv : aLm} {pe pt : Nat} {L : Nat -> List Nat} {v : Nat -> aLm} {D : Nat -> Nat -> Prop} {w : aLl} (hg : vW w) (oE : cM w pe (vL v)) (hC : C3 w 0 L v D) (oT : cM w pt (c6 (fun _ => (0, [])) (fun _ => none))) (hpe : pe ≠ pt) (hD : ∀ k, k < 3 -> ∀ b, D k b -> b ≠ pt) (x0 : ∀ w', aS w w' (fun y => y = pt) -> vW w')
 (hL : ∀ k, k < 3 -> L k ≠ [] /\ (L k).length <= 10000 /\ ∀ c ∈ L k, c < lI k)
 (hk : ∀ (w' : aLl) (t : Nat -> TT) (a : Nat -> Option Addr) (m : Nat -> Nat) (bs : Nat -> List UInt8) (tv : aLm), (∀ k : Nat, k < 3 -> Xk (k : Int) (iL (L k)) (m k : Nat) (t k).1 (t k).2 (bs k)) -> cM w' pt (c6 t a) -> JV w' t a -> Bs w' tv (bs 0 ++ bs 1 ++ bs 2) -> AtI tv w.heap.size w'.heap.size -> aS w w' (fun y => y = pt) -> k1 lv wv (.pointer (some ⟨pe, 0, none⟩)) (.pointer (some ⟨pt, 0, none⟩)) (.int .i64 (Vz m)) tv w') :
 xV k1 RR lv wv (.pointer (some ⟨pe, 0, none⟩)) (.pointer (some ⟨pt, 0, none⟩)) (.int .i64 0) (.slice none 0 0) (.int .i64 0) w := by
 have hpt := oT.lt
 unfold xV
 refine cC.rule (fun n (x : aLm × aLm × aLm) w' => ∃ (j : Nat) (t : Nat -> TT) (a : Nat -> Option Addr) (m : Nat -> Nat) (bs : Nat -> List UInt8) (tv : aLm) (E Dt : Nat -> Prop), n = j /\ j <= 3 /\ x = (.int .i64 (aDK m (3 - j) : Nat), tv, .int .i64 (3 - j : Nat)) /\
  (∀ k : Nat, k < 3 - j -> Xk (k : Int) (iL (L k)) (m k : Nat) (t k).1 (t k).2 (bs k)) /\ (∀ k, k < 3 -> ¬ k < 3 - j -> t k = (0, []) /\ a k = none) /\ cM w' pt (c6 t a) /\ TbE w' E t a /\ OSS w' Dt 1 tv (asV bs (3 - j)).length ((asV bs (3 - j)).map KY) /\ (asV bs (3 - j)).length <= 1000 * (3 - j) /\
  (∀ b, E b -> w.heap.size <= b /\ b < w'.heap.size) /\ (∀ b, Dt b -> w.heap.size <= b /\ b < w'.heap.size) /\ (∀ b, Dt b -> ¬ E b) /\ aS w w' (fun y => y = pt)) 3
  ⟨3, fun _ => (0, []), fun _ => none, fun _ => 0, fun _ => [], _, fun _ => False, fun _ => False, rfl, aI9 _, rfl, fun k h => by omega, fun _ _ _ => ⟨rfl, rfl⟩, oT, fun _ _ => .inl ⟨rfl, rfl⟩, ⟨rfl, .inl ⟨rfl, rfl⟩⟩, aI9 _, fun _ h => h.elim, fun _ h => h.elim, fun _ h => h.elim, aS.refl _ _⟩ ?_
 rintro j x w1 ⟨n, t, a, m, bs, tv, E, Dt, rfl, hj, rfl, hW, hU, o1, hE, hos, hlen, hEb, hDb, hsep, x1⟩
 have z1 := x1.size
 unfold xS
 rcases j with _ | j
 .have d1 : decide (((3 - 0 : Nat) : Int) < 3) = false := rfl
  simp (disch := omega) only [aC, aW, d1, pX, aT, bN, aA, dZ, aD]
  refine hk _ t a m bs tv (fun k hk => hW k hk) o1 hE.tb (aBk hos) (fun M hM => ?_) x1
  rcases hos.2 with ⟨rfl, _⟩ | ⟨b, c, rest, rfl, h2, h3, _⟩
  .exact fun h => h
  .exact At.at b 0 _ c M (hM b (hDb b h2).1 h3.lt)
 obtain ⟨k, hkk⟩ : ∃ k, k = 2 - j := ⟨_, rfl⟩
 have hk3 : k < 3 := by omega
 have ek : ((3 - (j + 1) : Nat) : Int) = (k : Int) := by omega
 have ek2 : 3 - (j + 1) = k := by omega
 have ek3 : 3 - j = k + 1 := by omega
 have d1 : decide ((k : Int) < 3) = true := by simp; omega
 rw [ek]
 rw [ek2] at hW hU hos hlen ⊢
 obtain ⟨hL1, hL2, hL3⟩ := hL k hk3
 have oE1 := oE.ext x1 hpe
 have hC1 := hC.extD x1 (fun k hk b hb => hD k hk b hb)
 have cE := oE1.cell (off := k)
 rw [aBZ _ hk3] at cE
 simp (disch := omega) only [aC, aW, d1, nQ, aIY, aIZ, cL, pX, aT, bN, aA, dZ, cF, cE, aG, aF]
 have hsl : Sl w1 (v k) ((iL (L k)).map (Value.int .i64)) := by
  have := aBk (hC1.row k hk3)
  unfold iL
  rw [List.map_map]
  exact this
 refine (aEE (x0 w1 x1) hsl (by unfold iL; rw [aJb]; omega)).mono ?_
 rintro r w2 ⟨hr, x2⟩
 rcases hr with ⟨hno, _⟩ | ⟨_, mode, lg, T, bytes, tt, bv, rfl, hV, hob, hWr⟩
 .exfalso
  refine hno ⟨by omega, by unfold iL; intro h; exact hL1 (List.map_eq_nil_iff.1 h), fun x hx => ?_⟩
  unfold iL at hx
  obtain ⟨c, hc, rfl⟩ := aJO.1 hx
  have := hL3 c hc
  rw [aCD hk3]
  omega
 have h0 := hWr.mode0
 have h2 := hWr.mode2
 obtain ⟨md, rfl⟩ : ∃ md : Nat, mode = md := ⟨mode.toNat, by omega⟩
 have hbl := hWr.blen
 obtain ⟨ta, rfl⟩ := hV.form
 have z2 := x2.size
 have n0 : ((0 : Int) != 0) = false := rfl
 simp (disch := omega) only [x40, x41, x42, x43, aA, fB, mO, ahI]
 refine kD fun w3 o3 x3 s3 => ?_
 refine eL o3 rfl (by simp [one]) (by simp) fun w4 o4 x4 s4 => ?_
 have o4 : cM w4 w2.heap.size [.int .i64 lg, .slice ta T.length T.length] := o4
 have x24 : aS w2 w4 cI := x3.new x4 (aI9 _)
 have z4 := x24.size
 have x14 := x2.seq x24
 have l4 := fZ (off := 0) o4 (by simp)
 simp only [aI4, aIX, aI6] at l4
 simp (disch := omega) only [n0, l4, aA, aD]
 refine eL (o1.ext x14 (fun h => h)) rfl (by simp [one]) (by simp [c6]; omega) fun w5 o5 x5 s5 => ?_
 have o5 : cM w5 pt (c6 (QU t k (lg, T)) (upA a k ta)) := by rw [<- awA _ _ hk3]; exact o5
 have e2 : (2 : Int) * (k : Int) = ((2 * k : Nat) : Int) := by omega
 have e6 : (6 : Int) - ((2 * k : Nat) : Int) = ((6 - 2 * k : Nat) : Int) := by omega
 have hm2 : ∀ i, i < k -> m i <= 2 := fun i hi => by have := (hW i hi).mode2; omega
 obtain ⟨hst, hp8⟩ := aDP (m := m) hk3 hm2 (x := md) (by omega)
 have hb64 : IntKind.i64.bits = 64 := rfl
 have hpw : (md : Int) * 2 ^ min (6 - 2 * k) IntKind.i64.bits = ((md * 2 ^ (6 - 2 * k) : Nat) : Int) := by
  rw [hb64, aJS (by omega)]; simp
 have hpl : 2 ^ (6 - 2 * k) <= 2 ^ 6 := aJa (by omega) (by omega)
 have hml : md * 2 ^ (6 - 2 * k) <= 2 * 2 ^ 6 := Nat.mul_le_mul (by omega) hpl
 have eor := awW (a := aDK m k) (b := md * 2 ^ (6 - 2 * k)) (by omega) (by omega)
 rw [hst] at eor
 have ew : IntKind.i64.wrap ((md * 2 ^ (6 - 2 * k) : Nat) : Int) = ((md * 2 ^ (6 - 2 * k) : Nat) : Int) := aT (by omega) (by omega)
 simp (disch := omega) only [e2, e6, aIY, hpw, ew, eor]
 have x15 : aS w1 w5 (fun y => y = pt) := (x14.mono fun _ _ h => h.elim).seq x5
 have z5 := x15.size
 have hDpt : ∀ b, Dt b -> b ≠ pt := fun b hb => by have := (hDb b hb).1; omega
 have hos5 : OSS w5 (fun b => Dt b ∨ w5.heap.size <= b) 1 tv (asV bs k).length ((asV bs k).map KY) := by
  have := (hos.ext x15 (fun b hb => hDpt b hb))
  refine ⟨this.1, ?_⟩
  rcases this.2 with h | ⟨b, c, rest, e, hb, r⟩
  .exact .inl h
  .exact .inr ⟨b, c, rest, e, .inl hb, r⟩
 have hob5 := (hob.ext x24 (fun _ _ h => h)).ext x5 (fun b hb h => by omega)
 refine Av (m := bytes.length) (news := bytes.map KY) (i := Tryd.t5) Tryd.underlying22 Tryd.underlying22 Yy rfl rfl rfl hos5 hob5.cl (aBL _) (fun b hb => .inr hb) (by omega) (by rw [show Tryd.t5.bytes = 1 from rfl]; omega) (by decide) fun v6 w6 o6 x6 => ?_
 have z6 := x6.size
 have e1 : (k : Int) + 1 = ((3 - j : Nat) : Int) := by omega
 have hcs := aCT (bs := bs) hk3 bytes
 have hW6 : OSS w6 (fun b => (Dt b ∨ w5.heap.size <= b) /\ b < w6.heap.size) 1 v6 (asV (upB bs k bytes) (k + 1)).length ((asV (upB bs k bytes) (k + 1)).map KY) := by
  rw [hcs, aI8, aJJ]
  refine ⟨o6.1, ?_⟩
  rcases o6.2 with h | ⟨b, c, rest, e, hb, ho, r⟩
  .exact .inl h
  .exact .inr ⟨b, c, rest, e, ⟨hb, ho.lt⟩, ho, r⟩
 have hS6 : ∀ b, (Dt b ∨ w5.heap.size <= b) -> b < w5.heap.size -> Dt b := fun b hb hl => by
  rcases hb with h | h
  .exact h
  .omega
 simp (disch := omega) only [e1]
 refine ⟨j, by omega, j, QU t k (lg, T), upA a k ta, upS m k md, upB bs k bytes, v6, fun b => E b ∨ (w1.heap.size <= b /\ b < w2.heap.size), fun b => (Dt b ∨ w5.heap.size <= b) /\ b < w6.heap.size, rfl, by omega, by rw [ek3], fun i hi => ?_, fun i hi hni => ?_, ?_, ?_, by rw [ek3]; exact hW6, ?_, ?_, ?_, ?_, ?_⟩
 .rw [ek3] at hi
  unfold QU upS upB
  by_cases he : i = k
  .subst he; simp only [if_pos rfl]; exact hWr
  .simp only [if_neg he]; exact hW i (by omega)
 .rw [ek3] at hni
  unfold QU upA
  rw [if_neg (by omega), if_neg (by omega)]
  exact hU i hi (by omega)
 .refine o5.ext x6 fun h => ?_
  rcases h with h | h
  .exact hDpt pt h rfl
  .omega
 .intro i hi
  by_cases he : i = k
  .subst he
   rcases hV with ⟨e, e'⟩ | ⟨b, hb1, hb2, hb3⟩
   .have := hWr.has
    rw [Prod.mk.injEq] at e
    obtain ⟨c, hc⟩ := aK2 _ hL1
    obtain ⟨x, hx, _⟩ := hWr.has (c : Int) (aJO.2 ⟨c, hc, rfl⟩)
    rw [e.2] at hx; cases hx
   .have hbl2 := hb3.lt
    have e1 : QU t i (lg, T) i = (lg, T) := by unfold QU; rw [if_pos rfl]
    have e2 : upA a i ta i = ta := by unfold upA; rw [if_pos rfl]
    rw [e1, e2]
    refine .inr ⟨b, .inr ⟨hb2, hbl2⟩, hb1, aJW _, ?_⟩
    refine ((hb3.ext x24 (fun h => h)).ext x5 (by omega)).ext x6 fun h => ?_
    rcases h with h | h
    .have := (hDb b h).2; omega
    .omega
  .have e1 : QU t k (lg, T) i = t i := by unfold QU; rw [if_neg he]
   have e2 : upA a k ta i = a i := by unfold upA; rw [if_neg he]
   rw [e1, e2]
   rcases hE i hi with h | ⟨b, hb, h1, h2, h3⟩
   .exact .inl h
   .have hbE := hEb b hb
    refine .inr ⟨b, .inl hb, h1, h2, (h3.ext x15 (by omega)).ext x6 fun h => ?_⟩
    rcases h with h | h
    .exact hsep b h hb
    .omega
 .rw [ek3, hcs, aI8]; omega
 .intro b hb
  rcases hb with hb | hb
  .have := hEb b hb; omega
  .omega
 .intro b hb
  rcases hb.1 with h | h
  .have := (hDb b h).1; omega
  .omega
 .intro b hb hb2
  rcases hb.1 with h | h
  .rcases hb2 with h2 | h2
   .exact hsep b h h2
   .have := (hDb b h).2; omega
  .rcases hb2 with h2 | h2
   .have := hEb b h2; omega
   .omega
 .refine (x1.seq x15).trans x6 fun b hb h => ?_
  rcases h with h | h
  .have := (hDb b h).1; omega
  .omega
def auZ (l : List Sq) : Prop := ∀ q ∈ l, ∀ k, k < 3 -> ∃ c, sV k (kv q k) c
def aD5 (w : aLl) (base : Nat) (l : List Sq) (r : aLm) : Prop :=
 (¬ auZ l /\ r = .tuple #[.slice none 0 0, .int .i64 1]) ∨
 (auZ l /\ ∃ (bv : aLm) (bytes : List UInt8), r = .tuple #[bv, .int .i64 0] /\ uD w base 1 bv bytes.length (bytes.map KY) /\ bytes.length <= 500000 /\ 0 < bytes.length /\ (l = [] -> bytes = [0]) /\
  ∀ o, ∃ t', BM bytes o = .ok (l, t') /\ (l ≠ [] -> ∀ k, k < 3 -> (∀ p ∈ l, ∀ q ∈ l, p = q) -> (t' k).2.length = 1))
theorem aIC {n : Nat} (h : n < 65536) : ((n : Int).fdiv (2 ^ min (8 : Int).toNat IntKind.i64.bits)) = ((n / 256 : Nat) : Int) := by
 have h8 : min (8 : Int).toNat IntKind.i64.bits = 8 := rfl
 rw [h8, aKF _ (by decide)]
 rfl
theorem aAV {x : Nat} (h : x < 2 ^ 62) : aeC .i64 (x : Int) 255 = ((x % 256 : Nat) : Int) := by
 unfold aeC
 have e : IntKind.i64.bits = 64 := rfl
 have h1 : (BitVec.ofInt 64 (x : Int) &&& BitVec.ofInt 64 255).toNat = x % 256 := by
  rw [BitVec.toNat_and, BitVec.ofInt_natCast, show (255 : Int) = ((255 : Nat) : Int) from rfl, BitVec.ofInt_natCast, BitVec.toNat_ofNat, BitVec.toNat_ofNat, aJA (by omega), aJA (by omega)]
  exact Nat.and_two_pow_sub_one_eq_mod x 8
 rw [e, h1]
 exact aT (by omega) (by omega)
theorem X7 {lv : aLm} {l : List Sq} {w : aLl} (hg : vW w) (h : Cl w 3 lv l.length (TR l)) (hu : ∀ q ∈ l, ∀ k, kv q k < 4294967296) (hl : l.length <= 10000) :
 aR pg rK #[lv] w (fun r w' => aD5 w' w.heap.size l r /\ aS w w' cI) := by
 refine UM ?_
 obtain ⟨RR, hRR⟩ : ∃ RR : aLm -> aLl -> Prop, RR = fun r w' => aD5 w' w.heap.size l r /\ aS w w' cI := ⟨_, rfl⟩
 rw [<- hRR]
 have hf := h
 obtain ⟨la, lc, rfl, _⟩ := hf
 unfold SB Bz Br
 refine (aA7 w).mono ?_
 rintro r w1 ⟨rfl, hz1, hw1, x1⟩
 obtain ⟨p, hp⟩ : ∃ p, p = w.heap.size := ⟨_, rfl⟩
 rw [<- hp] at hw1 ⊢
 have d1 : decide (98047 < (l.length : Int)) = false := by simp; omega
 by_cases h0 : l.length = 0
 .have n1 : ((l.length : Int) == 0) = true := by rw [h0] <;> rfl
  have hnil := aJr.1 h0
  simp (disch := omega) only [aC, cB, aA, dO, d1, cK, n1, aW, fF, iI, vY, EN, bN, dZ, aT, aF, aD]
  refine AP (cells := #[.int .u8 0]) (by decide) (by decide) (by kernel_rfl) fun w2 o2 x2 s2 => ?_
  rw [hRR]
  refine ⟨.inr ⟨?_, _, [0], rfl, ⟨rfl, .inr ⟨_, 1, [], rfl, by omega, o2, rfl, aI9 _⟩⟩, by simp, by simp, fun _ => rfl, fun o => ⟨o, ?_, fun h => absurd hnil h⟩⟩, x1.seq x2⟩
  .rw [hnil]; intro q hq; cases hq
  .rw [hnil] <;> rfl
 have n1 : ((l.length : Int) == 0) = false := by simp; intro h; subst h; exact h0 rfl
 have hN : ∀ b, w1.heap.size <= b -> p < b := fun b hb => by omega
 have main : ∀ w2, Cw w2 p (fun b => p < b) (alV l.length) -> aS w w2 cI -> yQ RR (.slice la l.length lc) (.pointer (some ⟨p, 0, none⟩)) w2 := by
  intro w2 hw2 x02
  have z02 := x02.size
  have hg2 := hg.ext x02
  have h2 := zI h x02 (bU _) (by omega)
  have hw2' := hw2.turn (T := fun b => p < b /\ b < w2.heap.size) (fun b hb hs => ⟨hb, hs⟩) (by omega)
  unfold yQ CR
  refine (aGc hg2 h2 hu (by omega)).mono ?_
  rintro r w3 ⟨hr, x3⟩
  have x03 := x02.seq x3
  rcases hr with ⟨v, D, L, rfl, hC, hK⟩ | ⟨⟨q, hq, k, hk, hno⟩, y0, y1, y2, rfl⟩
  rotate_left
  .have n2 : ((1 : Int) != 0) = true := rfl
   simp (disch := omega) only [aC, Bc, A6, aA, fB]
   refine G6 fun w4 o4 x4 s4 => ?_
   refine Ln o4 rfl (by simp [one]) (by simp) fun w5 o5 x5 s5 => ?_
   simp (disch := omega) only [n2, aF]
   rw [hRR]
   refine ⟨.inl ⟨fun hc => ?_, rfl⟩, (x03.seq x4).new x5 (by have := x03.size; omega)⟩
   obtain ⟨c, hc⟩ := hc q hq k hk
   exact hno c hc
  have n2 : ((0 : Int) != 0) = false := rfl
  have z3 := x3.size
  have hones := hC.ones
  simp (disch := omega) only [aC, Bc, A6, aA, fB]
  refine G6 fun w4 o4 x4 s4 => ?_
  refine Ln o4 rfl (by simpa [vL] using hones) (by simp [vL]) fun w5 o5 x5 s5 => ?_
  have o5 : cM w5 w3.heap.size (vL v) := by simpa [vL, aV] using o5
  simp (disch := omega) only [n2, aD]
  refine iH fun w6 o6 x6 s6 => ?_
  have o6 : cM w6 w5.heap.size (c6 (fun _ => (0, [])) (fun _ => none)) := o6
  obtain ⟨pe, hpe⟩ : ∃ pe, pe = w3.heap.size := ⟨_, rfl⟩
  obtain ⟨pt, hpt⟩ : ∃ pt, pt = w5.heap.size := ⟨_, rfl⟩
  rw [<- hpe] at o5 ⊢
  rw [<- hpt] at o6 ⊢
  have x36 : aS w3 w6 cI := (x4.new x5 (aI9 _)).seq x6
  have x26 := x3.seq x36
  have x06 := x02.seq x26
  have hC6 := (hC.ext x36 (fun _ _ _ h => h)).lower (aJW _)
  have hDl : ∀ k, k < 3 -> ∀ b, D k b -> b < w3.heap.size := fun k hk b hb => (hC.bd k hk b hb).2
  unfold CP CI Cr CO
  have hcoded : auZ l := fun q hq k hk => by
   obtain ⟨i, hi, rfl⟩ := aJy hq
   have hlt : i < (L k).length := by rw [(hK k hk).1]; exact hi
   exact ⟨_, (hK k hk).2 i _ _ (aI7 hi) (aI7 hlt)⟩
  have hLp : ∀ k, k < 3 -> L k ≠ [] /\ (L k).length <= 10000 /\ ∀ c ∈ L k, c < lI k := fun k hk => by
   refine ⟨fun h => ?_, by rw [(hK k hk).1]; exact hl, fun c hc => ?_⟩
   .have := (hK k hk).1
    rw [h] at this
    simp at this; omega
   .obtain ⟨i, hi, rfl⟩ := aJy hc
    have hlt : i < l.length := by rw [<- (hK k hk).1]; exact hi
    exact ((hK k hk).2 i _ _ (aI7 hlt) (aI7 hi)).1
  have o56 : cM w6 pe (vL v) := o5.ext x6 (fun h => h)
  refine aEx (hg.ext x06) o56 hC6 o6 (by omega) (fun k hk b hb => by have := hDl k hk b hb; omega) (fun w' x => hg.ext (x06.trans x fun b hb h => by omega)) hLp fun w7 t a m bs tv hWr o7 hT7 hb7 hat7 x7 => ?_
  have z6 := x36.size
  have x27 : aS w2 w7 cI := x26.trans x7 fun b hb h => by omega
  have x07 := x02.seq x27
  have o57 := o56.ext x7 (by omega)
  have hC7 := hC6.extD x7 (fun k hk b hb => by have := hDl k hk b hb; omega)
  obtain ⟨y0, y1, y2, f0, f1, f2⟩ := hC.form
  have l5 := Ku (off := 0) o57 (by simp [vL])
  simp only [vL, aI4, aIX, aI6] at l5
  have l7 := kT (off := 0) o7 (by simp [c6])
  simp only [c6, aI4, aIX, aI6] at l7
  unfold yH
  simp (disch := omega) only [aC, l5, fF, aA, l7]
  refine (aDU (hg.ext x07) (zI h x07 (bU _) (by omega)) (by omega) hl hC7 hK hT7 (fun k hk => ⟨afU hk (hWr k hk), aBS (hWr k hk), fun c hc => (hWr k hk).has (c : Int) (aJO.2 ⟨c, hc, rfl⟩)⟩)).mono ?_
  rintro r w8 ⟨⟨bv, s, X, st, rfl, hb8, hat8, hh, hEn, hst, hX⟩, x8⟩
  have x28 := x27.seq x8
  have hm2 : ∀ k, k < 3 -> m k <= 2 := fun k hk => by have := (hWr k hk).mode2; omega
  have m0 := hm2 0 (by omega); have m1 := hm2 1 (by omega); have m2 := hm2 2 (by omega)
  have hmod : Vz m < 256 := by unfold Vz; omega
  have ew : IntKind.u64.wrap ((Vz m : Nat) : Int) = ((Vz m : Nat) : Int) := iI (by omega) (by omega)
  have b0 := (hWr 0 (by omega)).blen
  have b1 := (hWr 1 (by omega)).blen
  have b2 := (hWr 2 (by omega)).blen
  have hnw : (alV l.length).length <= 3 := by unfold alV; split <;> (try split) <;> simp [PW]
  have z7 := x7.size
  have z8 := x8.size
  have hlg : ∀ k, k < 3 -> (t k).1 <= 9 := fun k hk => (afU hk (hWr k hk)).lg
  have hsl : s.length <= 300000 := by
   have h1 := hh.len
   have g0 := hlg 0 (by omega); have g1 := hlg 1 (by omega); have g2 := hlg 2 (by omega)
   rw [h1]
   unfold awK
   simp only [aI8, dQ, aKl]
   omega
  have hw8 := hw2'.ext x28 (fun h => h) (fun _ _ h => h)
  have hw8' := hw8.turn (T := fun b => (p < b /\ b < w2.heap.size) ∨ w8.heap.size <= b) (fun b hb _ => .inl hb) (by omega)
  simp (disch := omega) only [Bc, A6, ew, aA, fB, n2, aD]
  refine (NC (x := Vz m) (n := 1) hw8' (fun b hb => .inr hb) (by omega) (by omega) (by omega)).mono ?_
  rintro r w9 ⟨rfl, hw9, x9⟩
  have hb79 : Bs w9 tv (bs 0 ++ bs 1 ++ bs 2) := (hb7.ext x8 (bU _)).ext x9 (hat7 _ fun b h1 h2 h => by omega)
  have hb89 : Bs w9 bv s := hb8.ext x9 (hat8 _ fun b h1 h2 h => by omega)
  have hw9' := hw9.turn (T := fun b => ((p < b /\ b < w2.heap.size) ∨ w8.heap.size <= b)) (fun b hb _ => hb) (by omega)
  have z9 := x9.size
  refine (aoZ hw9' (fun b hb => .inr (by omega)) hb79 (by simp only [aI8, Dn]; omega)).mono ?_
  rintro r w10 ⟨rfl, hw10, x10⟩
  have hb810 : Bs w10 bv s := hb89.ext x10 (hat8 _ fun b h1 h2 h => by omega)
  have z10 := x10.size
  refine (aoZ hw10 (fun b hb => .inr (by omega)) hb810 (by simp only [aI8, Dn]; omega)).mono ?_
  rintro r w11 ⟨rfl, hw11, x11⟩
  have z11 := x11.size
  refine (aD1 hw11 (by simp only [aI8, Dn]; omega)).mono ?_
  rintro r w12 ⟨ho, x12⟩
  have hput : PW (Vz m) 1 = [UInt8.ofNat (Vz m)] := by
   show [UInt8.ofNat (Vz m % 256)] = _
   rw [aJA hmod]
  have hbytes : alV l.length ++ PW (Vz m) 1 ++ (bs 0 ++ bs 1 ++ bs 2) ++ s = aDM l.length m bs s := by
   unfold aDM
   rw [hput]
   simp only [aJc, aJ9, aJM]
  rw [hbytes] at ho
  have hsec : (aDM l.length m bs s).length = (alV l.length).length + (1 + ((bs 0).length + ((bs 1).length + ((bs 2).length + s.length)))) := by
   unfold aDM
   simp only [aI8, aJo]; omega
  rw [hRR]
  refine ⟨.inr ⟨hcoded, r, _, rfl, ho.lower (by omega), by omega, by omega, fun hn => absurd (by rw [hn] <;> rfl) h0, fun o => ?_⟩, ?_⟩
  .obtain ⟨t', ht, htt⟩ := aEA (by omega) (by omega) hWr hEn hst hh o
   refine ⟨t', ht, fun _ k hk hall => ?_⟩
   rw [htt k hk]
   refine ((hWr k hk).one fun x hx y hy => ?_).2
   unfold iL at hx hy
   obtain ⟨c, hc, rfl⟩ := aJO.1 hx
   obtain ⟨d, hd, rfl⟩ := aJO.1 hy
   obtain ⟨i, hi, rfl⟩ := aJy hc
   obtain ⟨j, hj, rfl⟩ := aJy hd
   have hil : i < l.length := by rw [<- (hK k hk).1]; exact hi
   have hjl : j < l.length := by rw [<- (hK k hk).1]; exact hj
   have q1 := (hK k hk).2 i _ _ (aI7 hil) (aI7 hi)
   have q2 := (hK k hk).2 j _ _ (aI7 hjl) (aI7 hj)
   rw [hall _ (aJh hil) _ (aJh hjl)] at q1
   rw [q1.one hk q2]
  .have x211 : aS w w11 cI := by
    refine aS.trans (x02.seq x28) (((x9.mono fun _ _ h => h).seq x10).seq x11 : aS w8 w11 (fun y => y = p ∨ ((p < y /\ y < w2.heap.size) ∨ w8.heap.size <= y))) fun b hb h => ?_
    omega
   exact x211.seq x12
 by_cases h128 : l.length < 128
 .have d2 : decide ((l.length : Int) < 128) = true := by simp; omega
  have ew : IntKind.u64.wrap (l.length : Int) = (l.length : Int) := iI (by omega) (by omega)
  simp (disch := omega) only [aC, cB, aA, dO, d1, cK, n1, aW, d2, fF, ew, vY, EN, bN, dZ, aT, aF, aD]
  refine (NC (x := l.length) (n := 1) hw1 hN (by omega) (by omega) (by simp)).mono ?_
  rintro r w2 ⟨rfl, hw2, x2⟩
  refine main w2 ?_ (x1.trans x2 fun b hb h => by omega)
  have e : [] ++ PW l.length 1 = alV l.length := by
   unfold alV
   rw [if_pos h128]
   show [UInt8.ofNat (l.length % 256)] = _
   rw [aJA (by omega)]
  rw [e] at hw2
  exact hw2
 .have d2 : decide ((l.length : Int) < 128) = false := by simp; omega
  have d3 : decide ((l.length : Int) < 32512) = true := by simp; omega
  have e1 := aIC (n := l.length) (by omega)
  have e2 : ((l.length / 256 : Nat) : Int) + 128 = ((l.length / 256 + 128 : Nat) : Int) := by omega
  have ew : IntKind.u64.wrap ((l.length / 256 + 128 : Nat) : Int) = ((l.length / 256 + 128 : Nat) : Int) := iI (by omega) (by omega)
  have e3 := aAV (x := l.length) (by omega)
  have ew3 : IntKind.u64.wrap ((l.length % 256 : Nat) : Int) = ((l.length % 256 : Nat) : Int) := iI (by omega) (by omega)
  have ew1 : IntKind.i64.wrap ((l.length / 256 + 128 : Nat) : Int) = ((l.length / 256 + 128 : Nat) : Int) := aT (by omega) (by omega)
  simp (disch := omega) only [aC, cB, aA, dO, d1, cK, n1, aW, d2, fF, iI, d3, vY, e1, EN, bN, e2, ew1, ew, dZ, aT, aF, aD]
  refine (NC (x := l.length / 256 + 128) (n := 1) hw1 hN (by omega) (by omega) (by simp)).mono ?_
  rintro r w2 ⟨rfl, hw2, x2⟩
  simp (disch := omega) only [e3]
  have z2 := x2.size
  refine (NC (x := l.length % 256) (n := 1) hw2 (fun b hb => by omega) (by omega) (by omega) (by simp [PW])).mono ?_
  rintro r w3 ⟨rfl, hw3, x3⟩
  refine main w3 ?_ ((x1.trans x2 fun b hb h => by omega).trans x3 fun b hb h => by omega)
  have e : [] ++ PW (l.length / 256 + 128) 1 ++ PW (l.length % 256) 1 = alV l.length := by
   unfold alV
   rw [if_neg h128, if_pos (by omega)]
   show [UInt8.ofNat ((l.length / 256 + 128) % 256)] ++ [UInt8.ofNat (l.length % 256 % 256)] = _
   rw [aJA (show l.length / 256 + 128 < 256 by omega), aJA (show l.length % 256 < 256 by omega)]
   rfl
  rw [e] at hw3
  exact hw3
theorem aAd {t : Nat -> TT} (h : ∀ k, k < 3 -> yT k (t k)) (B : List Bool) (st : Nat -> Nat) (left : Int) : Sy t (sts t B 3 st left).1 /\ left - 27 <= (sts t B 3 st left).2 /\ (sts t B 3 st left).2 <= left := by
 have g0 := (h 0 (by omega)).lg
 have g1 := (h 1 (by omega)).lg
 have g2 := (h 2 (by omega)).lg
 have e : (sts t B 3 st left).2 = left - (t 0).1 - (t 1).1 - (t 2).1 := rfl
 refine ⟨fun k hk => ⟨h k hk, ?_⟩, by omega, by omega⟩
 rw [(h k hk).len]
 rcases (show k = 0 ∨ k = 1 ∨ k = 2 by omega) with rfl | rfl | rfl
 .exact XZ B left (t 0).1
 .exact XZ B (left - (t 0).1) (t 1).1
 .exact XZ B (left - (t 0).1 - (t 1).1) (t 2).1
theorem XL (o : Nat -> TT) (n : Nat) (l : List UInt8) : auW o n l = match P2 o l with
 | .error e => .error e
 | .ok (t, r) => Fp t n r := by
 cases l with
 | nil => rfl
 | cons m l =>
   unfold auW P2
   by_cases hm : m.toNat % 4 ≠ 0
   .simp only [if_pos hm]
   .simp only [if_neg hm]
    cases EX m.toNat o 3 o l <;> rfl
theorem Y1 {o t : Nat -> TT} {l r : List UInt8} (ho : Nl o) (h : P2 o l = .ok (t, r)) : (∀ k, k < 3 -> yT k (t k)) /\ r.length <= l.length := by
 cases l with
 | nil => cases h
 | cons m l =>
   have hh : P2 o (m :: l) = if m.toNat % 4 ≠ 0 then .error 11 else EX m.toNat o 3 o l := rfl
   rw [hh] at h
   by_cases hm : m.toNat % 4 ≠ 0
   .rw [if_pos hm] at h; cases h
   .rw [if_neg hm] at h
    obtain ⟨h1, h2⟩ := auA ho (by omega) (fun k hk => by omega) h
    exact ⟨h1, by simp; omega⟩
theorem aCh {l r : List UInt8} {n : Nat} (h : Vr l = .ok (n, r)) : n <= 98047 /\ r.length <= l.length := by
 cases l with
 | nil => cases h
 | cons f l =>
   have hf : f.toNat < 256 := aJz f
   rw [Vr] at h
   split at h
   .cases h; exact ⟨by omega, by simp⟩
   .split at h
    .cases l with
     | nil => cases h
     | cons x l =>
       have hx : x.toNat < 256 := aJz x
       cases h; exact ⟨by omega, by simp; omega⟩
    .match l with
     | [] => cases h
     | [x] => cases h
     | x :: y :: l =>
       have hx : x.toNat < 256 := aJz x
       have hy : y.toNat < 256 := aJz y
       cases h; exact ⟨by omega, by simp; omega⟩
theorem awS {k1 : K5} {t5 n8 : aLm} {pt ps lo hi : Nat} {t : Nat -> TT} {a : Nat -> Option Addr} {st : Nat -> Nat} {l : List UInt8} {left : Int} {w : aLl} (oT : cM w pt (c6 t a)) (hT : JV w t a) (oS : cM w ps (s3L st)) (hB : Ze w lo hi l left)
 (h1 : pt < lo) (h2 : lo <= hi) (h3 : hi < ps) (hG : ∀ k, k < 3 -> yT k (t k)) (hl : l.length <= 1000000) (hb1 : left <= 8 * l.length) (hb2 : -90000000 <= left)
 (hk : ∀ w', cM w' ps (s3L (sts t (bK l) 3 st left).1) -> Ze w' lo hi l (sts t (bK l) 3 st left).2 -> aS w w' (fun y => y = hi ∨ y = ps) -> k1 t5 n8 (.pointer (some ⟨pt, 0, none⟩)) (.pointer (some ⟨hi, 0, none⟩)) (.pointer (some ⟨ps, 0, none⟩)) w') :
 yA k1 t5 n8 (.pointer (some ⟨pt, 0, none⟩)) (.pointer (some ⟨hi, 0, none⟩)) (.pointer (some ⟨ps, 0, none⟩)) (.int .i64 0) w := by
 have hps := oS.lt
 unfold yA
 refine cC.rule (fun n (v : aLm) w' => ∃ (j : Nat) (st' : Nat -> Nat) (left' : Int), n = j /\ j <= 3 /\ v = .int .i64 (3 - j : Nat) /\ cM w' ps (s3L st') /\ Ze w' lo hi l left' /\ sts t (bK l) 3 st left = sts t (bK l) j st' left' /\ left - 20 * (3 - j : Nat) <= left' /\ left' <= left /\ aS w w' (fun y => y = hi ∨ y = ps)) 3
  ⟨3, st, left, rfl, aI9 _, rfl, oS, hB, rfl, by simp, Int.le_refl _, aS.refl _ _⟩ ?_
 rintro j v w1 ⟨n, st', left', rfl, hj, rfl, oS1, hB1, hE, hc1, hc2, x1⟩
 unfold yG
 rcases j with _ | j
 .have d1 : decide (((3 - 0 : Nat) : Int) < 3) = false := rfl
  simp (disch := omega) only [aC, aW, d1, bN, aT, aA, aD]
  rw [hE] at hk
  exact hk _ oS1 hB1 x1
 .obtain ⟨k, hkk⟩ : ∃ k, k = 2 - j := ⟨_, rfl⟩
  have hk3 : k < 3 := by omega
  have ek : ((3 - (j + 1) : Nat) : Int) = (k : Int) := by omega
  have d1 : decide ((k : Int) < 3) = true := by simp; omega
  rw [ek]
  have hN : sts t (bK l) (j + 1) st' left' = sts t (bK l) j (upS st' k (rdL (bK l) left' (t k).1)) (left' - (t k).1) := by rw [hkk] <;> rfl
  have hGk := hG k hk3
  have hlg := hGk.lg
  have oT1 := oT.ext x1 (by omega)
  have l2 := fZ (off := k * 2) oT1 (by simp [c6]; omega)
  rw [abG _ _ hk3] at l2
  simp (disch := omega) only [aC, aW, d1, cL, aIY, aIZ, rS, bN, aT, aA, l2, aF]
  obtain ⟨cs, oc, hcs⟩ := hB1.hd
  refine (aA8 hB1 h2 oc.lt (by omega) (by omega) (by omega) hl).mono ?_
  rintro v w2 ⟨rfl, hB2, x2⟩
  have q1 : vZ ((bK l).take left'.toNat) (t k).1 = rdL (bK l) left' (t k).1 := rfl
  rw [q1]
  have oS2 := oS1.ext x2 (by omega)
  refine vP oS2 rfl (by simp [s3L]; omega) fun w3 o3 x3 s3 => ?_
  rw [axF _ hk3] at o3
  have e1 : (k : Int) + 1 = ((3 - j : Nat) : Int) := by omega
  simp (disch := omega) only [e1]
  refine ⟨j, by omega, _, _, _, rfl, by omega, rfl, o3, hB2.ext x3 (fun b _ _ => by omega) h2, by rw [hE, hN], by omega, by omega, (x1.seq (x2.mono fun _ _ h => .inl h)).seq (x3.mono fun _ _ h => .inr h)⟩
def ayT (w : aLl) (base : Nat) (x : Except Int (List Sq × (Nat -> TT))) (r : aLm) : Prop := match x with
 | .error e => r = .tuple #[.slice none 0 0, Ho, .int .i64 e]
 | .ok (q, t) => ∃ v a, r = .tuple #[v, .agg (c6 t a).toArray, .int .i64 0] /\ uD w base 3 v q.length (TR q) /\ JV w t a
theorem TZ {p : Nat} {w : aLl} {x0 x1 x2 : Int} {a0 a1 a2 : Option Addr} {n0 n1 n2 : Nat} {c : List aLm} {s e : aLm} (o : cM w p c) (hc : c.length = 6) {RR : aLm -> aLl -> Prop}
 (hR : ∀ w', aS w w' (fun y => y = p) -> RR (.tuple #[s, .agg #[.int .i64 x0, .slice a0 n0 n0, .int .i64 x1, .slice a1 n1 n1, .int .i64 x2, .slice a2 n2 n2], e]) w') :
 aC pg (aK 29 (.pointer (some ⟨p, 0, none⟩)) (.agg #[.int .i64 x0, .slice a0 n0 n0, .int .i64 x1, .slice a1 n1 n1, .int .i64 x2, .slice a2 n2 n2])) w fun _u w => mW pg 29 (.pointer (some ⟨p, 0, none⟩)) w fun r1 => RR (.tuple #[s, r1, e]) w := by
 match c, hc with
 | [c0, c1, c2, c3, c4, c5], _ =>
   refine jK o rfl (by simp [one]) (by simp) fun w6 o6 x6 s6 => ?_
   refine Aq o6 (by simp [aV]) ?_
   simp only [aV, aI2, aI3, aI4, aIX, aI6]
   exact hR _ x6
theorem atT {bv : aLm} {l : List UInt8} {o : Nat -> TT} {a : Nat -> Option Addr} {w : aLl} (hg : vW w) (hb : Bs w bv l) (hl : l.length <= 1000000) (hT : JV w o a) (hO : Nl o) :
 aR pg xE #[bv, .agg (c6 o a).toArray] w (fun r w' => ayT w' w.heap.size (BM l o) r /\ aS w w' cI) := by
 refine WI ?_
 obtain ⟨RR, hRR⟩ : ∃ RR : aLm -> aLl -> Prop, RR = fun r w' => ayT w' w.heap.size (BM l o) r /\ aS w w' cI := ⟨_, rfl⟩
 rw [<- hRR]
 have err : ∀ {e : Int} {w' : aLl}, BM l o = .error e -> aS w w' cI -> RR (.tuple #[.slice none 0 0, Ho, .int .i64 e]) w' := fun h x => by
  rw [hRR]; unfold ayT; rw [h]; exact ⟨rfl, x⟩
 unfold Va Cz C2
 refine gA fun w1 o1 x1 s1 => ?_
 have o1 : cM w1 w.heap.size (c6 o a) := o1
 refine iH fun w2 o2 x2 s2 => ?_
 have x02 := x1.seq x2
 refine (akN (hb.ext x02 (bU _)) (by omega)).mono ?_
 rintro r w3 ⟨p, rfl, h3, x3⟩
 have hp1 := h3.1
 have hp2 := h3.2.1
 have o1 := (o1.ext x2 (fun h => h)).ext x3 (fun h => h)
 have o2 := o2.ext x3 (fun h => h)
 have x03 := x02.seq x3
 have z2 := x02.size
 refine (ayR h3 (by omega)).mono ?_
 rintro r w4 ⟨hN, x4⟩
 have o1 := o1.ext x4 (by omega)
 have o2 := o2.ext x4 (by omega)
 have x04 := x03.new x4 (by omega)
 have fin : ∀ {w5 w' : aLl}, aS w w5 cI -> aS w5 w' (fun y => y = w1.heap.size) -> aS w w' cI := fun h x => h.new x (by omega)
 unfold avQ at hN
 cases hn : Vr l with
 | error e =>
   rw [hn] at hN
   obtain ⟨he, n, l', rfl, h4⟩ := hN
   have hR : BM l o = .error e := by unfold BM; rw [hn]
   have n1 : (e != 0) = true := by simpa using he
   refine (VM h4).mono ?_
   rintro r w5 ⟨rfl, hw⟩
   rw [hw]; clear hw w5
   simp (disch := omega) only [aC, fB, n1, dK, aA, cK, true_and, bM, aF]
   refine (VM h4).mono ?_
   rintro r w5 ⟨rfl, hw⟩
   rw [hw]; clear hw w5
   exact TZ o2 rfl fun w' x => err hR (fin x04 x)
 | ok y =>
   obtain ⟨n, l'⟩ := y
   rw [hn] at hN
   obtain ⟨rfl, h4⟩ := hN
   obtain ⟨hn1, hl'⟩ := aCh hn
   have n1 : ((0 : Int) != 0) = false := rfl
   refine (VM h4).mono ?_
   rintro r w5 ⟨rfl, hw⟩
   rw [hw]; clear hw w5
   have hR : BM l o = if n = 0 then (if l' = [] then .ok ([], o) else .error 15) else auW o n l' := by unfold BM; rw [hn]
   by_cases hn0 : n = 0
   .subst hn0
    rw [if_pos rfl] at hR
    have n2 : (((0 : Nat) : Int) == 0) = true := rfl
    simp (disch := omega) only [aC, fB, n1, dK, aA, cK, n2, true_and, aF, mU, bM, if_true, bP, aD]
    refine (arX h4).mono ?_
    rintro r w5 ⟨rfl, hw⟩
    rw [hw]; clear hw w5
    by_cases hl0 : l' = []
    .subst hl0
     rw [if_pos rfl] at hR
     have d1 : decide (0 < ((([] : List UInt8).length : Nat) : Int)) = false := rfl
     have l1 := kT (off := 0) (dT o1) (by simp [c6])
     simp only [c6, aI4, aIX, aI6] at l1
     simp (disch := omega) only [dO, d1, aA, l1, true_and, aD]
     refine TZ (dT o2) rfl fun w' x => ?_
     rw [hRR]; unfold ayT; rw [hR]
     have x' := fin (x04.seq (aS.dr _ _)) x
     exact ⟨⟨_, a, rfl, uD.nil _ _ _, hT.ext x'⟩, x'⟩
    .rw [if_neg hl0] at hR
     have hpos := aJR.2 hl0
     have d1 : decide (0 < ((l'.length : Nat) : Int)) = true := by simp; exact hpos
     simp (disch := omega) only [dO, d1, aA, aF]
     exact TZ o2 rfl fun w' x => err hR (fin x04 x)
   .rw [if_neg hn0] at hR
    have n2 : ((n : Int) == 0) = false := by simp; exact hn0
    have l1 := kT (off := 0) o1 (by simp [c6])
    simp only [c6, aI4, aIX, aI6] at l1
    simp (disch := omega) only [aC, fB, n1, dK, aA, cK, n2, true_and, aD, vN, bM, aI5, if_false, dH, l1]
    have hO6 : ∀ k, k < 3 -> (o k).2.length <= 1000000 := fun k hk => by
     rcases aJU (o k).2.length with h | h
     .omega
     .have := hO k hk (aJR.1 h)
      rw [this.len]
      have : 2 ^ (o k).1 <= 2 ^ 9 := aJa (by omega) this.lg
      omega
    have z4 := x4.size
    refine (aHr hg x04 (by omega) h4 z4 (by omega) (hT.ext x04) hO6).mono ?_
    rintro r w5 ⟨hTo, x5⟩
    rw [XL] at hR
    have x05 := x04.new x5 (by omega)
    have o1 := o1.ext x5 (by omega)
    have o2 := o2.ext x5 (by omega)
    have z5 := x5.size
    cases hh : P2 o l' with
    | error e =>
      rw [hh] at hR hTo
      obtain ⟨rfl, he⟩ := hTo
      have n3 : (e != 0) = true := by simpa using he
      unfold Ho
      simp (disch := omega) only [Bc, A6, aA, fB]
      refine iH fun w6 o6 x6 s6 => ?_
      refine jK o6 rfl (by simp [one]) (by simp) fun w7 o7 x7 s7 => ?_
      have x57 : aS w5 w7 cI := x6.new x7 (aI9 _)
      simp (disch := omega) only [n3, aF]
      exact TZ (o2.ext x57 (fun h => h)) rfl fun w' x => err hR (fin (x05.seq x57) x)
    | ok y =>
      obtain ⟨t, l2⟩ := y
      rw [hh] at hR hTo
      have hR : BM l o = Fp t n l2 := hR
      obtain ⟨ta, rfl, hT5, h5⟩ := hTo
      obtain ⟨hG, hl2⟩ := Y1 hO hh
      simp only [c6]
      simp (disch := omega) only [Bc, A6, aA, fB]
      refine iH fun w6 o6 x6 s6 => ?_
      refine jK o6 rfl (by simp [one]) (by simp) fun w7 o7 x7 s7 => ?_
      have o7 : cM w7 w5.heap.size (c6 t ta) := o7
      have x57 : aS w5 w7 cI := x6.new x7 (aI9 _)
      have h7 := (h5.up (aI9 _)).ext x57 (fun _ _ _ h => h)
      have x07 := x05.seq x57
      have z7 := x57.size
      simp (disch := omega) only [n1, aD]
      refine (arX h7).mono ?_
      rintro r w8 ⟨rfl, hw⟩
      rw [hw]; clear hw w8
      refine (avG h7 (by omega) (by omega)).mono ?_
      rintro bv8 w8 ⟨hb8, hat8, h8, x8⟩
      have htk : Kl l2 0 l2.length = (l2, [], 0) := by unfold Kl; rw [if_neg (by decide), if_neg (by omega), aKA, List.drop_length]
      rw [htk] at hb8
      simp only at hb8
      have x08 := x07.new x8 (by omega)
      have z8 := x8.size
      have hp5 := h5.2.1
      have o8 := o7.ext x8 (by omega)
      have o2 := (o2.ext x57 (fun h => h)).ext x8 (by omega)
      have hT8 : JV w8 t ta := (hT5.ext x57).rdr h7 x8
      cases he : afB l2 with
      | none =>
        have hB : Fp t n l2 = .error 11 := by unfold Fp; rw [he]
        rw [hB] at hR
        have n3 : ((11 : Int) != 0) = true := rfl
        refine (alS hb8 he (by omega)).mono ?_
        rintro r w9 ⟨rfl, hw⟩
        rw [hw]; clear hw w9
        simp (disch := omega) only [Bc, A6, aA, fB, n3, aF]
        exact TZ o2 rfl fun w' x => err hR (fin x08 x)
      | some k =>
        obtain ⟨hk0, hk1, hk2, _⟩ := Qm he
        refine (aqL hb8 he (by omega)).mono ?_
        rintro r w9 ⟨hi, rfl, hhi1, hhi2, hB9, x9⟩
        simp (disch := omega) only [Bc, A6, aA, fB, n1, aD]
        refine apV fun w10 o10 x10 s10 => ?_
        have o10 : cM w10 w9.heap.size (s3L (fun _ => 0)) := o10
        have x89 := x9.seq x10
        have z10 := x10.size
        unfold CM CT Dc Cs
        refine awS (o8.ext x89 (fun h => h)) (hT8.ext x89) o10 (hB9.ext x10 (fun _ _ _ h => h) hhi1) (by omega) hhi1 hhi2 hG (by omega) (by omega) (by omega) fun w11 o11 hB11 x11 => ?_
        obtain ⟨g1, g2, g3⟩ := aAd hG (bK l2) (fun _ => 0) (k : Int)
        have z11 := x11.size
        have z9 := x9.size
        have x011 : aS w w11 cI := (x08.seq x89).trans x11 fun b hb h => by omega
        have x811 : aS w8 w11 cI := x89.trans x11 fun b hb h => by omega
        unfold C4 CG CW CK Db CF
        refine aAX (n := n) (by omega) hg x011 (o8.ext x811 (fun h => h)) (hT8.ext x811) o11 hB11 (by omega) (by omega) hhi1 hhi2 g1 (by omega) (by omega) (by omega) fun w12 out os12 hB12 oT12 hT12 x12 => ?_
        obtain ⟨_, _, hlen⟩ := awV (B := bK l2) (n := n) (left := (sts t (bK l2) 3 (fun _ => 0) (k : Int)).2) g1
        have hB : Fp t n l2 = if (runT t (bK l2) n k).2 < 0 then .error 11 else if 0 < (runT t (bK l2) n k).2 then .error 15 else .ok ((runT t (bK l2) n k).1, t) := by unfold Fp; rw [he]
        rw [hB] at hR
        rw [<- aAr] at os12 hB12 hlen
        have x012 : aS w w12 cI := x011.trans x12 fun b hb h => by omega
        have x812 : aS w8 w12 cI := x811.trans x12 fun b hb h => by omega
        have o2 := o2.ext x812 (fun h => h)
        unfold Ab
        refine (atS hB12).mono ?_
        rintro r w13 ⟨rfl, hw⟩
        rw [hw]; clear hw w13
        generalize hq : runT t (bK l2) n k = q at *
        by_cases hneg : q.2 < 0
        .have d1 : decide (q.2 < 0) = true := by simpa using hneg
         rw [if_pos hneg] at hR
         simp (disch := omega) only [aC, aW, d1, dK, aA, true_and, aF]
         exact TZ o2 rfl fun w' x => err hR (fin x012 x)
        .have d1 : decide (q.2 < 0) = false := by simpa using hneg
         rw [if_neg hneg] at hR
         simp (disch := omega) only [aC, aW, d1, dK, aA, true_and, aD]
         refine (atS hB12).mono ?_
         rintro r w13 ⟨rfl, hw⟩
         rw [hw]; clear hw w13
         by_cases hps : 0 < q.2
         .have d2 : decide (0 < q.2) = true := by simpa using hps
          rw [if_pos hps] at hR
          simp (disch := omega) only [dO, d2, aA, aF]
          exact TZ o2 rfl fun w' x => err hR (fin x012 x)
         .have d2 : decide (0 < q.2) = false := by simpa using hps
          rw [if_neg hps] at hR
          have l9 := kT (off := 0) (dT oT12) (by simp [c6])
          simp only [c6, aI4, aIX, aI6] at l9
          simp (disch := omega) only [dO, d2, aA, l9, true_and, aD]
          refine TZ (dT o2) rfl fun w' x => ?_
          rw [hRR]; unfold ayT; rw [hR]
          have x' := fin (x012.seq (aS.dr _ _)) x
          have xd : aS w12 w' (fun y => y = w1.heap.size) := (aS.dr _ _).seq x
          refine ⟨⟨out, ta, rfl, ?_, hT12.own o2 (by simp) (fun u => by simp) xd⟩, x'⟩
          rw [hlen]
          exact (os12.ext xd (fun b hb h => by omega)).lower (by omega)
abbrev rv (x : ByteArray) (e : Int) : aLm := .agg #[.string x, .int .i64 e]
theorem aqA {p : Nat} {w : aLl} {x : ByteArray} {e : Int} {c : List aLm} {z : aLm} (o : cM w p c) (hc : c.length = 2) {RR : aLm -> aLl -> Prop}
 (hR : ∀ w', aS w w' (fun y => y = p) -> RR (.tuple #[rv x e, z]) w') :
 aC pg (aK 72 (.pointer (some ⟨p, 0, none⟩)) (rv x e)) w fun _u w => mW pg 72 (.pointer (some ⟨p, 0, none⟩)) w fun r0 => RR (.tuple #[r0, z]) w := by
 match c, hc with
 | [c0, c1], _ =>
   refine jZ o rfl (by simp [one]) (by simp) fun w6 o6 x6 s6 => ?_
   refine TG o6 (by simp [aV]) ?_
   simp only [aV, aI2, aI3, aI4, aIX, aI6]
   exact hR _ x6
theorem aC6 {x : ByteArray} {e : Int} {n : Nat} {w : aLl} :
 aR pg JY #[rv x e, .int .i64 n] w (fun r w' => ∃ x' s, r = .tuple #[rv x' (Kl (nH x) e n).2.2, .string s] /\ nH x' = (Kl (nH x) e n).2.1 /\ nH s = (Kl (nH x) e n).1 /\ aS w w' cI) := by
 refine anU ?_
 obtain ⟨RR, hRR⟩ : ∃ RR : aLm -> aLl -> Prop, RR = fun r w' => ∃ x' s, r = .tuple #[rv x' (Kl (nH x) e n).2.2, .string s] /\ nH x' = (Kl (nH x) e n).2.1 /\ nH s = (Kl (nH x) e n).1 /\ aS w w' cI := ⟨_, rfl⟩
 rw [<- hRR]
 have hll := mM x
 unfold aqN OS
 refine gA fun w1 o1 x1 s1 => ?_
 have o1 : cM w1 w.heap.size [.string x, .int .i64 e] := o1
 refine mD fun w2 o2 x2 s2 => ?_
 have o1 := o1.ext x2 (fun h => h)
 have x02 := x1.seq x2
 have z1 := x1.size
 have c0 := o1.cell (off := 0)
 have c1 := o1.cell (off := 1)
 have l1 := hP (off := 0) o1 (by simp)
 simp only [aI0, aI1, aI4, aIX, aI6] at c0 c1 l1
 by_cases he : e = 0
 rotate_left
 .have n1 : (e != 0) = true := by simpa using he
  have ht : Kl (nH x) e n = ([], nH x, e) := by unfold Kl; rw [if_pos he]
  simp (disch := omega) only [aC, dV, aIZ, aW, aA, eX, sP, iN, c1, aG, fB, n1, l1, aF]
  refine aqA o2 rfl fun w' x' => ?_
  rw [hRR, ht]
  exact ⟨x, ⟨#[]⟩, rfl, rfl, rfl, x02.new x' (by omega)⟩
 subst he
 have n1 : ((0 : Int) != 0) = false := rfl
 have d0 : decide ((n : Int) < 0) = false := by simp
 by_cases hsh : x.size < n
 .have d1 : decide ((x.size : Int) < (n : Int)) = true := by simp; omega
  have ht : Kl (nH x) 0 n = ([], nH x, 10) := by unfold Kl; rw [if_neg (by decide), if_pos (by omega)]
  simp (disch := omega) only [aC, dV, aIZ, aW, d0, aA, eX, sP, aD, iN, c1, aG, fB, n1, c0, pI, dO, d1, aF]
  refine aaQ o1 rfl (by simp) fun w3 o3 x3 s3 => ?_
  simp only [aI2, aI3] at o3
  have l3 := hP (off := 0) o3 (by simp)
  simp only [aI4, aIX, aI6] at l3
  simp (disch := omega) only [l3, aA]
  refine aqA (o2.ext x3 (by omega)) rfl fun w' x' => ?_
  rw [hRR, ht]
  exact ⟨x, ⟨#[]⟩, rfl, rfl, rfl, (x02.new x3 (by omega)).new x' (by omega)⟩
 .have d1 : decide ((x.size : Int) < (n : Int)) = false := by simp; omega
  have ht : Kl (nH x) 0 n = ((nH x).take n, (nH x).drop n, 0) := by unfold Kl; rw [if_neg (by decide), if_neg (by omega)]
  simp (disch := omega) only [aC, dV, aIZ, aW, d0, aA, eX, sP, aD, iN, c1, aG, fB, n1, c0, pI, dO, d1, yJ, aIY, pD]
  refine aDC o1 rfl (by simp) fun w3 o3 x3 s3 => ?_
  simp only [aI2, aI3] at o3
  have l3 := hP (off := 0) o3 (by simp)
  simp only [aI4, aIX, aI6] at l3
  simp (disch := omega) only [l3, aA]
  refine aqA (o2.ext x3 (by omega)) rfl fun w' x' => ?_
  rw [hRR, ht]
  refine ⟨_, _, rfl, ?_, ?_, (x02.new x3 (by omega)).new x' (by omega)⟩
  .rw [Nw, aJw (by rw [aJu]; omega)]
  .rw [Nw]; simp
theorem Hg {x : ByteArray} {e : Int} {n : Nat} {w : aLl} (hn : 1 <= n /\ n <= 8) :
 aR pg tO #[rv x e, .int .i64 n] w (fun r w' => ∃ x', r = .tuple #[rv x' (Kl (nH x) e n).2.2, .int .u64 (uB (Kl (nH x) e n).1 : Nat)] /\ nH x' = (Kl (nH x) e n).2.1 /\ aS w w' cI) := by
 refine abR ?_
 obtain ⟨RR, hRR⟩ : ∃ RR : aLm -> aLl -> Prop, RR = fun r w' => ∃ x', r = .tuple #[rv x' (Kl (nH x) e n).2.2, .int .u64 (uB (Kl (nH x) e n).1 : Nat)] /\ nH x' = (Kl (nH x) e n).2.1 /\ aS w w' cI := ⟨_, rfl⟩
 rw [<- hRR]
 unfold aaS FY F0
 refine gA fun w1 o1 x1 s1 => ?_
 have o1 : cM w1 w.heap.size [.string x, .int .i64 e] := o1
 refine mD fun w2 o2 x2 s2 => ?_
 have o1 := o1.ext x2 (fun h => h)
 have x02 := x1.seq x2
 have z1 := x1.size
 have c1 := o1.cell (off := 1)
 have l1 := hP (off := 0) o1 (by simp)
 simp only [aI0, aI1, aI4, aIX, aI6] at c1 l1
 have d1 : decide ((n : Int) < 1) = false := by simp; omega
 have d2 : decide (8 < (n : Int)) = false := by simp; omega
 have main : B1 RR (.int .i64 n) (.pointer (some ⟨w.heap.size, 0, none⟩)) (.pointer (some ⟨w1.heap.size, 0, none⟩)) w2 := by
  unfold B1 Is
  simp (disch := omega) only [aC, l1, aA]
  refine (aC6).mono ?_
  rintro r w3 ⟨x', s, rfl, hx', hs, x3⟩
  simp (disch := omega) only [Bc, A6, aA]
  refine jZ (o1.ext x3 (fun h => h)) rfl (by simp [one]) (by simp) fun w4 o4 x4 s4 => ?_
  simp only [aV, aI2, aI3] at o4
  have z2 := x02.size
  have z3 := x3.size
  have x04 : aS w w4 cI := (x02.seq x3).new x4 (aI9 _)
  have o2 := (o2.ext x3 (fun h => h)).ext x4 (by omega)
  have hlen : (nH s).length <= 8 := by
   rw [hs]; unfold Kl
   split
   .simp
   .split
    .simp
    .simp; omega
  have hss := mM s
  unfold Jc IJ Ig IL IH
  refine cC.rule (fun m (v : aLm × aLm × aLm) w' => ∃ (i : Nat) (mm : Int), m = s.size - i /\ i <= s.size /\ v = (.int .u64 (uB ((nH s).take i) : Nat), .int .u64 mm, .int .i64 i) /\ (i < 8 -> mm = ((256 ^ i : Nat) : Int)) /\ w' = w4) s.size ⟨0, 1, rfl, by omega, rfl, fun _ => rfl, rfl⟩ ?_
  rintro m v w5 ⟨i, mm, rfl, hi, rfl, hmm, hw⟩
  rw [hw]; clear hw w5
  unfold Cj
  by_cases hlt : i < s.size
  .have d3 : decide ((i : Int) < (s.size : Int)) = true := by simp; omega
   have hmm := hmm (by omega)
   subst hmm
   obtain ⟨c, hc⟩ : ∃ c, c = (nH s)[i]'(by omega) := ⟨_, rfl⟩
   have hg : s[i]'hlt = c := by rw [Z3, hc]
   have htk : (nH s).take (i + 1) = (nH s).take i ++ [c] := by rw [aJE, aI7 (by omega), <- hc] <;> rfl
   have hnl : uB ((nH s).take (i + 1)) = uB ((nH s).take i) + 256 ^ i * c.toNat := by
    rw [htk, ajL, aJg, aJS (by omega)]
   have hb0 := VJ ((nH s).take i)
   have hb1 := VJ ((nH s).take (i + 1))
   rw [aJg, aJS (by omega)] at hb0 hb1
   have hp : 256 ^ i <= 256 ^ 7 := aJa (by omega) (by omega)
   have hp1 : 256 ^ (i + 1) <= 256 ^ 8 := aJa (by omega) (by omega)
   have hcl : c.toNat < 256 := aJz c
   have hps : 256 ^ (i + 1) = 256 ^ i * 256 := aJp ..
   have hcm : 256 ^ i * c.toNat <= 256 ^ i * 256 := Nat.mul_le_mul_left _ (by omega)
   rw [hnl] at hb1
   obtain ⟨m2, hm2⟩ : ∃ z, IntKind.u64.wrap (((256 ^ i : Nat) : Int) * 256) = z := ⟨_, rfl⟩
   have hm3 : i + 1 < 8 -> m2 = ((256 ^ (i + 1) : Nat) : Int) := fun h => by
    have hp2 : 256 ^ (i + 1) <= 256 ^ 7 := aJa (by omega) (by omega)
    rw [<- hm2, hps, Int.natCast_mul]
    exact iI (by omega) (by omega)
   generalize hcx : c.toNat = cx at *
   have hgx : (s[i]'hlt).toNat = cx := by rw [hg, hcx]
   have ew : IntKind.u64.wrap (cx : Int) = (cx : Int) := iI (by omega) (by omega)
   have em : (cx : Int) * ((256 ^ i : Nat) : Int) = ((256 ^ i * cx : Nat) : Int) := by rw [Int.natCast_mul, Int.mul_comm]
   generalize uB ((nH s).take i) = N at *
   generalize 256 ^ i = P at *
   generalize P * cx = Z at *
   have ez : IntKind.u64.wrap (Z : Int) = (Z : Int) := iI (by omega) (by omega)
   have ea : (N : Int) + (Z : Int) = ((N + Z : Nat) : Int) := by omega
   have en : IntKind.u64.wrap ((N + Z : Nat) : Int) = ((N + Z : Nat) : Int) := iI (by omega) (by omega)
   simp (disch := omega) only [aC, pI, qD, aIY, hgx, pX, hm2, bN, aT, aA, nU, ew, em, ez, ea, en, aW, d3, and_true, aF]
   exact ⟨s.size - (i + 1), by omega, i + 1, m2, rfl, by omega, by rw [hnl] <;> rfl, hm3⟩
  .have d3 : decide ((i : Int) < (s.size : Int)) = false := by simp; omega
   obtain rfl : i = s.size := by omega
   have l4 := hP (off := 0) o4 (by simp)
   simp only [aI4, aIX, aI6] at l4
   unfold B9
   simp (disch := omega) only [aC, pI, pX, bN, aT, aA, aW, d3, l4, aD]
   refine aqA o2 rfl fun w' x' => ?_
   rw [hRR, <- hss, aKA, hs]
   exact ⟨_, rfl, hx', x04.new x' (by omega)⟩
 by_cases he : e = 0
 .have n1 : (e == 0) = true := by simpa using he
  simp (disch := omega) only [aC, dV, aIZ, aA, iN, c1, aG, cK, n1, mU, bM, if_true, bP, aW, d1, dG, aI5, if_false, dO, d2, aD]
  exact main
 .have n1 : (e == 0) = false := by simpa using he
  simp (disch := omega) only [aC, dV, aIZ, aA, iN, c1, aG, cK, n1, vN, bM, aI5, if_false, aD, dH]
  exact main
def asY (l : List UInt8) (r : aLm) : Prop := match Vr l with
 | .ok (n, rest) => ∃ x', r = .tuple #[rv x' 0, .int .u64 n] /\ nH x' = rest
 | .error e => e ≠ 0 /\ ∃ (n : Nat) (x' : ByteArray), r = .tuple #[rv x' e, .int .u64 n]
theorem apE {x : ByteArray} {w : aLl} :
 aR pg DW #[rv x 0] w (fun r w' => asY (nH x) r /\ aS w w' cI) := by
 refine Zj ?_
 obtain ⟨RR, hRR⟩ : ∃ RR : aLm -> aLl -> Prop, RR = fun r w' => asY (nH x) r /\ aS w w' cI := ⟨_, rfl⟩
 rw [<- hRR]
 unfold acX H0
 refine gA fun w1 o1 x1 s1 => ?_
 have o1 : cM w1 w.heap.size [.string x, .int .i64 0] := o1
 refine mD fun w2 o2 x2 s2 => ?_
 have o1 := o1.ext x2 (fun h => h)
 have x02 := x1.seq x2
 have z1 := x1.size
 have l1 := hP (off := 0) o1 (by simp)
 simp only [aI4, aIX, aI6] at l1
 simp (disch := omega) only [aC, l1, aA]
 refine (Hg (n := 1) (by omega)).mono ?_
 rintro r w3 ⟨x', rfl, hx', x3⟩
 simp (disch := omega) only [Bc, A6, aA, aW, dZ, pX]
 refine jZ (o1.ext x3 (fun h => h)) rfl (by simp [one]) (by simp) fun w4 o4 x4 s4 => ?_
 simp only [aV, aI2, aI3] at o4
 have z2 := x02.size
 have z3 := x3.size
 have x04 : aS w w4 cI := (x02.seq x3).new x4 (aI9 _)
 have o2 := (o2.ext x3 (fun h => h)).ext x4 (by omega)
 have l4 := hP (off := 0) o4 (by simp)
 simp only [aI4, aIX, aI6] at l4
 generalize nH x = L at *
 have tkn := YV 1 (aI9 1)
 cases L with
 | nil =>
   simp only [tkn] at hx' o4 l4 ⊢
   have e0 : ((uB ([] : List UInt8) : Nat) : Int) = 0 := rfl
   have d1 : decide ((0 : Int) < 128) = true := rfl
   simp (disch := omega) only [e0, d1, l4, aA, aF]
   refine aqA o2 rfl fun w' x5 => ?_
   rw [hRR]
   exact ⟨⟨by decide, 0, x', rfl⟩, x04.new x5 (by omega)⟩
 | cons f r =>
   simp only [aiK] at hx' o4 l4 ⊢
   have hf : uB [f] = f.toNat := by simp [uB]
   have hf8 : f.toNat < 256 := aJz f
   rw [hf]
   have hN : Vr (f :: r) = if f.toNat < 128 then .ok (f.toNat, r) else if f.toNat < 255 then aEN f.toNat r else aE0 r := rfl
   generalize f.toNat = x at *
   have fin : ∀ {v : aLm} {w5 w' : aLl}, asY (f :: r) v -> aS w w5 cI -> aS w5 w' (fun y => y = w1.heap.size) -> RR v w' := fun h x5 x6 => by
    rw [hRR]; exact ⟨h, x5.new x6 (by omega)⟩
   by_cases h128 : x < 128
   .have d1 : decide ((x : Int) < 128) = true := by simp; omega
    simp (disch := omega) only [d1, l4, aA, aF]
    refine aqA o2 rfl fun w' x5 => fin ?_ x04 x5
    unfold asY
    rw [hN, if_pos h128]
    exact ⟨x', rfl, hx'⟩
   have d1 : decide ((x : Int) < 128) = false := by simp; omega
   by_cases h255 : x < 255
   .have d2 : decide ((x : Int) < 255) = true := by simp; omega
    simp (disch := omega) only [d1, l4, aA, d2, iI, aF, aD]
    refine (Hg (n := 1) (by omega)).mono ?_
    rintro v w5 ⟨y, rfl, hy, x5⟩
    rw [hx'] at hy ⊢
    simp (disch := omega) only [Bc, A6, aA, bN]
    refine mD fun w6 o6 x6 s6 => ?_
    refine jZ o6 rfl (by simp [one]) (by simp) fun w7 o7 x7 s7 => ?_
    simp only [aV, aI2, aI3] at o7
    have x57 : aS w5 w7 cI := x6.new x7 (aI9 _)
    have x47 := x5.seq x57
    have o2 := o2.ext x47 (fun h => h)
    have l7 := hP (off := 0) o7 (by simp)
    simp only [aI4, aIX, aI6] at l7
    obtain ⟨m, hm⟩ : ∃ m, m = x - 128 := ⟨_, rfl⟩
    have e1 : (x : Int) - 128 = (m : Int) := by omega
    have e2 : (m : Int) * 256 = ((m * 256 : Nat) : Int) := by omega
    rw [if_neg h128, if_pos h255] at hN
    cases r with
    | nil =>
      simp only [tkn] at hy o7 l7 ⊢
      have e0 : ((uB ([] : List UInt8) : Nat) : Int) = ((0 : Nat) : Int) := rfl
      have e3 : ((m * 256 : Nat) : Int) + ((0 : Nat) : Int) = ((m * 256 : Nat) : Int) := by omega
      simp (disch := omega) only [l7, e1, e2, e0, e3, iI, aA]
      refine aqA o2 rfl fun w' x8 => fin ?_ (x04.seq x47) x8
      unfold asY
      rw [hN]
      exact ⟨by decide, m * 256, y, by simp⟩
    | cons g s =>
      simp only [aiK] at hy o7 l7 ⊢
      have hg : uB [g] = g.toNat := by simp [uB]
      have hg8 : g.toNat < 256 := aJz g
      have hN2 : aEN x (g :: s) = .ok ((x - 128) * 256 + g.toNat, s) := rfl
      rw [hg]
      generalize g.toNat = z at *
      have e3 : ((m * 256 : Nat) : Int) + (z : Int) = ((m * 256 + z : Nat) : Int) := by omega
      simp (disch := omega) only [l7, e1, e2, e3, iI, aA]
      refine aqA o2 rfl fun w' x8 => fin ?_ (x04.seq x47) x8
      unfold asY
      rw [hN, hN2, <- hm]
      exact ⟨y, rfl, hy⟩
   .have d2 : decide ((x : Int) < 255) = false := by simp; omega
    simp (disch := omega) only [d1, l4, aA, d2, iI, aD]
    refine (Hg (n := 2) (by omega)).mono ?_
    rintro v w5 ⟨y, rfl, hy, x5⟩
    rw [hx'] at hy ⊢
    simp (disch := omega) only [Bc, A6, aA, bN]
    refine mD fun w6 o6 x6 s6 => ?_
    refine jZ o6 rfl (by simp [one]) (by simp) fun w7 o7 x7 s7 => ?_
    simp only [aV, aI2, aI3] at o7
    have x57 : aS w5 w7 cI := x6.new x7 (aI9 _)
    have x47 := x5.seq x57
    have o2 := o2.ext x47 (fun h => h)
    have l7 := hP (off := 0) o7 (by simp)
    simp only [aI4, aIX, aI6] at l7
    rw [if_neg h128, if_neg h255] at hN
    cases r with
    | nil =>
      simp only [YV 2 (show 1 <= 2 by omega)] at hy o7 l7 ⊢
      have e0 : ((uB ([] : List UInt8) : Nat) : Int) = ((0 : Nat) : Int) := rfl
      have e3 : ((0 : Nat) : Int) + 32512 = ((32512 : Nat) : Int) := rfl
      simp (disch := omega) only [l7, e0, e3, iI, aA]
      refine aqA o2 rfl fun w' x8 => fin ?_ (x04.seq x47) x8
      unfold asY
      rw [hN]
      exact ⟨by decide, 32512, y, rfl⟩
    | cons g s =>
      cases s with
      | nil =>
        simp only [avI] at hy o7 l7 ⊢
        have e0 : ((uB ([] : List UInt8) : Nat) : Int) = ((0 : Nat) : Int) := rfl
        have e3 : ((0 : Nat) : Int) + 32512 = ((32512 : Nat) : Int) := rfl
        simp (disch := omega) only [l7, e0, e3, iI, aA]
        refine aqA o2 rfl fun w' x8 => fin ?_ (x04.seq x47) x8
        unfold asY
        rw [hN]
        exact ⟨by decide, 32512, y, rfl⟩
      | cons k s =>
        simp only [aEi] at hy o7 l7 ⊢
        have hg : uB [g, k] = g.toNat + 256 * k.toNat := by simp [uB]
        have hg8 : g.toNat < 256 := aJz g
        have hk8 : k.toNat < 256 := aJz k
        have hN3 : aE0 (g :: k :: s) = .ok (g.toNat + 256 * k.toNat + 32512, s) := rfl
        rw [hg]
        have hy6 : g.toNat + 256 * k.toNat < 65536 := by omega
        generalize g.toNat + 256 * k.toNat = z at *
        obtain ⟨u, hu⟩ : ∃ u, u = z + 32512 := ⟨_, rfl⟩
        have e5 : (z : Int) + 32512 = (u : Int) := by omega
        rw [<- hu] at hN3
        simp (disch := omega) only [l7, e5, iI, aA]
        refine aqA o2 rfl fun w' x8 => fin ?_ (x04.seq x47) x8
        unfold asY
        rw [hN, hN3]
        exact ⟨y, rfl, hy⟩
def zB0 : List Int := [0, 1, 2, 3, 4, 5, 6, 7, 8, 9, 10, 11, 12, 13, 14, 15, 16, 18, 20, 22, 24, 28, 32, 40, 48, 64, 128, 256, 512, 1024, 2048, 4096, 8192, 16384, 32768, 65536]
def zB2 : List Int := [3, 4, 5, 6, 7, 8, 9, 10, 11, 12, 13, 14, 15, 16, 17, 18, 19, 20, 21, 22, 23, 24, 25, 26, 27, 28, 29, 30, 31, 32, 33, 34, 35, 37, 39, 41, 43, 47, 51, 59, 67, 83, 99, 131, 259, 515, 1027, 2051, 4099, 8195, 16387, 32771, 65539]
def pw2 (i : Nat) : Int := if i < 32 then 2 ^ i else 0
def zB1 : List Int := (List.range 32).map pw2
def aDh (a : Int) : List Int := if a = 0 then zB0 else if a = 2 then zB2 else if a = 1 then zB1 else []
theorem aEM (a : Int) : (((aDh a).length : Nat) : Int) = pP a + 1 := by
 unfold aDh pP
 by_cases h0 : a = 0
 .subst h0; rfl
 by_cases h2 : a = 2
 .subst h2; rfl
 by_cases h1 : a = 1
 .subst h1; rfl
 rw [if_neg h0, if_neg h2, if_neg h1, if_neg h0, if_neg h1, if_neg h2] <;> rfl
theorem asL (a : Int) (w : aLl) : aR pg xD #[.int .i64 a] w (fun r w' => Sl w' r ((aDh a).map (Value.int .u32)) /\ aS w w' cI) := by
 refine adK ?_
 unfold adR Iv Im
 unfold aDh
 by_cases h0 : a = 0
 .subst h0
  have n1 : ((0 : Int) == 0) = true := rfl
  simp (disch := omega) only [aC, cK, n1, if_true, aA, aF]
  refine Rg (cells := (zB0.map (Value.int .u32)).toArray) (by decide) (by decide) (by kernel_rfl) fun w1 o1 x1 s1 => ?_
  exact ⟨⟨_, _, _, rfl, rfl, aI9 _, fun _ => ⟨_, _, rfl, fun i hi => by rw [o1.cell, aIZ]⟩⟩, x1⟩
 have n1 : (a == 0) = false := beq_eq_false_iff_ne.2 h0
 by_cases h2 : a = 2
 .subst h2
  rw [if_neg h0, if_pos rfl]
  have n2 : ((2 : Int) == 2) = true := rfl
  simp (disch := omega) only [aC, cK, n1, n2, aA, aF, aD]
  refine Rg (cells := (zB2.map (Value.int .u32)).toArray) (by decide) (by decide) (by kernel_rfl) fun w1 o1 x1 s1 => ?_
  exact ⟨⟨_, _, _, rfl, rfl, aI9 _, fun _ => ⟨_, _, rfl, fun i hi => by rw [o1.cell, aIZ]⟩⟩, x1⟩
 have n2 : (a == 2) = false := beq_eq_false_iff_ne.2 h2
 rw [if_neg h0, if_neg h2]
 simp (disch := omega) only [aC, cK, n1, n2, aA, aD]
 unfold Ij Ik I3 Ic IE
 by_cases h1 : a = 1
 .subst h1
  have n3 : ((1 : Int) == 1) = true := rfl
  refine cC.rule (fun m (t : aLm × aLm × aLm) w' => ∃ (i : Nat) (v : aLm), m = 32 - i /\ t = (v, .int .u32 (pw2 i), .int .i64 i) /\ i <= 32 /\ uD w' w.heap.size 1 v i ((zB1.take i).map (Value.int .u32)) /\ aS w w' cI) 32
   ⟨0, _, rfl, rfl, by omega, uD.nil _ _ _, aS.refl _ _⟩ ?_
  rintro m t w1 ⟨i, v, rfl, rfl, hi, ho, x1⟩
  unfold yX
  by_cases hlt : i < 32
  .have d1 : decide ((i : Int) < 32) = true := by simp; omega
   have e1 : IntKind.u32.wrap (pw2 i * 2) = pw2 (i + 1) := by
    have : ∀ k : Fin 32, IntKind.u32.wrap (pw2 k.val * 2) = pw2 (k.val + 1) := by decide
    exact this ⟨i, hlt⟩
   have hz : (zB1.take (i + 1)).map (Value.int .u32) = (zB1.take i).map (Value.int .u32) ++ [.int .u32 (pw2 i)] := by
    rw [aJE, aJJ]
    unfold zB1
    rw [aJq, aKZ hlt] <;> rfl
   have z1 := x1.size
   simp (disch := omega) only [aC, aW, d1, pX, e1, bN, aT, aA, if_true, mU, bM, bP, cK, n3, aF]
   refine Rg (cells := #[.int .u32 (pw2 i)]) (by decide) (by decide) (by kernel_rfl) fun w2 o2 x2 s2 => ?_
   have z2 := x2.size
   refine RM (m := 1) (news := [.int .u32 (pw2 i)]) (ho.ext x2 (fun _ _ h => h)) (o2.cl (off := 0) (l := [.int .u32 (pw2 i)]) (n := 1) rfl (fun i hi => by rw [aIZ])) (by simp [one]) (by omega) (by omega) fun v3 w3 o3 x3 => ?_
   rw [<- hz] at o3
   exact ⟨32 - (i + 1), by omega, i + 1, v3, rfl, rfl, by omega, o3, (x1.seq x2).trans x3 fun b hb h => by omega⟩
  .have d1 : decide ((i : Int) < 32) = false := by simp; omega
   obtain rfl : i = 32 := by omega
   unfold yW
   simp (disch := omega) only [aC, aW, d1, pX, bN, aT, aA, if_true, vN, bM, aI5, if_false, aD, dH]
   exact ⟨ho.sl, x1⟩
 .have n3 : (a == 1) = false := beq_eq_false_iff_ne.2 h1
  refine cC.rule (fun m (t : aLm × aLm × aLm) w' => m = 0 /\ t = (.slice none 0 0, .int .u32 1, .int .i64 0) /\ w' = w) 0 ⟨rfl, rfl, rfl⟩ ?_
  rintro m t w1 ⟨rfl, rfl, rfl⟩
  unfold yX yW
  have d1 : decide ((0 : Int) < 32) = true := rfl
  rw [if_neg h1]
  simp (disch := omega) only [aC, aW, d1, pX, Qe, bN, aT, aA, mU, bM, if_true, bP, cK, n3, aD]
  exact ⟨Sl.nil _, aS.refl _ _⟩
theorem aAo {k : Nat} (hk : k < 3) : aDh (k : Int) = (sG k).map fun (n : Nat) => (n : Int) := by
 rcases (show k = 0 ∨ k = 1 ∨ k = 2 by omega) with rfl | rfl | rfl <;> decide +kernel
theorem aFt {k : Nat} (hk : k < 3) (w : aLl) : aR pg Ep #[.int .i64 k] w (fun r w' => Sl w' r (((lR k).map fun (n : Nat) => (n : Int)).map (Value.int .i64)) /\ aS w w' cI) := by
 refine anX ?_
 unfold aqY OA O9
 by_cases h0 : k = 0
 .subst h0
  have n1 : (((0 : Nat) : Int) == 0) = true := rfl
  simp (disch := omega) only [aC, cK, n1, aA, aF]
  refine zD (cells := (((lR 0).map fun (n : Nat) => (n : Int)).map (Value.int .i64)).toArray) (by decide) (by decide) (by kernel_rfl) fun w1 o1 x1 s1 => ?_
  exact ⟨⟨_, _, _, rfl, rfl, aI9 _, fun _ => ⟨_, _, rfl, fun i hi => by rw [o1.cell, aIZ]⟩⟩, x1⟩
 have n1 : ((k : Int) == 0) = false := beq_eq_false_iff_ne.2 (by omega)
 by_cases h2 : k = 2
 .subst h2
  have n2 : (((2 : Nat) : Int) == 2) = true := rfl
  simp (disch := omega) only [aC, cK, n1, n2, aA, aF, aD]
  refine zD (cells := (((lR 2).map fun (n : Nat) => (n : Int)).map (Value.int .i64)).toArray) (by decide) (by decide) (by kernel_rfl) fun w1 o1 x1 s1 => ?_
  exact ⟨⟨_, _, _, rfl, rfl, aI9 _, fun _ => ⟨_, _, rfl, fun i hi => by rw [o1.cell, aIZ]⟩⟩, x1⟩
 have n2 : ((k : Int) == 2) = false := beq_eq_false_iff_ne.2 (by omega)
 obtain rfl : k = 1 := by omega
 simp (disch := omega) only [aC, cK, n1, n2, aA, aD]
 unfold Ps PB PF NN O5
 have n3 : (((1 : Nat) : Int) == 1) = true := rfl
 refine cC.rule (fun m (t : aLm × aLm) w' => ∃ (i : Nat) (v : aLm), m = 32 - i /\ t = (v, .int .i64 i) /\ i <= 32 /\ uD w' w.heap.size 1 v i (((List.range i).map fun (n : Nat) => (n : Int)).map (Value.int .i64)) /\ aS w w' cI) 32
  ⟨0, _, rfl, rfl, by omega, uD.nil _ _ _, aS.refl _ _⟩ ?_
 rintro m t w1 ⟨i, v, rfl, rfl, hi, ho, x1⟩
 unfold GR
 by_cases hlt : i < 32
 .have d1 : decide ((i : Int) < 32) = true := by simp; omega
  have hz : ((List.range (i + 1)).map fun (n : Nat) => (n : Int)).map (Value.int .i64) = ((List.range i).map fun (n : Nat) => (n : Int)).map (Value.int .i64) ++ [.int .i64 (i : Int)] := by
   rw [aK0, aJJ, aJJ] <;> rfl
  have z1 := x1.size
  simp (disch := omega) only [aC, aW, d1, bN, aT, aA, mU, bM, if_true, bP, cK, n3, aF]
  refine zD (cells := #[.int .i64 (i : Int)]) (by decide) (by decide) (by kernel_rfl) fun w2 o2 x2 s2 => ?_
  have z2 := x2.size
  refine Fz (m := 1) (news := [.int .i64 (i : Int)]) (ho.ext x2 (fun _ _ h => h)) (o2.cl (off := 0) (l := [.int .i64 (i : Int)]) (n := 1) rfl (fun i hi => by rw [aIZ])) (by simp [one]) (by omega) (by omega) fun v3 w3 o3 x3 => ?_
  rw [<- hz] at o3
  exact ⟨32 - (i + 1), by omega, i + 1, v3, rfl, rfl, by omega, o3, (x1.seq x2).trans x3 fun b hb h => by omega⟩
 .have d1 : decide ((i : Int) < 32) = false := by simp; omega
  obtain rfl : i = 32 := by omega
  unfold G7
  simp (disch := omega) only [aC, aW, d1, bN, aT, aA, vN, bM, aI5, if_false, aD, dH]
  exact ⟨ho.sl, x1⟩
theorem aDn {k c : Nat} {w : aLl} (hk : k < 3) (hc : c < lI k) :
 aR pg Ki #[.int .i64 k, .int .i64 c] w (fun r w' => r = .tuple #[.int .u32 ((sG k).getD c 0 : Nat), .int .i64 ((lR k).getD c 0 : Nat), .int .i64 0] /\ aS w w' cI) := by
 refine alW ?_
 have hl1 : 1 <= lI k := by rcases (show k = 0 ∨ k = 1 ∨ k = 2 by omega) with rfl | rfl | rfl <;> decide
 unfold aqW NZ
 refine (asL k w).mono ?_
 rintro r w1 ⟨hs, x1⟩
 rw [aAo hk] at hs
 have hlen : ((sG k).map fun (n : Nat) => (n : Int)).length = lI k := by simp
 have hs0 := hs
 obtain ⟨b, off, c', rfl, hcc, hcell⟩ := hs.openI (by omega)
 have g1 := hcell c (by omega)
 rw [aJB, <- nT] at g1
 have g1d : (dr w1).cell? ⟨b, off + c, none⟩ = some (.int .u32 ((sG k).getD c 0 : Nat)) := g1
 have n1 : (((lI k : Nat) : Int) == 0) = false := beq_eq_false_iff_ne.2 (by omega)
 have d1 : decide ((c : Int) < 0) = false := by simp
 have d2 : decide (((lI k : Nat) : Int) <= (c : Int)) = false := by simp; omega
 simp (disch := omega) only [aC, hlen, eE, aW, d1, lW, aIY, dS, Result.ok.injEq, Next.value.injEq, and_true, true_and, aA, mB, dG, bM, aI5, if_false, bP, oD, d2, aD, cK, n1, g1d, aG]
 refine (aFt hk (dr w1)).mono ?_
 rintro r w2 ⟨hs2, x2⟩
 have hlen2 : ((lR k).map fun (n : Nat) => (n : Int)).length = lI k := by rw [aJb, azV hk]
 obtain ⟨b2, off2, c2, rfl, hcc2, hcell2⟩ := hs2.openI (by omega)
 have g2 := hcell2 c (by omega)
 rw [aJB, <- nT] at g2
 have hs3 := (hs.ext (aS.dr _ cI) (bU _)).ext x2 (bU _)
 obtain ⟨b', off', c'', hv, _, hcell3⟩ := hs3.openI (by omega)
 cases hv
 have g3 := hcell3 c (by omega)
 rw [aJB, <- nT] at g3
 simp (disch := omega) only [g3, aG, hlen2, dB, aIY, aA, bZ, g2, true_and]
 exact (x1.seq (aS.dr _ _)).seq x2
theorem awM {k v : Nat} {w : aLl} (hk : k < 3) (hv : v < 4294967296) :
 aR pg FW #[.int .i64 k, .int .u32 v] w (fun r w' => OfR k v r /\ aS w w' cI) := by
 refine atD ?_
 obtain ⟨RR, hRR⟩ : ∃ RR : aLm -> aLl -> Prop, RR = fun r w' => OfR k v r /\ aS w w' cI := ⟨_, rfl⟩
 rw [<- hRR]
 have hl1 : 1 <= lI k := by rcases (show k = 0 ∨ k = 1 ∨ k = 2 by omega) with rfl | rfl | rfl <;> decide
 unfold azL Uk UD
 refine (asL k w).mono ?_
 rintro r w1 ⟨hs, x1⟩
 rw [aAo hk] at hs
 have hlen : ((sG k).map fun (n : Nat) => (n : Int)).length = lI k := by simp
 obtain ⟨b, off, c', rfl, hcc, _⟩ := hs.openI (by omega)
 have n1 : (((lI k : Nat) : Int) == 0) = false := beq_eq_false_iff_ne.2 (by omega)
 simp (disch := omega) only [aC, hlen, eE, aA, cK, n1, aD]
 refine (aFt hk w1).mono ?_
 rintro r w2 ⟨hs2, x2⟩
 have hs3 := hs.ext x2 (bU _)
 obtain ⟨b', off', c'', hv', _, hcell⟩ := hs3.openI (by omega)
 cases hv'
 have hlen2 : ((lR k).map fun (n : Nat) => (n : Int)).length = lI k := by rw [aJb, azV hk]
 obtain ⟨b2, off2, c2, rfl, hcc2, hcell2⟩ := hs2.openI (by omega)
 simp (disch := omega) only [hlen2]
 unfold T8 Vj Up UQ Vb
 have hl53 : lI k <= 53 := by rcases (show k = 0 ∨ k = 1 ∨ k = 2 by omega) with rfl | rfl | rfl <;> decide
 obtain ⟨n, hn⟩ : ∃ n, n = lI k := ⟨_, rfl⟩
 rw [<- hn]
 refine cC.rule (fun m (t : aLm) w' => ∃ i : Nat, m = n - i /\ i <= n /\ t = .int .i64 i /\ (∀ c, c < i -> ¬ sV k v c) /\ aS w2 w' cI) n ⟨0, rfl, by omega, rfl, fun c h => by omega, aS.refl _ _⟩ ?_
 rintro m t w3 ⟨i, rfl, hi, rfl, hno, x3⟩
 unfold Ni
 by_cases hlt : i < n
 .have d5 : decide ((i : Int) < (n : Int)) = true := by simp; omega
  have e53 : IntKind.i64.wrap ((i : Int) + 1) = ((i + 1 : Nat) : Int) := aT (by omega) (by omega)
  have hs4 := (hs3.ext x3 (bU _))
  have hs5 := (hs2.ext x3 (bU _))
  obtain ⟨b', off', c'', hv', _, hcell4⟩ := hs4.openI (by omega)
  cases hv'
  obtain ⟨b', off', c'', hv', _, hcell5⟩ := hs5.openI (by omega)
  cases hv'
  have g1 := hcell4 i (by omega)
  have g2 := hcell5 i (by omega)
  rw [aJB, <- nT] at g1 g2
  have ha := VK hk i
  have hsl := ZF (n := (lR k).getD i 0) (by omega)
  have he := aEl hk i (by omega)
  have hcv : sV k v i ↔ (sG k).getD i 0 <= v /\ v < (sG k).getD i 0 + 2 ^ (lR k).getD i 0 := ⟨fun h => h.2, fun h => ⟨by omega, h⟩⟩
  have hpp := aJv ((lR k).getD i 0)
  obtain ⟨bg, hbg⟩ : ∃ bg, bg = (sG k).getD i 0 := ⟨_, rfl⟩
  rw [<- hbg] at g1 he hcv
  generalize (lR k).getD i 0 = nn at *
  have g1d : (dr w3).cell? ⟨b, off + i, none⟩ = some (.int .u32 (bg : Nat)) := g1
  have g2d : (dr w3).cell? ⟨b2, off2 + i, none⟩ = some (.int .i64 (nn : Nat)) := g2
  have g1dd : (dr (dr w3)).cell? ⟨b, off + i, none⟩ = some (.int .u32 (bg : Nat)) := g1
  have g2dd : (dr (dr w3)).cell? ⟨b2, off2 + i, none⟩ = some (.int .i64 (nn : Nat)) := g2
  generalize 2 ^ nn = pp at *
  by_cases h1 : bg <= v
  .have d6 : decide ((bg : Int) <= (v : Int)) = true := by simp; omega
   have e6 : IntKind.u32.wrap ((v : Int) - (bg : Int)) = ((v - bg : Nat) : Int) := by rw [w32 (by omega) (by omega)]; omega
   by_cases h2 : v < bg + pp
   .have d7 : decide (((v - bg : Nat) : Int) < (pp : Int)) = true := by simp; omega
    simp (disch := omega) only [aC, eE, lW, aIY, true_and, aA, mB, bN, e53, aW, d5, g1d, aG, g1dd, dZ, e6, oD, d6, mU, bM, if_true, bP, dB, bZ, g2d, jB, iI, mO, hsl, d7, aF]
    rw [hRR]
    exact ⟨.inl ⟨i, hcv.2 ⟨h1, h2⟩, by rw [<- hbg]⟩, (((x1.seq x2).seq x3).seq (aS.dr _ _)).seq (aS.dr _ _)⟩
   .have d7 : decide (((v - bg : Nat) : Int) < (pp : Int)) = false := by simp; omega
    simp (disch := omega) only [aC, eE, lW, aIY, true_and, aA, mB, bN, e53, aW, d5, g1d, aG, g1dd, dZ, e6, oD, d6, mU, bM, if_true, bP, dB, bZ, g2d, jB, iI, mO, hsl, d7, aD, aF]
    refine ⟨n - (i + 1), by omega, i + 1, rfl, by omega, rfl, fun c hc => ?_, x3.seq (aS.dr _ _)⟩
    rcases aJl c i with h | h
    .exact hno c h
    .obtain rfl : c = i := by omega
     rw [hcv]; omega
  .have d6 : decide ((bg : Int) <= (v : Int)) = false := by simp; omega
   simp (disch := omega) only [aC, eE, lW, aIY, true_and, aA, mB, bN, e53, aW, d5, g1d, aG, g1dd, dZ, oD, d6, vN, bM, aI5, if_false, aD, dH, aF]
   refine ⟨n - (i + 1), by omega, i + 1, rfl, by omega, rfl, fun c hc => ?_, x3.seq (aS.dr _ _)⟩
   rcases aJl c i with h | h
   .exact hno c h
   .obtain rfl : c = i := by omega
    rw [hcv]; omega
 .have d5 : decide ((i : Int) < (n : Int)) = false := by simp; omega
  obtain rfl : i = n := by omega
  simp (disch := omega) only [aC, eE, true_and, bN, aT, aA, aW, d5, aD]
  unfold Nr
  rw [hRR]
  exact ⟨.inr ⟨fun c hc => hno c (by rw [hn]; exact hc.1) hc, rfl⟩, (x1.seq x2).seq x3⟩
def RT (w : aLl) (b log : Nat) (L : List T3) (v : aLm) : Prop := ∃ cc rest, v = .agg #[.int .i64 log, .slice (some ⟨b, 0, none⟩) L.length cc] /\ cM w b (fe .i64 L ++ rest)
theorem RT.ext {w w' : aLl} {b log : Nat} {L : List T3} {v : aLm} {M : Nat -> Prop} (h : RT w b log L v) (hx : aS w w' M) (hM : ¬ M b) : RT w' b log L v := by
 obtain ⟨cc, rest, h1, h2⟩ := h
 exact ⟨cc, rest, h1, h2.ext hx hM⟩
theorem aEs (s : Int) (w : aLl) : aR pg NB #[.int .i64 s] w (fun r w' => ∃ b, w.heap.size <= b /\ RT w' b 0 [(s, 0, 0)] r /\ aS w w' cI) := by
 refine aoL ?_
 unfold atV So
 refine gE fun w1 o1 x1 s1 => ?_
 simp (disch := omega) only [aC, dS, aA, stepR_skip, bN, dZ, pX, zX, yV, EN, ahI, auB, Qh, mO, vY, cK, fB, aW, ZH, dO, oD, arW, auF, Bm, bM, aoT, Vf, rI, Bc, A6, Kh, Ka, J3, x40, x41, x42, x43, aG, Result.ok.injEq, Next.value.injEq, true_and, and_true, aT, iI, avD, Qe, auY, JG, aIY, mU, jH, vN, dG, bP, dH, VR, QT, aF, aD, if_true, if_false, aI5, aIZ, aJm, aKu, aJx, aJT, aI1, aI0, jY, dK, fH, mJ, kJ, cB, iC, eP, mB, fI, fY, cL, bR, cW, fK, rS, bZ, lL, tL, kZ, dV, iN, eX, sP, pI, cR, dB, dA, pD, eE, lW, jB, fF, nQ, cF, sD, gN, oB, iQ, jU, jT, fS, mF, mE, mV, iU, eH, kX, oQ, gV, gJ, jO, iY, qD, nU, cG, bF, bA, gG, jA, nZ, vH, GW, sN, lA, jS, eB, fA, iE, iF, fJ, pF, gH, pH, kS, jV, lH, vE, dU, eT, rW, jI, bC, lC, vC, kG, mH, tJ, tA, jJ, iX, sI, sX, mC, oX, yC, yJ, jG, mQ, lD, gI, jP, bW, aU, xN, vO, mZ, vD, rZ, iS, rT, rQ, dF, cP, oP, rP, pS, iB, iT, gM, oA, nY, rY, rX, gQ, jQ, gW, rV, rU, tE, pA, kB, nE, lB, zH, wW]
 refine wT (cells := #[.int .i64 s, .int .i64 0, .int .i64 0]) (by decide) (by decide) (by kernel_rfl) fun w2 o2 x2 s2 => ?_
 simp (disch := omega) only [aC, dS, aA, stepR_skip, bN, dZ, pX, zX, yV, EN, ahI, auB, Qh, mO, vY, cK, fB, aW, ZH, dO, oD, arW, auF, Bm, bM, aoT, Vf, rI, Bc, A6, Kh, Ka, J3, x40, x41, x42, x43, aG, Result.ok.injEq, Next.value.injEq, true_and, and_true, aT, iI, avD, Qe, auY, JG, aIY, mU, jH, vN, dG, bP, dH, VR, QT, aF, aD, if_true, if_false, aI5, aIZ, aJm, aKu, aJx, aJT, aI1, aI0, jY, dK, fH, mJ, kJ, cB, iC, eP, mB, fI, fY, cL, bR, cW, fK, rS, bZ, lL, tL, kZ, dV, iN, eX, sP, pI, cR, dB, dA, pD, eE, lW, jB, fF, nQ, cF, sD, gN, oB, iQ, jU, jT, fS, mF, mE, mV, iU, eH, kX, oQ, gV, gJ, jO, iY, qD, nU, cG, bF, bA, gG, jA, nZ, vH, GW, sN, lA, jS, eB, fA, iE, iF, fJ, pF, gH, pH, kS, jV, lH, vE, dU, eT, rW, jI, bC, lC, vC, kG, mH, tJ, tA, jJ, iX, sI, sX, mC, oX, yC, yJ, jG, mQ, lD, gI, jP, bW, aU, xN, vO, mZ, vD, rZ, iS, rT, rQ, dF, cP, oP, rP, pS, iB, iT, gM, oA, nY, rY, rX, gQ, jQ, gW, rV, rU, tE, pA, kB, nE, lB, zH, wW]
 have l1 := o1.lt
 refine eJ (o1.ext x2 (fun h => h)) rfl (by simp [one]) (by simp) fun w3 o3 x3 s3 => ?_
 refine pW o3 (by simp [aV]) ?_
 simp only [aV, aI2, aI3, aI4, aIX, aI6]
 exact ⟨w1.heap.size, by omega, ⟨1, [], rfl, o2.ext x3 (by omega)⟩, (x1.seq x2).new x3 (aI9 _)⟩
def RtV (w : aLl) (base : Nat) (T : Nat × List T3) (v : aLm) : Prop := (T = (0, []) /\ v = .agg #[.int .i64 0, .slice none 0 0]) ∨ ∃ b, base <= b /\ RT w b T.1 T.2 v
theorem RtV.nil (w : aLl) (base : Nat) : RtV w base (0, []) (.agg #[.int .i64 0, .slice none 0 0]) := .inl ⟨rfl, rfl⟩
theorem RT.lt {w : aLl} {b log : Nat} {L : List T3} {v : aLm} (h : RT w b log L v) : b < w.heap.size := by
 obtain ⟨cc, rest, h1, h2⟩ := h; exact h2.lt
theorem RtV.form {w : aLl} {base : Nat} {T : Nat × List T3} {v : aLm} (h : RtV w base T v) : ∃ a c, v = .agg #[.int .i64 T.1, .slice a T.2.length c] := by
 rcases h with ⟨rfl, rfl⟩ | ⟨b, _, cc, rest, rfl, _⟩
 .exact ⟨_, _, rfl⟩
 .exact ⟨_, _, rfl⟩
theorem RtV.ext {w w' : aLl} {base : Nat} {T : Nat × List T3} {v : aLm} {M : Nat -> Prop} (h : RtV w base T v) (x : aS w w' M) (hM : ∀ b, base <= b -> b < w.heap.size -> ¬ M b) : RtV w' base T v := by
 rcases h with h | ⟨b, hb, h⟩
 .exact .inl h
 .exact .inr ⟨b, hb, h.ext x (hM b hb h.lt)⟩
theorem RtV.lower {w : aLl} {base base' : Nat} {T : Nat × List T3} {v : aLm} (h : RtV w base T v) (hb : base' <= base) : RtV w base' T v := by
 rcases h with h | ⟨b, h1, h2⟩
 .exact .inl h
 .exact .inr ⟨b, by omega, h2⟩
def RtR (w : aLl) (base : Nat) (o : Except Int ((Nat × List T3) × Nat)) (r : aLm) : Prop := match o with
 | .error e => r = .tuple #[.agg #[.int .i64 0, .slice none 0 0], .int .i64 0, .int .i64 e]
 | .ok (T, n) => ∃ t, r = .tuple #[t, .int .i64 n, .int .i64 0] /\ RtV w base T t
theorem UF {p : Nat} {w0 w : aLl} {x : Int} {a : Option Addr} {k c : Nat} {n e : aLm} (o : cM w p [.int .i64 0, .slice none 0 0]) (hx : aS w0 w cI) (hp : w0.heap.size <= p) {RR : aLm -> aLl -> Prop}
 (hR : ∀ w', aS w0 w' cI -> aS w w' (fun y => y = p) -> RR (.tuple #[.agg #[.int .i64 x, .slice a k c], n, e]) w') :
 aC pg (aK 35 (.pointer (some ⟨p, 0, none⟩)) (.agg #[.int .i64 x, .slice a k c])) w fun _u w => mW pg 35 (.pointer (some ⟨p, 0, none⟩)) w fun r0 => RR (.tuple #[r0, n, e]) w := by
 refine eJ o rfl (by simp [one]) (by simp) fun w6 o6 x6 s6 => ?_
 refine pW o6 (by simp [aV]) ?_
 simp only [aV, aI2, aI3, aI4, aIX, aI6]
 exact hR _ (hx.new x6 hp) x6
theorem aBa {p : Nat} {w0 w : aLl} {x : Int} {a : Option Addr} {k c : Nat} {e : aLm} (o : cM w p [.int .i64 0, .slice none 0 0]) (hx : aS w0 w cI) (hp : w0.heap.size <= p) {RR : aLm -> aLl -> Prop}
 (hR : ∀ w', aS w0 w' cI -> aS w w' (fun y => y = p) -> RR (.tuple #[.agg #[.int .i64 x, .slice a k c], e]) w') :
 aC pg (aK 35 (.pointer (some ⟨p, 0, none⟩)) (.agg #[.int .i64 x, .slice a k c])) w fun _u w => mW pg 35 (.pointer (some ⟨p, 0, none⟩)) w fun r0 => RR (.tuple #[r0, e]) w := by
 refine eJ o rfl (by simp [one]) (by simp) fun w6 o6 x6 s6 => ?_
 refine pW o6 (by simp [aV]) ?_
 simp only [aV, aI2, aI3, aI4, aIX, aI6]
 exact hR _ (hx.new x6 hp) x6
theorem aA1 {a : Int} (ha : 0 <= a /\ a <= 2) (w : aLl) : aR pg GS #[.int .i64 a] w (fun r w' => ∃ v, r = .agg #[.int .i64 (YC a : Nat), v] /\ Sl w' v ((gvP a).map (Value.int .i64)) /\ aS w w' cI) := by
 refine ahE ?_
 unfold ajX MR
 refine qW fun w1 o1 x1 s1 => ?_
 rcases (show a = 0 ∨ a = 1 ∨ a = 2 by omega) with rfl | rfl | rfl
 .have n1 : ((0 : Int) == 0) = true := rfl
  simp (disch := omega) only [aC, cK, n1, aA, aF]
  refine zD (cells := (zTL.map (Value.int .i64)).toArray) (by decide) (by decide) (by kernel_rfl) fun w2 o2 x2 s2 => ?_
  simp (disch := omega) only [gQ, aA]
  refine jX (o1.ext x2 (fun h => h)) rfl (by simp [one]) (by simp) fun w4 o4 x4 s4 => ?_
  refine qA o4 (by simp [aV]) ?_
  simp only [aV, aI2, aI3, aI4, aIX, aI6]
  exact ⟨_, rfl, Vx (o2.ext x4 (by omega)) rfl, (x1.seq x2).new x4 (by omega)⟩
 .have n1 : ((1 : Int) == 0) = false := rfl
  have n2 : ((1 : Int) == 1) = true := rfl
  simp (disch := omega) only [aC, cK, n1, n2, aA, aF, aD]
  refine zD (cells := (zTO.map (Value.int .i64)).toArray) (by decide) (by decide) (by kernel_rfl) fun w2 o2 x2 s2 => ?_
  simp (disch := omega) only [gQ, aA]
  refine jX (o1.ext x2 (fun h => h)) rfl (by simp [one]) (by simp) fun w4 o4 x4 s4 => ?_
  refine qA o4 (by simp [aV]) ?_
  simp only [aV, aI2, aI3, aI4, aIX, aI6]
  exact ⟨_, rfl, Vx (o2.ext x4 (by omega)) rfl, (x1.seq x2).new x4 (by omega)⟩
 .have n1 : ((2 : Int) == 0) = false := rfl
  have n2 : ((2 : Int) == 1) = false := rfl
  simp (disch := omega) only [aC, cK, n1, n2, aA, aD]
  refine zD (cells := (zTM.map (Value.int .i64)).toArray) (by decide) (by decide) (by kernel_rfl) fun w2 o2 x2 s2 => ?_
  simp (disch := omega) only [gQ, aA]
  refine jX (o1.ext x2 (fun h => h)) rfl (by simp [one]) (by simp) fun w4 o4 x4 s4 => ?_
  refine qA o4 (by simp [aV]) ?_
  simp only [aV, aI2, aI3, aI4, aIX, aI6]
  exact ⟨_, rfl, Vx (o2.ext x4 (by omega)) rfl, (x1.seq x2).new x4 (by omega)⟩
theorem awL {a : Int} (w : aLl) : aR pg Cd #[.int .i64 a] w (fun r w' => ∃ t e, r = .tuple #[t, .int .i64 e] /\ (match wY a with
 | .error e' => t = .agg #[.int .i64 0, .slice none 0 0] /\ e = e'
 | .ok T => RtV w' w.heap.size T t /\ e = 0) /\ aS w w' cI) := by
 refine XH ?_
 unfold W5 F6
 refine gE fun w1 o1 x1 s1 => ?_
 have z1 := x1.size
 by_cases h0 : a < 0
 .have d1 : decide (a < 0) = true := by simpa using h0
  have hE : wY a = .error 1 := by unfold wY; rw [if_neg (by omega)]
  rw [hE]
  simp (disch := omega) only [aC, aW, d1, cG, aA, jH, bM, if_true, aF, dH]
  exact aBa (RR := fun r w' => ∃ t e, r = .tuple #[t, .int .i64 e] /\ (t = .agg #[.int .i64 0, .slice none 0 0] /\ e = 1) /\ aS w w' cI) o1 x1 (aI9 _) fun w' x _ => ⟨_, _, rfl, ⟨rfl, rfl⟩, x⟩
 have d1 : decide (a < 0) = false := by simpa using h0
 by_cases h2 : 2 < a
 .have d2 : decide (2 < a) = true := by simpa using h2
  have hE : wY a = .error 1 := by unfold wY; rw [if_neg (by omega)]
  rw [hE]
  simp (disch := omega) only [aC, aW, d1, cG, aA, dG, bM, aI5, if_false, bP, dO, d2, aF]
  exact aBa (RR := fun r w' => ∃ t e, r = .tuple #[t, .int .i64 e] /\ (t = .agg #[.int .i64 0, .slice none 0 0] /\ e = 1) /\ aS w w' cI) o1 x1 (aI9 _) fun w' x _ => ⟨_, _, rfl, ⟨rfl, rfl⟩, x⟩
 have d2 : decide (2 < a) = false := by simpa using h2
 have hE : wY a = .ok (YC a, lQ (YC a) (gvP a)) := by unfold wY; rw [if_pos (by omega)]
 rw [hE]
 have hm := aoY (a := a) (by omega)
 simp (disch := omega) only [aC, aW, d1, cG, aA, dG, bM, aI5, if_false, bP, dO, d2, aD]
 refine (aA1 (by omega) _).mono ?_
 rintro r w2 ⟨v, rfl, hs, x2⟩
 have z2 := x2.size
 refine (aoN hm hs).mono ?_
 rintro r w3 ⟨b, cc, rest, rfl, hb, ob, x3⟩
 have z3 := x3.size
 have hbl := ob.lt
 simp (disch := omega) only [Bc, A6, aA]
 refine aBa (RR := fun r w' => ∃ t e, r = .tuple #[t, .int .i64 e] /\ (RtV w' w.heap.size (YC a, lQ (YC a) (gvP a)) t /\ e = 0) /\ aS w w' cI) ((o1.ext x2 (fun h => h)).ext x3 (fun h => h)) ((x1.seq x2).seq x3) (aI9 _) fun w' x xx => ⟨_, _, rfl, ⟨.inr ⟨b, by omega, cc, rest, ?_, ob.ext xx (by omega)⟩, rfl⟩, x⟩
 rw [kN]
theorem aDa (a : Int) (w : aLl) : aR pg JE #[.int .i64 a] w (fun r w' => r = .int .i64 (D1 a) /\ w' = w) := by
 refine alZ ?_
 unfold apG Ob D1
 by_cases h0 : a = 0
 .subst h0
  have n1 : ((0 : Int) == 0) = true := rfl
  simp (disch := omega) only [aC, cK, n1, aA, jH, bM, if_true, aF, dH, and_true]
  rfl
 have n1 : (a == 0) = false := beq_eq_false_iff_ne.2 h0
 by_cases h2 : a = 2
 .subst h2
  have n2 : ((2 : Int) == 2) = true := rfl
  simp (disch := omega) only [aC, cK, n1, aA, dG, bM, aI5, if_false, bP, n2, and_true, aF]
  rfl
 have n2 : (a == 2) = false := beq_eq_false_iff_ne.2 h2
 rw [if_neg (by omega)]
 by_cases h1 : a = 1
 .subst h1
  have n3 : ((1 : Int) == 1) = true := rfl
  simp (disch := omega) only [aC, cK, n1, if_true, n3, true_and, aA, aF, dG, bM, aI5, if_false, bP, n2, and_true, aD]
 have n3 : (a == 1) = false := beq_eq_false_iff_ne.2 h1
 rw [if_neg h1]
 simp (disch := omega) only [aC, cK, n1, n3, true_and, aA, aD, dG, bM, aI5, if_false, bP, n2, and_true]
theorem arO {a mode : Int} {s : ByteArray} {ov : aLm} {T : Nat × List T3} {base : Nat} {w : aLl} (hl : mode = 2 -> s.size <= 1000000) (ho : RtV w base T ov) (hbase : base <= w.heap.size) (hT : T.2.length <= 1000000) :
 aR pg DJ #[.int .i64 a, .int .i64 mode, .string s, ov] w (fun r w' => RtR w' base (gY a mode (nH s) T) r /\ aS w w' cI) := by
 refine alN ?_
 obtain ⟨RR, hRR⟩ : ∃ RR : aLm -> aLl -> Prop, RR = fun r w' => RtR w' base (gY a mode (nH s) T) r /\ aS w w' cI := ⟨_, rfl⟩
 rw [<- hRR]
 obtain ⟨oa, oc, rfl⟩ := ho.form
 unfold aoP Oq
 refine gA fun w1 o1 x1 s1 => ?_
 simp only [Value.cells] at o1
 refine gE fun w2 o2 x2 s2 => ?_
 have x12 := x1.seq x2
 have z2 := x12.size
 refine (asL a _).mono ?_
 rintro r w3 ⟨hbs, x3⟩
 have hbl := aEM a
 obtain ⟨ga, gc, rfl, _⟩ := hbs.lenI
 have o1 := (o1.ext x2 (fun h => h)).ext x3 (fun h => h)
 have o2 := o2.ext x3 (fun h => h)
 have x13 := x12.seq x3
 have z3 := x3.size
 have err : ∀ {e : Int} {w' : aLl}, gY a mode (nH s) T = .error e -> aS w w' cI -> RR (.tuple #[.agg #[.int .i64 0, .slice none 0 0], .int .i64 0, .int .i64 e]) w' := fun h x => by
  rw [hRR]; refine ⟨?_, x⟩; rw [h] <;> rfl
 have good : ∀ {T' : Nat × List T3} {n : Nat} {w' : aLl} {t : aLm}, gY a mode (nH s) T = .ok (T', n) -> RtV w' base T' t -> aS w w' cI -> RR (.tuple #[t, .int .i64 n, .int .i64 0]) w' := fun h ht x => by
  rw [hRR]; refine ⟨?_, x⟩; rw [h]; exact ⟨_, rfl, ht⟩
 generalize (aDh a).length = nb at *
 by_cases ha : 0 <= a /\ a <= 2
 rotate_left
 .have hE : gY a mode (nH s) T = .error 1 := by unfold gY; rw [if_pos (by omega)]
  have d1 : (((nb : Nat) : Int) == 0) = true := by rw [hbl, asE ha] <;> rfl
  simp (disch := omega) only [aC, eE, cG, aA, cK, bF, aIZ, bA, d1, jH, bM, if_true, aF, dH]
  exact UF o2 x13 (by omega) fun w' x _ => err hE x
 obtain ⟨hl1, hl2⟩ := MM ha
 have d1 : (((nb : Nat) : Int) == 0) = false := beq_eq_false_iff_ne.2 (by omega)
 by_cases hm0 : mode < 0
 .have d2 : decide (mode < 0) = true := by simp; omega
  have hE : gY a mode (nH s) T = .error 1 := by unfold gY; rw [if_pos (by omega)]
  simp (disch := omega) only [aC, eE, cG, aA, cK, bF, aIZ, bA, d1, dG, bM, aI5, if_false, bP, aW, d2, jH, if_true, aF, dH]
  exact UF o2 x13 (by omega) fun w' x _ => err hE x
 have d2 : decide (mode < 0) = false := by simp; omega
 by_cases hm3 : 3 < mode
 .have d3 : decide (3 < mode) = true := by simp; omega
  have hE : gY a mode (nH s) T = .error 1 := by unfold gY; rw [if_pos (by omega)]
  simp (disch := omega) only [aC, eE, cG, aA, cK, bF, aIZ, bA, d1, dG, bM, aI5, if_false, bP, aW, d2, dO, d3, aF]
  exact UF o2 x13 (by omega) fun w' x _ => err hE x
 have d3 : decide (3 < mode) = false := by simp; omega
 have hno : ¬ (a < 0 ∨ 2 < a ∨ mode < 0 ∨ 3 < mode) := by omega
 by_cases m0 : mode = 0
 .subst m0
  have n1 : ((0 : Int) == 0) = true := rfl
  have hE : gY a 0 (nH s) T = .ok ((YC a, lQ (YC a) (gvP a)), 0) := by unfold gY; rw [if_neg hno, if_pos rfl]
  simp (disch := omega) only [aC, eE, cG, aA, cK, n1, bF, aIZ, bA, aF, d1, dG, bM, aI5, if_false, bP, aW, d2, dO, d3, aD]
  refine (awL _).mono ?_
  rintro r w4 ⟨t, e, rfl, ht, x4⟩
  have hD : wY a = .ok (YC a, lQ (YC a) (gvP a)) := by unfold wY; rw [if_pos (by omega)]
  rw [hD] at ht
  obtain ⟨ht, rfl⟩ := ht
  obtain ⟨ta, tc, rfl⟩ := ht.form
  have z4 := x4.size
  simp (disch := omega) only [Bc, A6, aA]
  refine gE fun w5 o5 x5 s5 => ?_
  refine eJ o5 rfl (by simp [one]) (by simp) fun w6 o6 x6 s6 => ?_
  have l1 := dD (off := 0) o6 (by simp [aV])
  simp only [aV, aI2, aI3, aI4, aIX, aI6] at l1
  simp (disch := omega) only [l1, aA]
  have x46 : aS w3 w6 cI := x4.seq (x5.new x6 (aI9 _))
  refine UF (o2.ext x46 (fun h => h)) (x13.seq x46) (by omega) fun w' x x7 => good hE ?_ x
  rcases ht with ⟨e, _⟩ | ⟨b', hb', h'⟩
  .exact absurd (congrArg (fun T : Nat × List T3 => T.2.length) e) (by
    show (lQ _ _).length ≠ 0
    rw [kN]; have := aJv (YC a); omega)
  .obtain ⟨cc, rest, q1, q2⟩ := h'
   cases q1
   have hlt := q2.lt
   exact .inr ⟨b', by omega, _, rest, rfl, ((q2.ext x5 (fun h => h)).ext x6 (by omega)).ext x7 (by omega)⟩
 have n1 : (mode == 0) = false := beq_eq_false_iff_ne.2 m0
 have hls := mM s
 by_cases m1 : mode = 1
 .subst m1
  have n2 : ((1 : Int) == 1) = true := rfl
  cases hle : nH s with
  | nil =>
    have hE : gY a 1 (nH s) T = .error 10 := by rw [hle]; unfold gY; rw [if_neg hno, if_neg (by omega), if_pos rfl]
    have hs0 : s = ⟨#[]⟩ := aB7 hle
    have n3 : (s.toList == (⟨#[]⟩ : ByteArray).toList) = true := by rw [hs0]; simp
    simp (disch := omega) only [aC, eE, cG, aA, cK, n1, n2, aeS, n3, aF, bF, aIZ, bA, aD, d1, dG, bM, aI5, if_false, bP, aW, d2, dO, d3]
    exact UF o2 x13 (by omega) fun w' x _ => err hE x
  | cons y l =>
    have hsz : 0 < s.size := by rw [<- hls, hle]; simp
    have n3 : (s.toList == (⟨#[]⟩ : ByteArray).toList) = false := aAS (by omega)
    have g0 : (s[(0 : Int).toNat]'hsz) = y := by
     have := Z3 s 0 hsz
     simp only [hle, aKB] at this
     exact this
    have hsz' : (0 : Int).toNat < s.size := hsz
    have hy := y.toNat_lt
    by_cases hyl : pP a < (y.toNat : Int)
    .have d4 : decide (((nb : Nat) : Int) <= (y.toNat : Int)) = true := by simp only [decide_eq_true_eq]; omega
     have hE : gY a 1 (nH s) T = .error 11 := by rw [hle]; unfold gY; rw [if_neg hno, if_neg (by omega), if_pos rfl]; exact if_pos hyl
     simp (disch := omega) only [aC, eE, cG, aA, cK, n1, n2, aeS, n3, qD, g0, kX, aT, aD, bF, aIZ, bA, aF, d1, oD, d4, dG, bM, aI5, if_false, bP, aW, d2, dO, d3]
     exact UF o2 x13 (by omega) fun w' x _ => err hE x
    .have d4 : decide (((nb : Nat) : Int) <= (y.toNat : Int)) = false := by simp only [decide_eq_false_iff_not]; omega
     have hE : gY a 1 (nH s) T = .ok ((0, [((y.toNat : Nat), 0, 0)]), 1) := by rw [hle]; unfold gY; rw [if_neg hno, if_neg (by omega), if_pos rfl]; exact if_neg hyl
     simp (disch := omega) only [aC, eE, cG, aA, cK, n1, n2, aeS, n3, qD, g0, kX, aT, aD, bF, aIZ, bA, aF, d1, oD, d4, dG, bM, aI5, if_false, bP, aW, d2, dO, d3]
     refine (aEs (y.toNat : Nat) _).mono ?_
     rintro r w4 ⟨b, hb1, ⟨cc, rest, rfl, ob⟩, x4⟩
     have z4 := x4.size
     have hbl := ob.lt
     refine UF (o2.ext x4 (fun h => h)) (x13.seq x4) (by omega) fun w' x x7 => good hE (.inr ⟨b, by omega, cc, rest, rfl, ?_⟩) x
     exact ob.ext x7 (by omega)
 have n2 : (mode == 1) = false := beq_eq_false_iff_ne.2 m1
 by_cases m3 : mode = 3
 .subst m3
  have n3 : ((3 : Int) == 3) = true := rfl
  have c1 := o1.cell (off := 1)
  simp only [aI0, aI1] at c1
  have l1 := dD (off := 0) o1 (by simp)
  simp only [aI4, aIX, aI6] at l1
  by_cases h0 : T.2 = []
  .have n4 : (((T.2.length : Nat) : Int) == 0) = true := by rw [h0] <;> rfl
   have hE : gY a 3 (nH s) T = .error 11 := by unfold gY; rw [if_neg hno, if_neg (by omega), if_neg (by omega), if_pos rfl, if_pos h0]
   simp (disch := omega) only [aC, eE, cG, aA, cK, n1, n2, n3, bF, aIZ, bA, aF, aD, d1, dG, bM, aI5, if_false, bP, aW, d2, dO, d3, c1, aG, gG, n4]
   exact UF o2 x13 (by omega) fun w' x _ => err hE x
  .have n4 : (((T.2.length : Nat) : Int) == 0) = false := by
    have := aJR.2 h0
    simp; exact h0
   have hE : gY a 3 (nH s) T = .ok (T, 0) := by unfold gY; rw [if_neg hno, if_neg (by omega), if_neg (by omega), if_pos rfl, if_neg h0]
   simp (disch := omega) only [aC, eE, cG, aA, cK, n1, n2, n3, bF, aIZ, bA, aF, aD, d1, dG, bM, aI5, if_false, bP, aW, d2, dO, d3, c1, aG, gG, n4, l1]
   refine UF o2 x13 (by omega) fun w' x x7 => good hE ?_ x
   rcases ho with ⟨e, _⟩ | ⟨b, hb1, h⟩
   .rw [e] at h0; exact absurd rfl h0
   .have hbl := h.lt
    exact .inr ⟨b, hb1, (h.ext x13 (fun h => h)).ext x7 (by omega)⟩
 have n3 : (mode == 3) = false := beq_eq_false_iff_ne.2 m3
 have m2 : mode = 2 := by omega
 have hl2 := hl m2
 simp (disch := omega) only [aC, eE, cG, aA, cK, n1, n2, n3, bF, aIZ, bA, aD, d1, dG, bM, aI5, if_false, bP, aW, d2, dO, d3]
 refine (aDa a _).mono ?_
 rintro r w4 ⟨rfl, hw⟩
 rw [hw]
 clear hw w4
 have e1 : (pP a + 1).toNat = nb := by omega
 refine (aBf hl2 (by omega)).mono ?_
 rintro r w4 ⟨hr, x4⟩
 have z4 := x4.size
 have hE0 : gY a mode (nH s) T = match yU (bK (nH s)) (D1 a) nb with
  | .error e => .error e
  | .ok (lg, ps, u) => .ok ((lg, lQ lg ps), u) := by unfold gY; rw [if_neg hno, if_neg m0, if_neg m1, if_neg m3, e1] <;> rfl
 cases hrl : yU (bK (nH s)) (D1 a) nb with
 | error e =>
   rw [hrl] at hr hE0
   have hr : r = _ := hr
   subst hr
   have he := agP hrl
   have n4 : (e != 0) = true := by simpa using he
   have hE : gY a mode (nH s) T = .error e := hE0
   simp (disch := omega) only [Kh, Ka, J3, aA, fB]
   refine qW fun w5 o5 x5 s5 => ?_
   refine jX o5 rfl (by simp [one]) (by simp) fun w6 o6 x6 s6 => ?_
   simp (disch := omega) only [n4, aF]
   have x46 : aS w3 w6 cI := x4.seq (x5.new x6 (aI9 _))
   exact UF (o2.ext x46 (fun h => h)) (x13.seq x46) (by omega) fun w' x _ => err hE x
 | ok y =>
   obtain ⟨lg, ps, u⟩ := y
   rw [hrl] at hr hE0
   obtain ⟨v, rfl, hv⟩ := hr
   obtain ⟨hmay, hlg, hpl⟩ := aoM hrl
   have hm := hmay (by omega)
   have hE : gY a mode (nH s) T = .ok ((lg, lQ lg ps), u) := hE0
   obtain ⟨va, vc, rfl⟩ := hv.len
   have hs := hv.sl
   have n4 : ((0 : Int) != 0) = false := rfl
   simp (disch := omega) only [Kh, Ka, J3, aA, fB]
   refine qW fun w5 o5 x5 s5 => ?_
   refine jX o5 rfl (by simp [one]) (by simp) fun w6 o6 x6 s6 => ?_
   have l1 := nK (off := 0) o6 (by simp [aV])
   simp only [aV, aI2, aI3, aI4, aIX, aI6] at l1
   have x46 : aS w4 w6 cI := x5.new x6 (aI9 _)
   have z6 := x46.size
   simp (disch := omega) only [n4, l1, aA, aD]
   refine (aoN hm (hs.ext x46 (bU _))).mono ?_
   rintro r w7 ⟨b, cc, rest, rfl, hb1, ob, x7⟩
   have z7 := x7.size
   have hbl := ob.lt
   simp (disch := omega) only [Bc, A6, aA, fB]
   refine gE fun w8 o8 x8 s8 => ?_
   refine eJ o8 rfl (by simp [one]) (by simp) fun w9 o9 x9 s9 => ?_
   have l2 := dD (off := 0) o9 (by simp [aV])
   simp only [aV, aI2, aI3, aI4, aIX, aI6] at l2
   simp (disch := omega) only [n4, l2, aA, aD]
   have x49 : aS w3 w9 cI := ((x4.seq x46).seq x7).seq (x8.new x9 (aI9 _))
   refine UF (o2.ext x49 (fun h => h)) (x13.seq x49) (by omega) fun w' x x10 => good hE (.inr ⟨b, by omega, cc, rest, by rw [kN], ?_⟩) x
   exact ((ob.ext x8 (fun h => h)).ext x9 (by omega)).ext x10 (by omega)
theorem aBH {log lo hi lack k cc : Nat} {a : Option Addr} {b : aLm} {L : List Bool} {w : aLl} (h : RB w lo hi b L lack) (hhi : hi <= w.heap.size) (hn : log <= 20) (hL : L.length <= 10000000) (hk : lack <= 100000000) :
 aR pg vB #[.agg #[.int .i64 log, .slice a k cc], b] w (fun r w' => ∃ b', r = .tuple #[b', .int .i64 (vZ L log : Nat)] /\ RB w' lo hi b' (L.take (L.length - min log L.length)) (lack + (log - min log L.length)) /\ aS w w' cI) := by
 refine aeQ ?_
 unfold akM Mq
 have hb := h
 obtain ⟨v, rfl, hs, hat⟩ := h
 obtain ⟨a', c', rfl, hc⟩ := Nk hs
 refine gA fun w1 o1 x1 s1 => ?_
 refine gA fun w2 o2 x2 s2 => ?_
 refine kV fun w3 o3 x3 s3 => ?_
 simp only [Value.cells] at o1 o2
 have o13 := (o1.ext x2 (fun h => h)).ext x3 (fun h => h)
 have o23 := o2.ext x3 (fun h => h)
 have x03 : aS w w3 cI := (x1.seq x2).seq x3
 have c0 := o13.cell (off := 0)
 have l1 := dE (off := 0) o23 (by simp)
 simp only [aI0, aI1, aI4, aIX, aI6] at c0 l1
 simp (disch := omega) only [aC, l1, jS, aA, bZ, c0, aG]
 refine (ajK (hb.ext x03 (fun _ _ _ h => h)) (by omega) hL (by omega)).mono ?_
 rintro r w4 ⟨b', rfl, hb4, x4⟩
 have hlt := Eg L log
 have hp : 2 ^ log <= 2 ^ 20 := aJa (by omega) hn
 generalize vZ L log = x at *
 have hb4' := hb4
 obtain ⟨v4, rfl, hs4, hat4⟩ := hb4
 obtain ⟨a4, c4, rfl, hc4⟩ := Nk hs4
 simp (disch := omega) only [Bc, A6, aA, cR, aT]
 refine bY (o23.ext x4 (fun h => h)) rfl (by simp [one]) (by simp) fun w5 o5 x5 s5 => ?_
 simp only [aV, aI2, aI3] at o5
 have l5 := dE (off := 0) o5 (by simp)
 simp only [aI4, aIX, aI6] at l5
 simp (disch := omega) only [l5, aA]
 refine bY ((o3.ext x4 (fun h => h)).ext x5 (by omega)) rfl (by simp [one]) (by simp) fun w6 o6 x6 s6 => ?_
 refine iZ o6 (by simp [aV]) ?_
 simp only [aV, aI2, aI3, aI4, aIX, aI6]
 have z3 := x3.size
 have x46 : aS w3 w6 (fun y => y = w1.heap.size ∨ y = w2.heap.size) := ((x4.mono fun _ _ h => h.elim).seq (x5.mono fun _ _ h => .inl h)).seq (x6.mono fun _ _ h => .inr h)
 have x06 : aS w w6 cI := x03.trans x46 fun b hb h => by omega
 refine ⟨_, rfl, ?_, x06⟩
 exact ⟨_, rfl, hs4.ext ((x5.mono fun _ _ h => .inl h : aS w4 w5 (fun y => y = w1.heap.size ∨ y = w2.heap.size)).seq (x6.mono fun _ _ h => .inr h)) (hat4 _ fun b hb hh => by omega), hat4⟩
theorem aBU {log b lo hi lack : Nat} {v bv : aLm} {L : List T3} {s : Int} {B : List Bool} {w : aLl} (ht : RT w b log L v) (hL : Low L) (hlen : L.length <= 1000000) (h : RB w lo hi bv B lack) (hhi : hi <= w.heap.size) (hB : B.length <= 10000000) (hk : lack <= 100000000) :
 aR pg xY #[v, .int .i64 s, bv] w (fun r w' => ∃ b', r = .tuple #[b', .int .i64 (AO L s (vZ B (qY L s)))] /\ RB w' lo hi b' (B.take (B.length - min (qY L s) B.length)) (lack + (qY L s - min (qY L s) B.length)) /\ aS w w' cI) := by
 refine anB ?_
 have htt := ht
 obtain ⟨cc, rest, rfl, ob⟩ := ht
 have hb := h
 obtain ⟨v, rfl, hs, hat⟩ := h
 obtain ⟨a', c', rfl, hc⟩ := Nk hs
 unfold asK OP
 refine gA fun w1 o1 x1 s1 => ?_
 refine gA fun w2 o2 x2 s2 => ?_
 refine kV fun w3 o3 x3 s3 => ?_
 simp only [Value.cells] at o1 o2
 have o13 := (o1.ext x2 (fun h => h)).ext x3 (fun h => h)
 have o23 := o2.ext x3 (fun h => h)
 have x03 : aS w w3 cI := (x1.seq x2).seq x3
 have c1 := o13.cell (off := 1)
 have l1 := dE (off := 0) o23 (by simp)
 simp only [aI0, aI1, aI4, aIX, aI6] at c1 l1
 have hlb := ob.lt
 have bad : qY L s = 0 -> (∀ x, AO L s x = 0) -> ∀ w6, aS w3 w6 (fun y => y = w2.heap.size) -> ∃ b', Value.tuple #[.agg #[.slice a' B.length c', .int .i64 lack], .int .i64 0] = Value.tuple #[b', .int .i64 (AO L s (vZ B (qY L s)))] /\ RB w6 lo hi b' (B.take (B.length - min (qY L s) B.length)) (lack + (qY L s - min (qY L s) B.length)) /\ aS w w6 cI := by
  intro e1 e2 w6 x6
  have x06 : aS w w6 cI := x03.new x6 (by omega)
  refine ⟨_, by rw [e2], ⟨_, ?_, ?_, hat⟩, x06⟩
  .rw [e1]; simp
  .have : B.take (B.length - min (qY L s) B.length) = B := aJw (by omega)
   rw [this]
   exact hs.ext x06 (bU _)
 by_cases hs0 : s < 0
 .have d1 : decide (s < 0) = true := by simpa using hs0
  have e1 : qY L s = 0 := by unfold qY; rw [if_neg (by omega)]
  have e2 : ∀ x, AO L s x = 0 := fun x => by unfold AO; rw [if_neg (by omega)]
  simp (disch := omega) only [aC, aW, d1, bF, aIZ, aA, dS, and_true, Result.ok.injEq, Next.value.injEq, true_and, bA, jH, bM, if_true, aF, dH, l1]
  refine bY o3 rfl (by simp [one]) (by simp) fun w6 o6 x6 s6 => ?_
  refine iZ o6 (by simp [aV]) ?_
  simp only [aV, aI2, aI3, aI4, aIX, aI6]
  exact bad e1 e2 w6 x6
 have d1 : decide (s < 0) = false := by simpa using hs0
 obtain ⟨i, rfl⟩ : ∃ i : Nat, s = i := ⟨s.toNat, by omega⟩
 by_cases hge : L.length <= i
 .have d2 : decide ((L.length : Int) <= (i : Int)) = true := by simp; omega
  have hnone : L[i]? = none := aJk hge
  have e1 : qY L i = 0 := by unfold qY; simp [hnone]
  have e2 : ∀ x, AO L i x = 0 := fun x => by unfold AO; simp [hnone]
  simp (disch := omega) only [aC, aW, d1, bF, aIZ, aA, dS, and_true, Result.ok.injEq, Next.value.injEq, true_and, bA, dG, bM, aI5, if_false, bP, c1, aG, gG, oD, d2, l1, aF]
  refine bY o3 rfl (by simp [one]) (by simp) fun w6 o6 x6 s6 => ?_
  refine iZ o6 (by simp [aV]) ?_
  simp only [aV, aI2, aI3, aI4, aIX, aI6]
  exact bad e1 e2 w6 x6
 clear bad
 have d2 : decide ((L.length : Int) <= (i : Int)) = false := by simp; omega
 have hlt : i < L.length := by omega
 obtain ⟨n, hn, hn2, hb0', hb1⟩ := hL _ (aJh hlt)
 have hsome : L[i]? = some L[i] := aI7 hlt
 have e1 : qY L i = n := by unfold qY; simp [hsome, hn]
 have e2 : ∀ x : Nat, AO L i x = L[i].2.2 + x := fun x => by unfold AO; simp [hsome]
 obtain ⟨q1, q2, q3⟩ := Q7 (k := .i64) hsome
 have hq : i * 3 + 2 < (fe .i64 L).length := by rw [lY]; omega
 rw [<- aJd (l₂ := rest) (by omega)] at q1 q2 q3
 generalize L[i] = e at *
 obtain ⟨e0, en, eb⟩ := e
 simp only at hn hb0' hb1 q1 q2 q3 e2
 subst hn
 rw [e1, e2]
 have ob3 := ob.ext x03 (fun h => h)
 have od := dT o13
 have o2d := dT o23
 have obd := dT ob3
 have c1d := od.cell (off := 1)
 have l1d := dE (off := 0) o2d (by simp)
 have r2d := obd.cell (off := i * 3 + 1)
 have r2 := ob3.cell (off := i * 3 + 1)
 rw [q2] at r2 r2d
 simp only [aI0, aI1, aI4, aIX, aI6] at c1d l1d
 simp (disch := omega) only [aC, aW, d1, bF, aIZ, aA, dS, and_true, Result.ok.injEq, Next.value.injEq, true_and, bA, dG, bM, aI5, if_false, bP, c1, aG, gG, oD, d2, l1, l1d, c1d, eB, aIY, iE, bZ, r2d, aD]
 refine (ajK ((hb.ext x03 (fun _ _ _ h => h)).ext (aS.dr _ cI) (fun _ _ _ h => h)) (by omega) hB (by omega)).mono ?_
 rintro r w4 ⟨b', rfl, hb4, x4⟩
 have hlt := Eg B n
 have hp : 2 ^ n <= 2 ^ 20 := aJa (by omega) hn2
 generalize vZ B n = x at *
 obtain ⟨v4, rfl, hs4, hat4⟩ := hb4
 obtain ⟨a4, c4, rfl, hc4⟩ := Nk hs4
 simp (disch := omega) only [Bc, A6, Result.ok.injEq, Next.value.injEq, and_true, aA, cR, aT, true_and]
 refine bY (o2d.ext x4 (fun h => h)) rfl (by simp [one]) (by simp) fun w5 o5 x5 s5 => ?_
 simp only [aV, aI2, aI3] at o5
 have z3 := x3.size
 have z4 : w3.heap.size <= w4.heap.size := x4.size
 have x35 : aS w3 w5 (fun y => y = w1.heap.size) := (((aS.dr w3 cI).seq x4).mono fun _ _ h => h.elim).seq x5
 have o15 := o13.ext x35 (by omega)
 have ob5 := ob3.ext x35 (by omega)
 have o5d := dT o5
 have l5 := dE (off := 0) o5d (by simp)
 have c15 := (dT o15).cell (off := 1)
 have r3 := (dT ob5).cell (off := i * 3 + 2)
 rw [q3] at r3
 simp only [aI0, aI1, aI4, aIX, aI6] at l5 c15
 simp (disch := omega) only [l5, c15, aG, aA, eB, aIY, aIZ, Result.ok.injEq, Next.value.injEq, and_true, iF, true_and, bZ, r3, bN, aT]
 refine bY (dT (o3.ext x35 (by omega))) rfl (by simp [one]) (by simp) fun w6 o6 x6 s6 => ?_
 simp only [aV, aI2, aI3] at o6
 have x56 : aS w5 w6 (fun y => y = w2.heap.size) := (aS.dr _ _).seq x6
 have c16 := (o15.ext x56 (by omega)).cell (off := 1)
 have r36 := (ob5.ext x56 (by omega)).cell (off := i * 3 + 2)
 rw [q3] at r36
 simp only [aI0, aI1] at c16
 simp (disch := omega) only [r36, aG, c16, and_true, true_and]
 refine iZ o6 (by simp) ?_
 simp only [aI4, aIX, aI6]
 have x36 : aS w3 w6 (fun y => y = w1.heap.size ∨ y = w2.heap.size) := (x35.mono fun _ _ h => .inl h).seq (x56.mono fun _ _ h => .inr h)
 have x06 : aS w w6 cI := x03.trans x36 fun b hb h => by omega
 refine ⟨_, rfl, ⟨_, rfl, hs4.ext ((x5.mono fun _ _ h => .inl h : aS w4 w5 (fun y => y = w1.heap.size ∨ y = w2.heap.size)).seq (x56.mono fun _ _ h => .inr h)) (hat4 _ fun b hb hh => by omega), hat4⟩, x06⟩
def RBl (w : aLl) (lo hi : Nat) (b : aLm) (B : List Bool) (left : Int) : Prop := RB w lo hi b (B.take left.toNat) (-left).toNat
theorem RBl.ext {w w' : aLl} {lo hi : Nat} {b : aLm} {B : List Bool} {left : Int} {M : Nat -> Prop} (h : RBl w lo hi b B left) (x : aS w w' M) (hM : ∀ b, lo <= b -> b < hi -> ¬ M b) : RBl w' lo hi b B left := RB.ext h x hM
theorem RBl.form {w : aLl} {lo hi : Nat} {b : aLm} {B : List Bool} {left : Int} (h : RBl w lo hi b B left) (hl : left <= B.length) : ∃ a c, b = .agg #[.slice a left.toNat c, .int .i64 ((-left).toNat : Nat)] := by
 obtain ⟨v, rfl, hs, _⟩ := h
 obtain ⟨a, c, rfl, _⟩ := Nk hs
 have : (B.take left.toNat).length = left.toNat := by rw [aJg]; omega
 rw [this]
 exact ⟨_, _, rfl⟩
theorem RBl.step {w : aLl} {lo hi n : Nat} {b : aLm} {B : List Bool} {left : Int} (hl : left <= B.length)
 (h : RB w lo hi b ((B.take left.toNat).take ((B.take left.toNat).length - min n (B.take left.toNat).length)) ((-left).toNat + (n - min n (B.take left.toNat).length))) : RBl w lo hi b B (left - n) := by
 have hlen : (B.take left.toNat).length = left.toNat := by rw [aJg]; omega
 rw [hlen, List.take_take] at h
 have e1 : min (left.toNat - min n left.toNat) left.toNat = (left - n).toNat := by omega
 have e2 : (-left).toNat + (n - min n left.toNat) = (-(left - n)).toNat := by omega
 rw [e1, e2] at h
 exact h
theorem aEG {lo hi n : Nat} {b : aLm} {B : List Bool} {left : Int} {w : aLl} (h : RBl w lo hi b B left) (hn : n <= 56) (hl : left <= B.length) (hB : B.length <= 10000000) (hk : -1000000000 <= left) :
 aR pg yI #[b, .int .i64 n] w (fun r w' => ∃ b', r = .tuple #[b', .int .u64 (rdL B left n : Nat)] /\ RBl w' lo hi b' B (left - n) /\ aS w w' cI) := by
 have hlen : (B.take left.toNat).length <= 10000000 := by rw [aJg]; omega
 refine (ajK h hn hlen (by omega)).mono ?_
 rintro r w1 ⟨b', rfl, h1, x1⟩
 exact ⟨b', rfl, RBl.step hl h1, x1⟩
theorem afJ {log lo hi k cc : Nat} {a : Option Addr} {b : aLm} {B : List Bool} {left : Int} {w : aLl} (h : RBl w lo hi b B left) (hhi : hi <= w.heap.size) (hn : log <= 20) (hl : left <= B.length) (hB : B.length <= 10000000) (hk : -100000000 <= left) :
 aR pg vB #[.agg #[.int .i64 log, .slice a k cc], b] w (fun r w' => ∃ b', r = .tuple #[b', .int .i64 (rdL B left log : Nat)] /\ RBl w' lo hi b' B (left - log) /\ aS w w' cI) := by
 have hlen : (B.take left.toNat).length <= 10000000 := by rw [aJg]; omega
 refine (aBH h hhi hn hlen (by omega)).mono ?_
 rintro r w1 ⟨b', rfl, h1, x1⟩
 exact ⟨b', rfl, RBl.step hl h1, x1⟩
theorem aqU {log b lo hi : Nat} {v bv : aLm} {L : List T3} {s : Int} {B : List Bool} {left : Int} {w : aLl} (ht : RT w b log L v) (hL : Low L) (hlen : L.length <= 1000000) (h : RBl w lo hi bv B left) (hhi : hi <= w.heap.size) (hl : left <= B.length) (hB : B.length <= 10000000) (hk : -100000000 <= left) :
 aR pg xY #[v, .int .i64 s, bv] w (fun r w' => ∃ b', r = .tuple #[b', .int .i64 (nR L s B left).1] /\ RBl w' lo hi b' B (nR L s B left).2 /\ aS w w' cI) := by
 have hl2 : (B.take left.toNat).length <= 10000000 := by rw [aJg]; omega
 refine (aBU ht hL hlen h hhi hl2 (by omega)).mono ?_
 rintro r w1 ⟨b', rfl, h1, x1⟩
 exact ⟨b', rfl, RBl.step hl h1, x1⟩
theorem aEq {lo hi : Nat} {b : aLm} {B : List Bool} {left : Int} {w : aLl} (h : RBl w lo hi b B left) (hl : left <= B.length) (hB : B.length <= 10000000) (hk : -100000000 <= left) :
 aR pg Ef #[b] w (fun r w' => r = .int .i64 left /\ aS w w' cI) := by
 have hlen : (B.take left.toNat).length = left.toNat := by rw [aJg]; omega
 refine (aC0 h (by omega) (by omega)).mono ?_
 rintro r w1 ⟨rfl, x1⟩
 refine ⟨?_, x1⟩
 rw [hlen]; congr 1; omega
theorem Xx {k lo hi b : Nat} {T : TT} {v bv : aLm} {s : Nat} {B : List Bool} {left : Int} {w : aLl} (hk : k < 3) (ht : RT w b T.1 T.2 v) (hG : yT k T) (hs : s < T.2.length) (h : RBl w lo hi bv B left) (hhi : hi <= w.heap.size) (hl : left <= B.length) (hB : B.length <= 10000000) (h2 : -100000000 <= left) :
 aR pg zE #[.int .i64 k, v, .int .i64 s, bv] w (fun r w' => ∃ b', r = .tuple #[b', .int .u32 ((vR k T.2 s B left).1 : Nat)] /\ RBl w' lo hi b' B (vR k T.2 s B left).2 /\ aS w w' cI) := by
 refine agE ?_
 obtain ⟨RR, hRR⟩ : ∃ RR : aLm -> aLl -> Prop, RR = fun r w' => ∃ b', r = .tuple #[b', .int .u32 ((vR k T.2 s B left).1 : Nat)] /\ RBl w' lo hi b' B (vR k T.2 s B left).2 /\ aS w w' cI := ⟨_, rfl⟩
 rw [<- hRR]
 have hlen9 : T.2.length <= 512 := by rw [hG.len]; exact aJa (by omega) hG.lg
 obtain ⟨cc, rest, rfl, ob⟩ := ht
 have hf := h.form hl
 obtain ⟨ba, bc, rfl⟩ := hf
 unfold ajW LG
 refine gA fun w1 o1 x1 s1 => ?_
 refine gA fun w2 o2 x2 s2 => ?_
 refine kV fun w3 o3 x3 s3 => ?_
 simp only [Value.cells] at o1 o2
 have x03 := (x1.seq x2).seq x3
 have z1 := x1.size
 have z2 := x2.size
 have o1 := (o1.ext x2 (fun h => h)).ext x3 (fun h => h)
 have o2 := o2.ext x3 (fun h => h)
 have c1 := o1.cell (off := 1)
 simp only [aI0, aI1] at c1
 obtain ⟨e, c, e1, e2, e3, e4, e5⟩ := Zw hG hs
 have k0 := (ob.ext x03 (fun h => h)).cell (off := s * 3)
 rw [aJd (by rw [lY]; omega), (Q7 e1).1] at k0
 have hc53 : lI k <= 53 := by rcases (show k = 0 ∨ k = 1 ∨ k = 2 by omega) with rfl | rfl | rfl <;> decide
 simp (disch := omega) only [aC, bF, aIZ, aA, bA, c1, aG, eB, aIY, fA, bZ, k0]
 refine (aDn hk e2).mono ?_
 rintro r w4 ⟨rfl, x4⟩
 have ha := VK hk e.1
 have he := aEl hk e.1 e2
 have hr := XZ B left ((lR k).getD e.1 0)
 have hv : vR k T.2 s B left = ((sG k).getD e.1 0 + rdL B left ((lR k).getD e.1 0), left - (lR k).getD e.1 0) := by unfold vR; rw [aBg e1]
 rw [hv] at hRR
 have o2 := o2.ext x4 (fun h => h)
 have l2 := dE (off := 0) o2 (by simp)
 simp only [aI4, aIX, aI6] at l2
 simp (disch := omega) only [Kh, Ka, J3, aA, l2]
 have x04 := x03.seq x4
 refine (aEG (h.ext x04 (fun _ _ _ h => h)) (by omega) hl hB (by omega)).mono ?_
 rintro r w5 ⟨b', rfl, h5, x5⟩
 obtain ⟨ba', bc', rfl⟩ := h5.form (by omega)
 simp (disch := omega) only [Bc, A6, aA, oQ, Qe, bN]
 refine bY (o2.ext x5 (fun h => h)) rfl (by simp [one]) (by simp) fun w6 o6 x6 s6 => ?_
 simp only [aV, aI2, aI3] at o6
 have l6 := dE (off := 0) o6 (by simp)
 simp only [aI4, aIX, aI6] at l6
 generalize rdL B left ((lR k).getD e.1 0) = x at *
 generalize (lR k).getD e.1 0 = n at *
 generalize (sG k).getD e.1 0 = y at *
 generalize 2 ^ n = z at *
 have ew2 : IntKind.u32.wrap (x : Int) = (x : Int) := w32 (by omega) (by omega)
 have ew3 : IntKind.u32.wrap ((y : Int) + (x : Int)) = ((y + x : Nat) : Int) := by rw [w32 (by omega) (by omega)]; omega
 simp (disch := omega) only [l6, aA]
 refine bY (((o3.ext x4 (fun h => h)).ext x5 (fun h => h)).ext x6 (by omega)) rfl (by simp [one]) (by simp) fun w7 o7 x7 s7 => ?_
 refine iZ o7 (by simp [aV]) ?_
 simp only [aV, aI2, aI3, aI4, aIX, aI6]
 rw [hRR]
 exact ⟨_, rfl, (h5.ext x6 (fun b _ hb => by omega)).ext x7 (fun b _ hb => by omega), ((x04.seq x5).new x6 (by omega)).new x7 (by omega)⟩
def tvR (T : TT) (a : Option Addr) (c : Nat) : aLm := .agg #[.int .i64 T.1, .slice a T.2.length c]
def r6 (o : Nat -> TT) (a : Nat -> Option Addr) (c : Nat -> Nat) : List aLm := [.int .i64 (o 0).1, .slice (a 0) (o 0).2.length (c 0), .int .i64 (o 1).1, .slice (a 1) (o 1).2.length (c 1), .int .i64 (o 2).1, .slice (a 2) (o 2).2.length (c 2)]
def Rb3 (w : aLl) (o : Nat -> TT) (a : Nat -> Option Addr) (c : Nat -> Nat) : Prop := ∀ k, k < 3 -> RtV w 0 (o k) (tvR (o k) (a k) (c k))
theorem aGN (o : Nat -> TT) (a : Nat -> Option Addr) (c : Nat -> Nat) {k : Nat} (h : k < 3) : ((r6 o a c).drop (k * 2)).take 2 = [.int .i64 (o k).1, .slice (a k) (o k).2.length (c k)] := by
 rcases (show k = 0 ∨ k = 1 ∨ k = 2 by omega) with rfl | rfl | rfl <;> rfl
theorem aD4 (o : Nat -> TT) (a : Nat -> Option Addr) (c : Nat -> Nat) {k : Nat} (h : k < 3) (T : TT) (x : Option Addr) (y : Nat) : aV (r6 o a c) (k * 2) [.int .i64 T.1, .slice x T.2.length y] = r6 (QU o k T) (upA a k x) (upS c k y) := by
 rcases (show k = 0 ∨ k = 1 ∨ k = 2 by omega) with rfl | rfl | rfl <;> rfl
theorem Rb3.ext {w w' : aLl} {o : Nat -> TT} {a : Nat -> Option Addr} {c : Nat -> Nat} (h : Rb3 w o a c) (x : aS w w' cI) : Rb3 w' o a c := fun k hk => (h k hk).ext x fun _ _ _ h => h
theorem RtV.own {w w' : aLl} {base p : Nat} {T : TT} {v : aLm} {cs cs' : List aLm} (h : RtV w base T v) (o : cM w p cs) (o' : cM w' p cs') (hc : ∀ u x, ¬ (cs[0]? = some (.int .i64 u) /\ cs[1]? = some (.int .i64 x))) (x : aS w w' (fun y => y = p)) : RtV w' base T v := by
 rcases h with h | ⟨b, h0, cc, rest, h1, h2⟩
 .exact .inl h
 .by_cases hb : b = p
  .subst hb
   have e := VT h2 o
   cases hT : T.2 with
   | nil => exact .inr ⟨b, h0, cc, cs', h1, by rw [hT]; exact o'⟩
   | cons y r =>
     obtain ⟨g0, g1, _⟩ := Q7 (k := .i64) (L := T.2) (i := 0) (e := y) (by rw [hT] <;> rfl)
     subst e
     have hl : 3 <= (fe .i64 T.2).length := by rw [lY, hT, aJo]; omega
     exact absurd ⟨by rw [aJd (by omega)]; exact g0, by rw [aJd (by omega)]; exact g1⟩ (hc y.1 y.2.1)
  .exact .inr ⟨b, h0, cc, rest, h1, h2.ext x hb⟩
theorem Rb3.own {w w' : aLl} {o : Nat -> TT} {a : Nat -> Option Addr} {c : Nat -> Nat} {p : Nat} {cs cs' : List aLm} (h : Rb3 w o a c) (ho : cM w p cs) (ho' : cM w' p cs') (hc : ∀ u x, ¬ (cs[0]? = some (.int .i64 u) /\ cs[1]? = some (.int .i64 x))) (x : aS w w' (fun y => y = p)) : Rb3 w' o a c := fun k hk => (h k hk).own ho ho' hc x
theorem Rb3.up {w : aLl} {o : Nat -> TT} {a : Nat -> Option Addr} {c : Nat -> Nat} {k : Nat} {T : TT} {x : Option Addr} {y : Nat} (h : Rb3 w o a c) (hx : RtV w 0 T (tvR T x y)) : Rb3 w (QU o k T) (upA a k x) (upS c k y) := fun i hi => by
 unfold QU upA upS
 split
 .exact hx
 .exact h i hi
theorem RtV.rt {w : aLl} {base : Nat} {T : TT} {v : aLm} (h : RtV w base T v) (h0 : 0 < T.2.length) : ∃ b, RT w b T.1 T.2 v := by
 rcases h with ⟨e, _⟩ | ⟨b, _, h⟩
 .rw [e] at h0; simp at h0
 .exact ⟨b, h⟩
def RbO (w : aLl) (pb lo hi : Nat) (B : List Bool) (left : Int) : Prop := ∃ a c, cM w pb [.slice a left.toNat c, .int .i64 ((-left).toNat : Nat)] /\ RBl w lo hi (.agg #[.slice a left.toNat c, .int .i64 ((-left).toNat : Nat)]) B left
theorem aDN {k2 : K5} {t5 no : aLm} {n pt pb lo hi : Nat} {t : Nat -> TT} {a : Nat -> Option Addr} {c : Nat -> Nat} {st : Nat -> Nat} {B : List Bool} {left : Int} {w : aLl} (hn : n <= 98047) (oT : cM w pt (r6 t a c)) (hT : Rb3 w t a c) (hB : RbO w pb lo hi B left)
 (h1 : pt < pb) (h2 : hi <= pb) (hG : Sy t st) (hb0 : B.length <= 8000000) (hb1 : left <= B.length) (hb2 : -1000 <= left)
 (hk : ∀ w' out, uD w' w.heap.size 3 out n (TR (sqF t B n st left).1) -> RbO w' pb lo hi B (sqF t B n st left).2 -> cM w' pt (r6 t a c) -> Rb3 w' t a c -> aS w w' (fun y => y = pb) -> k2 t5 no (.pointer (some ⟨pt, 0, none⟩)) (.pointer (some ⟨pb, 0, none⟩)) out w') :
 G3 k2 t5 no (.int .u64 n) (.pointer (some ⟨pt, 0, none⟩)) (.pointer (some ⟨pb, 0, none⟩)) (.int .i64 (st 0 : Nat)) (.int .i64 (st 1 : Nat)) (.int .i64 (st 2 : Nat)) (.slice none 0 0) (.int .u64 0) w := by
 have hpb : pb < w.heap.size := by obtain ⟨_, _, o, _⟩ := hB; exact o.lt
 have hTx : ∀ {w' : aLl} {cs' : List aLm}, aS w w' (fun y => y = pb) -> cM w' pb cs' -> Rb3 w' t a c := fun x o' => by
  obtain ⟨_, _, o, _⟩ := hB
  exact hT.own o o' (fun u x => by simp) x
 unfold G3
 refine cC.rule (fun m (v : aLm × aLm × aLm × aLm × aLm) w' => ∃ (i : Nat) (out : aLm) (qs : List Sq) (st' : Nat -> Nat) (left' : Int), m = n - i /\ i <= n /\ v = (.int .i64 (st' 0 : Nat), .int .i64 (st' 1 : Nat), .int .i64 (st' 2 : Nat), out, .int .u64 i) /\ qs.length = i /\ uD w' w.heap.size 3 out i (TR qs) /\ RbO w' pb lo hi B left' /\ Sy t st' /\
  sqF t B n st left = (qs ++ (sqF t B (n - i) st' left').1, (sqF t B (n - i) st' left').2) /\ left - 160 * i <= left' /\ left' <= left /\ aS w w' (fun y => y = pb)) n
  ⟨0, _, [], st, left, rfl, by omega, rfl, rfl, uD.nil _ _ _, hB, hG, rfl, by simp, Int.le_refl _, aS.refl _ _⟩ ?_
 rintro m v w1 ⟨i, out, qs, st', left', rfl, hin, rfl, hqs, os1, hB1, hG1, hE, hc1, hc2, x1⟩
 unfold GF Pw
 by_cases hlt : i < n
 rotate_left
 .obtain rfl : i = n := by omega
  have d1 : decide ((i : Int) < (i : Int)) = false := by simp
  simp (disch := omega) only [aC, aW, d1, dA, aIZ, bN, iI, aA, aD]
  rw [aKC] at hE
  have hz : sqF t B 0 st' left' = ([], left') := rfl
  rw [hz] at hE
  simp only [aJP] at hE
  rw [hE] at hk
  have hB1' := hB1
  obtain ⟨_, _, o, _⟩ := hB1'
  exact hk _ _ os1 hB1 (oT.ext x1 (by omega)) (hTx x1 o) x1
 have d1 : decide ((i : Int) < (n : Int)) = true := by simp; omega
 simp (disch := omega) only [aC, aW, d1, dA, aIZ, bN, iI, aA, aF]
 refine Je fun w2 o2 x2 s2 => ?_
 obtain ⟨hG0, hs0⟩ := hG1 0 (by omega)
 obtain ⟨hGo, hso⟩ := hG1 1 (by omega)
 obtain ⟨hGm, hsm⟩ := hG1 2 (by omega)
 have z1 := x1.size
 have xx2 : aS w w2 (fun y => y = pb) := x1.seq (x2.mono fun _ _ h => h.elim)
 obtain ⟨ba2, bc2, ob2, hR2⟩ : RbO w2 pb lo hi B left' := by
  obtain ⟨ba, bc, ob, hR⟩ := hB1
  exact ⟨ba, bc, ob.ext x2 (fun h => h), hR.ext x2 (fun _ _ _ h => h)⟩
 have os2 := (os1.ne (aI9 w1.heap.size)).ext x2 (fun b _ h => h)
 have t1 : (1 : Int).toNat = 1 := rfl
 have t2 : (2 : Int).toNat = 2 := rfl
 have t0 : (0 : Int).toNat = 0 := rfl
 obtain ⟨pq, hpq⟩ : ∃ pq, pq = w1.heap.size := ⟨_, rfl⟩
 rw [<- hpq] at o2 os2 ⊢
 have hpw : w.heap.size <= pq := by omega
 have oT2 := oT.ext xx2 (by omega)
 have l2 := dD (off := 2) oT2 (by simp [r6])
 simp only [r6, aJK, aI4, aIX, aI6] at l2
 have q2 := dE (off := 0) ob2 (by simp)
 simp only [aI4, aIX, aI6] at q2
 simp (disch := omega) only [t1, l2, fI, aIZ, t2, fY, t0, eP, aA, q2]
 obtain ⟨b2, ht2⟩ := (hTx xx2 ob2 1 (by omega)).rt (by omega)
 have y2 := xx2.size
 obtain ⟨hv2, hw21, hw22⟩ := Kd (k := 1) (by omega) hGo hso B left'
 refine (Xx (k := 1) (T := t 1) (s := st' 1) (by omega) ht2 hGo hso hR2 (by omega) (by omega) (by omega) (by omega)).mono ?_
 rintro r u2 ⟨bb2, rfl, hRv2, xv2⟩
 obtain ⟨ba3, bc3, rfl⟩ := hRv2.form (by omega)
 have obv2 := ob2.ext xv2 (fun h => h)
 have osv2 := os2.ext xv2 (fun b _ h => h)
 have oqv2 := o2.ext xv2 (fun h => h)
 simp (disch := omega) only [Bc, A6, aA]
 refine bY obv2 rfl (by simp [one]) (by simp) fun p2 ob3' xp2 sp2 => ?_
 simp only [aV, aI2, aI3] at ob3'
 refine FT (oqv2.ext xp2 (by omega)) rfl (by simp) fun w3 o3 x3 s3 => ?_
 simp only [aI2, aI3] at o3
 have ob3 := ob3'.ext x3 (by omega)
 have hR3 := (hRv2.ext xp2 (fun b _ _ => by omega)).ext x3 (fun b _ _ => by omega)
 have os3 := (osv2.ext xp2 (fun b h e => by omega)).ext x3 (fun b h e => h.2 e)
 have xx3 : aS w w3 (fun y => y = pb) := ((xx2.more xv2).seq xp2).new x3 hpw
 have oT3 := oT.ext xx3 (by omega)
 have l3 := dD (off := 4) oT3 (by simp [r6])
 simp only [r6, aJK, aI4, aIX, aI6] at l3
 have q3 := dE (off := 0) ob3 (by simp)
 simp only [aI4, aIX, aI6] at q3
 simp (disch := omega) only [l3, aA, q3]
 obtain ⟨b3, ht3⟩ := (hTx xx3 ob3 2 (by omega)).rt (by omega)
 have y3 := xx3.size
 obtain ⟨hv3, hw31, hw32⟩ := Kd (k := 2) (by omega) hGm hsm B (vR 1 (t 1).2 (st' 1 : Nat) B left').2
 refine (Xx (k := 2) (T := t 2) (s := st' 2) (by omega) ht3 hGm hsm hR3 (by omega) (by omega) (by omega) (by omega)).mono ?_
 rintro r u3 ⟨bb3, rfl, hRv3, xv3⟩
 obtain ⟨ba4, bc4, rfl⟩ := hRv3.form (by omega)
 have obv3 := ob3.ext xv3 (fun h => h)
 have osv3 := os3.ext xv3 (fun b _ h => h)
 have oqv3 := o3.ext xv3 (fun h => h)
 simp (disch := omega) only [Bc, A6, aA]
 refine bY obv3 rfl (by simp [one]) (by simp) fun p3 ob4' xp3 sp3 => ?_
 simp only [aV, aI2, aI3] at ob4'
 refine FT (oqv3.ext xp3 (by omega)) rfl (by simp) fun w4 o4 x4 s4 => ?_
 simp only [aI2, aI3] at o4
 have ob4 := ob4'.ext x4 (by omega)
 have hR4 := (hRv3.ext xp3 (fun b _ _ => by omega)).ext x4 (fun b _ _ => by omega)
 have os4 := (osv3.ext xp3 (fun b h e => by omega)).ext x4 (fun b h e => h.2 e)
 have xx4 : aS w w4 (fun y => y = pb) := ((xx3.more xv3).seq xp3).new x4 hpw
 have oT4 := oT.ext xx4 (by omega)
 have l4 := dD (off := 0) oT4 (by simp [r6])
 simp only [r6, aJK, aI4, aIX, aI6] at l4
 have q4 := dE (off := 0) ob4 (by simp)
 simp only [aI4, aIX, aI6] at q4
 simp (disch := omega) only [l4, aA, q4]
 obtain ⟨b4, ht4⟩ := (hTx xx4 ob4 0 (by omega)).rt (by omega)
 have y4 := xx4.size
 obtain ⟨hv4, hw41, hw42⟩ := Kd (k := 0) (by omega) hG0 hs0 B (vR 2 (t 2).2 (st' 2 : Nat) B (vR 1 (t 1).2 (st' 1 : Nat) B left').2).2
 refine (Xx (k := 0) (T := t 0) (s := st' 0) (by omega) ht4 hG0 hs0 hR4 (by omega) (by omega) (by omega) (by omega)).mono ?_
 rintro r u4 ⟨bb4, rfl, hRv4, xv4⟩
 obtain ⟨ba5, bc5, rfl⟩ := hRv4.form (by omega)
 have obv4 := ob4.ext xv4 (fun h => h)
 have osv4 := os4.ext xv4 (fun b _ h => h)
 have oqv4 := o4.ext xv4 (fun h => h)
 simp (disch := omega) only [Bc, A6, aA]
 refine bY obv4 rfl (by simp [one]) (by simp) fun p4 ob5' xp4 sp4 => ?_
 simp only [aV, aI2, aI3] at ob5'
 refine FT (oqv4.ext xp4 (by omega)) rfl (by simp) fun w5 o5 x5 s5 => ?_
 simp only [aI2, aI3] at o5
 have ob5 := ob5'.ext x5 (by omega)
 have hR5 := (hRv4.ext xp4 (fun b _ _ => by omega)).ext x5 (fun b _ _ => by omega)
 have os5 := (osv4.ext xp4 (fun b h e => by omega)).ext x5 (fun b h e => h.2 e)
 have xx5 : aS w w5 (fun y => y = pb) := ((xx4.more xv4).seq xp4).new x5 hpw
 obtain ⟨q, lf, hq⟩ : ∃ q lf, v3 t B st' left' = (q, lf) := ⟨_, _, rfl⟩
 have hq1 : (v3 t B st' left').1 = q := by rw [hq]
 have hq2 : (v3 t B st' left').2 = lf := by rw [hq]
 have hlf := aB8 hG1 B left'
 rw [hq2] at hlf
 have o5 : cM w5 pq (TQ (v3 t B st' left').1) := o5
 have hB5 : RbO w5 pb lo hi B (v3 t B st' left').2 := ⟨ba5, bc5, ob5, hR5⟩
 rw [hq1] at o5
 rw [hq2] at hB5
 have l5 := F4 (off := 0) o5 (by simp [TQ])
 simp only [TQ, aI4, aIX, aI6] at l5
 simp (disch := omega) only [l5, aA]
 refine yF (cells := #[.int .u32 q.ll, .int .u32 q.ml, .int .u32 q.of]) (by decide) (by decide) (by kernel_rfl) fun w6 o6 x6 s6 => ?_
 have os6 := (os5.ext x6 (fun b _ h => h)).osl
 have z5 := xx5.size
 have z6 := x6.size
 refine nX (m := 1) (news := TQ q) os6 (o6.cl (off := 0) (l := TQ q) (n := 1) rfl (fun i hi => by rw [aIZ] <;> rfl)) (by simp [TQ, one]) (by omega) (by omega) fun v7 w7 o7 x7 => ?_
 rw [<- arG] at o7
 have xx6 : aS w w6 (fun y => y = pb) := xx5.more x6
 have xx7 : aS w w7 (fun y => y = pb) := xx6.trans x7 fun b hb h => by omega
 obtain ⟨ba7, bc7, ob7, hR7⟩ : RbO w7 pb lo hi B lf := by
  obtain ⟨ba, bc, ob, hR⟩ := hB5
  exact ⟨ba, bc, (ob.ext x6 (fun h => h)).ext x7 (by omega), (hR.ext x6 (fun _ _ _ h => h)).ext x7 (fun b _ hb => by omega)⟩
 have e1 : (i : Int) + 1 = ((i + 1 : Nat) : Int) := by omega
 by_cases hlast : i + 1 = n
 .have n1 : decide (((i + 1 : Nat) : Int) < (n : Int)) = false := by simp; omega
  simp (disch := omega) only [e1, n1, aD]
  unfold BS
  simp (disch := omega) only [aC, bN, e1, iI, aA]
  have h1 : n - i = 1 := by omega
  rw [h1, axJ, hq] at hE
  refine ⟨n - (i + 1), by omega, i + 1, _, qs ++ [q], st', lf, rfl, by omega, rfl, by rw [aI8, hqs] <;> rfl, o7, ⟨_, _, ob7, hR7⟩, hG1, ?_, by omega, by omega, xx7⟩
  rw [hE, hlast, aKC]
  show _ = (qs ++ [q] ++ [], lf)
  rw [aJP]
 .have n1 : decide (((i + 1 : Nat) : Int) < (n : Int)) = true := by simp; omega
  obtain ⟨m, hm⟩ : ∃ m, n - i = m + 2 := ⟨n - i - 2, by omega⟩
  have hm1 : n - (i + 1) = m + 1 := by omega
  have hE2 := arC hG1 B m left'
  rw [hq] at hE2
  simp only at hE2
  obtain ⟨g1, g2, g3⟩ := abB (B := B) (j := 3) (left := lf) hG1
  have i0 := RU hG0 hs0 B lf
  have oT7 := oT.ext xx7 (by omega)
  have l7 := dD (off := 0) oT7 (by simp [r6])
  simp only [r6, aJK, aI4, aIX, aI6] at l7
  have q7 := dE (off := 0) ob7 (by simp)
  simp only [aI4, aIX, aI6] at q7
  simp (disch := omega) only [e1, n1, l7, aA, q7, aF]
  obtain ⟨b7, ht7⟩ := (hTx xx7 ob7 0 (by omega)).rt (by omega)
  have y7 := xx7.size
  have hz7 : (t 0).2.length <= 1000000 := by rw [hG0.len]; exact aJ7 (aJa (by omega) hG0.lg) (by omega)
  obtain ⟨s7', f71, f72, f73, f74⟩ := RU (k := 0) hG0 hs0 B lf
  refine (aqU (s := (st' 0 : Nat)) ht7 hG0.low hz7 hR7 (by omega) (by omega) (by omega) (by omega)).mono ?_
  rintro r u7 ⟨bb7, rfl, hRv7, xv7⟩
  obtain ⟨ba8, bc8, rfl⟩ := hRv7.form (by omega)
  simp (disch := omega) only [Bc, A6, aA]
  refine bY (ob7.ext xv7 (fun h => h)) rfl (by simp [one]) (by simp) fun w8 ob8 x8 s8 => ?_
  simp only [aV, aI2, aI3] at ob8
  have hR8 := hRv7.ext x8 (fun b _ _ => by omega)
  have xx8 : aS w w8 (fun y => y = pb) := (xx7.more xv7).seq x8
  have o8 := (o7.ext xv7 (fun b hb h => h)).ext x8 (fun b hb h => by omega)
  have oT8 := oT.ext xx8 (by omega)
  have l8 := dD (off := 4) oT8 (by simp [r6])
  simp only [r6, aJK, aI4, aIX, aI6] at l8
  have q8 := dE (off := 0) ob8 (by simp)
  simp only [aI4, aIX, aI6] at q8
  simp (disch := omega) only [l8, aA, q8]
  obtain ⟨b8, ht8⟩ := (hTx xx8 ob8 2 (by omega)).rt (by omega)
  have y8 := xx8.size
  have hz8 : (t 2).2.length <= 1000000 := by rw [hGm.len]; exact aJ7 (aJa (by omega) hGm.lg) (by omega)
  obtain ⟨s8', f81, f82, f83, f84⟩ := RU (k := 2) hGm hsm B (nR (t 0).2 (st' 0 : Nat) B lf).2
  refine (aqU (s := (st' 2 : Nat)) ht8 hGm.low hz8 hR8 (by omega) (by omega) (by omega) (by omega)).mono ?_
  rintro r u8 ⟨bb8, rfl, hRv8, xv8⟩
  obtain ⟨ba9, bc9, rfl⟩ := hRv8.form (by omega)
  simp (disch := omega) only [Bc, A6, aA]
  refine bY (ob8.ext xv8 (fun h => h)) rfl (by simp [one]) (by simp) fun w9 ob9 x9 s9 => ?_
  simp only [aV, aI2, aI3] at ob9
  have hR9 := hRv8.ext x9 (fun b _ _ => by omega)
  have xx9 : aS w w9 (fun y => y = pb) := (xx8.more xv8).seq x9
  have o9 := (o8.ext xv8 (fun b hb h => h)).ext x9 (fun b hb h => by omega)
  have oT9 := oT.ext xx9 (by omega)
  have l9 := dD (off := 2) oT9 (by simp [r6])
  simp only [r6, aJK, aI4, aIX, aI6] at l9
  have q9 := dE (off := 0) ob9 (by simp)
  simp only [aI4, aIX, aI6] at q9
  simp (disch := omega) only [l9, aA, q9]
  obtain ⟨b9, ht9⟩ := (hTx xx9 ob9 1 (by omega)).rt (by omega)
  have y9 := xx9.size
  have hz9 : (t 1).2.length <= 1000000 := by rw [hGo.len]; exact aJ7 (aJa (by omega) hGo.lg) (by omega)
  obtain ⟨s9', f91, f92, f93, f94⟩ := RU (k := 1) hGo hso B (nR (t 2).2 (st' 2 : Nat) B (nR (t 0).2 (st' 0 : Nat) B lf).2).2
  refine (aqU (s := (st' 1 : Nat)) ht9 hGo.low hz9 hR9 (by omega) (by omega) (by omega) (by omega)).mono ?_
  rintro r u9 ⟨bb9, rfl, hRv9, xv9⟩
  obtain ⟨ba10, bc10, rfl⟩ := hRv9.form (by omega)
  simp (disch := omega) only [Bc, A6, aA]
  refine bY (ob9.ext xv9 (fun h => h)) rfl (by simp [one]) (by simp) fun w10 ob10 x10 s10 => ?_
  simp only [aV, aI2, aI3] at ob10
  have hR10 := hRv9.ext x10 (fun b _ _ => by omega)
  have xx10 : aS w w10 (fun y => y = pb) := (xx9.more xv9).seq x10
  have o10 := (o9.ext xv9 (fun b hb h => h)).ext x10 (fun b hb h => by omega)
  unfold BS
  simp (disch := omega) only [aC, bN, e1, iI, aA]
  rw [f71, f81, f91]
  have hnx : nxs t B 3 st' lf = (upS (upS (upS st' 0 (nR (t 0).2 (st' 0 : Nat) B lf).1.toNat) 2 (nR (t 2).2 (st' 2 : Nat) B (nR (t 0).2 (st' 0 : Nat) B lf).2).1.toNat) 1 (nR (t 1).2 (st' 1 : Nat) B (nR (t 2).2 (st' 2 : Nat) B (nR (t 0).2 (st' 0 : Nat) B lf).2).2).1.toNat, (nR (t 1).2 (st' 1 : Nat) B (nR (t 2).2 (st' 2 : Nat) B (nR (t 0).2 (st' 0 : Nat) B lf).2).2).2) := rfl
  rw [f71, f81, f91] at hnx
  simp only [aIY] at hnx
  refine ⟨n - (i + 1), by omega, i + 1, _, qs ++ [q], (nxs t B 3 st' lf).1, (nxs t B 3 st' lf).2, rfl, by omega, ?_, by rw [aI8, hqs] <;> rfl, o10, ?_, g1, ?_, by omega, by omega, xx10⟩
  .rw [hnx] <;> rfl
  .rw [hnx]; exact ⟨_, _, ob10, hR10⟩
  .rw [hE, hm, hE2, hm1, aJc]
   rfl
def z6 : List aLm := [(.int .i64 0), (.slice none 0 0), (.int .i64 0), (.slice none 0 0), (.int .i64 0), (.slice none 0 0)]
theorem ZY {p : Nat} {w : aLl} {x0 x1 x2 : Int} {a0 a1 a2 : Option Addr} {n0 n1 n2 k0 k1 k2 : Nat} {c : List aLm} {s e : aLm} (o : cM w p c) (hc : c.length = 6) {RR : aLm -> aLl -> Prop}
 (hR : ∀ w', aS w w' (fun y => y = p) -> cM w' p [.int .i64 x0, .slice a0 n0 k0, .int .i64 x1, .slice a1 n1 k1, .int .i64 x2, .slice a2 n2 k2] -> RR (.tuple #[s, .agg #[.int .i64 x0, .slice a0 n0 k0, .int .i64 x1, .slice a1 n1 k1, .int .i64 x2, .slice a2 n2 k2], e]) w') :
 aC pg (aK 36 (.pointer (some ⟨p, 0, none⟩)) (.agg #[.int .i64 x0, .slice a0 n0 k0, .int .i64 x1, .slice a1 n1 k1, .int .i64 x2, .slice a2 n2 k2])) w fun _u w => mW pg 36 (.pointer (some ⟨p, 0, none⟩)) w fun r1 => RR (.tuple #[s, r1, e]) w := by
 match c, hc with
 | [c0, c1, c2, c3, c4, c5], _ =>
   refine jE o rfl (by simp [one]) (by simp) fun w6 o6 x6 s6 => ?_
   refine uA o6 (by simp [aV]) ?_
   simp only [aV, aI2, aI3, aI4, aIX, aI6] at o6 ⊢
   exact hR _ x6 o6
theorem aCL {k0 : K5} {RR : K1} {n9 : aLm} {m p3 p5 pn pm pt : Nat} {mc : Nat} {o : Nat -> TT} {a : Nat -> Option Addr} {c : Nat -> Nat} {x : ByteArray} {w : aLl} (hm : m < 256) (o3 : cM w p3 (r6 o a c)) (o5 : cM w p5 z6) (on : cM w pn z6) (om : cM w pm [.int .i64 (TP m 0 : Nat), .int .i64 (TP m 1 : Nat), .int .i64 (TP m 2 : Nat)]) (oT : cM w pt (r6 o a c))
 (hO : Rb3 w o a c) (hO6 : ∀ k, k < 3 -> (o k).2.length <= 1000000) (hx : x.size <= 1000000) (h1 : p3 ≠ pt /\ p5 ≠ pt /\ pn ≠ pt /\ pm ≠ pt) (h2 : p5 ≠ pn)
 (hk : ∀ w' t a c x', EX m o 3 o (nH x) = .ok (t, nH x') -> cM w' pt (r6 t a c) -> Rb3 w' t a c -> aS w w' (fun y => y = pt) -> k0 (.pointer (some ⟨p5, 0, none⟩)) (.pointer (some ⟨pn, 0, none⟩)) n9 (.pointer (some ⟨pt, 0, none⟩)) (.string x') w')
 (herr : ∀ w' e, EX m o 3 o (nH x) = .error e -> aS w w' (fun y => y = pt ∨ y = p5) -> RR (.tuple #[.slice none 0 0, Ho, .int .i64 e]) w') :
 Ez k0 RR (.pointer (some ⟨p3, 0, none⟩)) (.pointer (some ⟨p5, 0, none⟩)) (.pointer (some ⟨pn, 0, none⟩)) n9 (.slice (some ⟨pm, 0, none⟩) 3 mc) (.pointer (some ⟨pt, 0, none⟩)) (.string x) (.int .i64 0) w := by
 have hptw := oT.lt
 have hp5w := o5.lt
 unfold Ez
 refine cC.rule (fun n (v : aLm × aLm) w' => ∃ (j : Nat) (x' : ByteArray) (t' : Nat -> TT) (a' : Nat -> Option Addr) (c' : Nat -> Nat), n = j /\ j <= 3 /\ v = (.string x', .int .i64 (3 - j : Nat)) /\ x'.size <= x.size /\ cM w' pt (r6 t' a' c') /\ Rb3 w' t' a' c' /\ EX m o 3 o (nH x) = EX m o j t' (nH x') /\ aS w w' (fun y => y = pt)) 3
  ⟨3, x, o, a, c, rfl, aI9 _, rfl, aI9 _, oT, hO, rfl, aS.refl _ _⟩ ?_
 rintro j v w7 ⟨n, x', t', a', c', rfl, hj, rfl, hx', o8, hT7, hE, x7⟩
 unfold EG KS
 rcases j with _ | n
 .have d1 : decide (((3 - 0 : Nat) : Int) < 3) = false := rfl
  simp (disch := omega) only [aC, aW, d1, aA, aD]
  exact hk _ _ _ _ _ (by rw [hE] <;> rfl) o8 hT7 x7
 obtain ⟨k, hkk⟩ : ∃ k, k = 2 - n := ⟨_, rfl⟩
 have hk3 : k < 3 := by omega
 have ek : ((3 - (n + 1) : Nat) : Int) = (k : Int) := by omega
 have d1 : decide ((k : Int) < 3) = true := by simp; omega
 have hS : EX m o (n + 1) t' (nH x') = match gY (k : Int) ((TP m k : Nat) : Int) (nH x') (o k) with
  | .error e => .error e
  | .ok (y, u) => EX m o n (QU t' k y) ((nH x').drop u) := by rw [hkk] <;> rfl
 have hm4 := apF m k
 have hll := mM x'
 rw [ek]
 simp (disch := omega) only [aC, aW, d1, aA, aF]
 unfold LB Kw Ux MS
 have o37 := o3.ext x7 (by omega)
 have o57 := o5.ext x7 (by omega)
 have on7 := on.ext x7 (by omega)
 have om7 := om.ext x7 (by omega)
 have hTo : Rb3 w7 o a c := hO.own oT o8 (fun u x => by simp [r6]) x7
 have l2 := dD (off := k * 2) (dT o37) (by simp [r6]; omega)
 rw [aGN _ _ _ hk3] at l2
 have cm := (dT om7).cell (off := k)
 have hcm : [Value.int .i64 (TP m 0 : Nat), .int .i64 (TP m 1 : Nat), .int .i64 (TP m 2 : Nat)][k]? = some (.int .i64 (TP m k : Nat)) := by
  rcases (show k = 0 ∨ k = 1 ∨ k = 2 by omega) with rfl | rfl | rfl <;> rfl
 rw [hcm] at cm
 have z7 := x7.size
 have n0 : ((0 : Int) != 0) = false := rfl
 have err7 : ∀ {e : Int} {w8 w' : aLl}, EX m o (n + 1) t' (nH x') = .error e -> aS w7 w8 cI -> aS w8 w' (fun y => y = p5) -> RR (.tuple #[.slice none 0 0, Ho, .int .i64 e]) w' := fun h x8 x9 =>
  herr _ _ (by rw [hE, h]) (((x7.mono fun _ _ h => .inl h).seq (x8.mono fun _ _ h => h.elim)).seq (x9.mono fun _ _ h => .inr h))
 have lz : ∀ {w' : aLl}, aS w7 w' cI -> (aI 36 (.pointer (some ⟨pn, 0, none⟩))).run pg w' = .ok (.value Ho) w' := fun x => by
  have := jF (off := 0) (on7.ext x (fun h => h)) (by simp [z6])
  simp only [z6, aI4, aIX, aI6] at this
  exact this
 refine Ek ?_ ?_
 .simp (disch := omega) only [aC, dB, aIY, aIZ, dA, dS, and_true, true_and, aA, l2, bZ, cm, aG]
  refine (arO (fun _ => by omega) ((hTo.ext (aS.dr _ cI)) k hk3) (aJW _) (hO6 k hk3)).mono ?_
  rintro r w8 ⟨hR, x8⟩
  have x78 : aS w7 w8 cI := (aS.dr _ _).seq x8
  have z8 := x78.size
  cases hE' : gY (k : Int) ((TP m k : Nat) : Int) (nH x') (o k) with
  | error e =>
    rw [hE'] at hR hS
    have ne := Qo hE'
    have n1 : (e != 0) = true := by simpa using ne
    unfold RtR at hR
    subst hR
    simp (disch := omega) only [Kh, Ka, J3, Result.ok.injEq, Next.value.injEq, and_true, aA, true_and]
    refine gE fun w9 o9 x9 s9 => ?_
    refine eJ o9 rfl (by simp [one]) (by simp) fun w10 o10 x10 s10 => ?_
    unfold tI
    have x710 : aS w7 w10 cI := x78.seq (x9.new x10 (aI9 _))
    have lz' := lz (x710.seq (aS.dr _ _))
    simp (disch := omega) only [aC, fB, n1, true_and, dA, aIY, aIZ, pD, aA, lz', aF]
    exact ZY (dT (o57.ext x710 (fun h => h))) rfl fun w' x _ => err7 hS (x710.seq (aS.dr _ _)) x
  | ok yu =>
    obtain ⟨T, u⟩ := yu
    rw [hE'] at hR hS
    have hu := RD hE'
    unfold RtR at hR
    obtain ⟨t, rfl, hV⟩ := hR
    obtain ⟨ta, tc, rfl⟩ := hV.form
    simp (disch := omega) only [Kh, Ka, J3, Result.ok.injEq, Next.value.injEq, and_true, aA, true_and]
    refine gE fun w9 o9 x9 s9 => ?_
    refine eJ o9 rfl (by simp [one]) (by simp) fun w10 o10 x10 s10 => ?_
    have o10 : cM w10 w8.heap.size [.int .i64 T.1, .slice ta T.2.length tc] := o10
    have x810 : aS w8 w10 cI := x9.new x10 (aI9 _)
    have x710 := x78.seq x810
    have l10 := dD (off := 0) o10 (by simp)
    simp only [aI4, aIX, aI6] at l10
    unfold tI
    simp (disch := omega) only [aC, fB, n0, true_and, dA, aIY, aIZ, pD, aA, l10, aD]
    have o8' := o8.ext x710 (fun h => h)
    refine eJ o8' rfl (by simp [one]) (by simp [r6]; omega) fun w11 o11 x11 s11 => ?_
    have o11 : cM w11 pt (r6 (QU t' k T) (upA a' k ta) (upS c' k tc)) := by rw [<- aD4 _ _ _ hk3]; exact o11
    have hV11 : RtV w11 0 T (tvR T ta tc) := (hV.ext x810 (fun _ _ _ h => h)).own o8' o11 (fun u x => by simp [r6]) x11
    have hT11 : Rb3 w11 t' a' c' := (hT7.ext x710).own o8' o11 (fun u x => by simp [r6]) x11
    have e3 : ((k : Int) + 1) = ((3 - n : Nat) : Int) := by omega
    have hul : u <= x'.size := by omega
    have hext : nH (x'.extract u x'.size) = (nH x').drop u := by rw [Nw, aJw (by rw [aJu]; omega)]
    unfold Ax
    simp (disch := omega) only [aC, bN, e3, aT, aA]
    exact ⟨n, by omega, n, x'.extract u x'.size, _, _, _, rfl, by omega, rfl, by rw [<- mM (x'.extract u x'.size), hext, aJu]; omega, o11, hT11.up hV11, by rw [hE, hS, hext], x7.seq ((x710.mono fun _ _ h => h.elim).seq x11)⟩
 .simp (disch := omega) only [aC, dB, aIY, aIZ, dA, dS, Result.ok.injEq, Next.value.injEq, and_true, true_and, aA, l2, bZ, cm, aG]
  refine gE fun w9 o9 x9 s9 => ?_
  have x79 : aS w7 w9 cI := (aS.dr _ cI).seq x9
  have l9 := dD (off := k * 2) (o37.ext x79 (fun h => h)) (by simp [r6]; omega)
  rw [aGN _ _ _ hk3] at l9
  have cm9 := (om7.ext x79 (fun h => h)).cell (off := k)
  rw [hcm] at cm9
  simp (disch := omega) only [l9, cm9, aG, and_true, true_and]
  refine (arO (fun _ => by omega) ((hTo.ext x79) k hk3) (aJW _) (hO6 k hk3)).mono ?_
  rintro r w8 ⟨hR, x8⟩
  have x78 : aS w7 w8 cI := x79.seq x8
  have hz7 : (dr w7).heap.size = w7.heap.size := rfl
  have z8 := x78.size
  have o9 := o9.ext x8 (fun h => h)
  cases hE' : gY (k : Int) ((TP m k : Nat) : Int) (nH x') (o k) with
  | error e =>
    rw [hE'] at hR hS
    have ne := Qo hE'
    have n1 : (e != 0) = true := by simpa using ne
    unfold RtR at hR
    subst hR
    simp (disch := omega) only [Kh, Ka, J3, Result.ok.injEq, Next.value.injEq, and_true, aA, true_and]
    refine eJ o9 rfl (by simp [one]) (by simp) fun w10 o10 x10 s10 => ?_
    unfold tI
    have x710 : aS w7 w10 cI := x78.new x10 (by omega)
    have lz' := lz (x710.seq (aS.dr _ _))
    simp (disch := omega) only [aC, fB, n1, true_and, dA, aIY, aIZ, pD, aA, lz', aF]
    exact ZY (dT (o57.ext x710 (fun h => h))) rfl fun w' x _ => err7 hS (x710.seq (aS.dr _ _)) x
  | ok yu =>
    obtain ⟨T, u⟩ := yu
    rw [hE'] at hR hS
    have hu := RD hE'
    unfold RtR at hR
    obtain ⟨t, rfl, hV⟩ := hR
    obtain ⟨ta, tc, rfl⟩ := hV.form
    simp (disch := omega) only [Kh, Ka, J3, Result.ok.injEq, Next.value.injEq, and_true, aA, true_and]
    refine eJ o9 rfl (by simp [one]) (by simp) fun w10 o10 x10 s10 => ?_
    have o10 : cM w10 (dr w7).heap.size [.int .i64 T.1, .slice ta T.2.length tc] := o10
    have hV10 : RtV w10 0 T (tvR T ta tc) := hV.own o9 o10 (fun u x => by simp) x10
    have x710 : aS w7 w10 cI := x78.new x10 (by omega)
    have l10 := dD (off := 0) o10 (by simp)
    simp only [aI4, aIX, aI6] at l10
    unfold tI
    simp (disch := omega) only [aC, fB, n0, true_and, dA, aIY, aIZ, pD, aA, l10, aD]
    have o8' := o8.ext x710 (fun h => h)
    refine eJ o8' rfl (by simp [one]) (by simp [r6]; omega) fun w11 o11 x11 s11 => ?_
    have o11 : cM w11 pt (r6 (QU t' k T) (upA a' k ta) (upS c' k tc)) := by rw [<- aD4 _ _ _ hk3]; exact o11
    have hV11 : RtV w11 0 T (tvR T ta tc) := hV10.own o8' o11 (fun u x => by simp [r6]) x11
    have hT11 : Rb3 w11 t' a' c' := (hT7.ext x710).own o8' o11 (fun u x => by simp [r6]) x11
    have e3 : ((k : Int) + 1) = ((3 - n : Nat) : Int) := by omega
    have hul : u <= x'.size := by omega
    have hext : nH (x'.extract u x'.size) = (nH x').drop u := by rw [Nw, aJw (by rw [aJu]; omega)]
    unfold Ax
    simp (disch := omega) only [aC, bN, e3, aT, aA]
    exact ⟨n, by omega, n, x'.extract u x'.size, _, _, _, rfl, by omega, rfl, by rw [<- mM (x'.extract u x'.size), hext, aJu]; omega, o11, hT11.up hV11, by rw [hE, hS, hext], x7.seq ((x710.mono fun _ _ h => h.elim).seq x11)⟩
def apH (w : aLl) (base : Nat) (x : Except Int (List Sq × (Nat -> TT))) (r : aLm) : Prop := match x with
 | .error e => r = .tuple #[.slice none 0 0, Ho, .int .i64 e]
 | .ok (q, t) => ∃ v a c, r = .tuple #[v, .agg (r6 t a c).toArray, .int .i64 0] /\ uD w base 3 v q.length (TR q) /\ Rb3 w t a c
theorem aAF {RR : K1} {n p5 pn pt : Nat} {t : Nat -> TT} {a : Nat -> Option Addr} {c : Nat -> Nat} {x : ByteArray} {w : aLl} (hn : n <= 98047) (oF : cM w p5 z6) (on : cM w pn z6) (oT : cM w pt (r6 t a c)) (hT : Rb3 w t a c) (hG : ∀ k, k < 3 -> yT k (t k)) (hx : x.size <= 1000000)
 (h1 : pt ≠ p5 /\ p5 ≠ pn)
 (hk : ∀ w' r, apH w' w.heap.size (Fp t n (nH x)) r -> aS w w' (fun y => y = p5) -> RR r w') :
 D8 RR (.pointer (some ⟨p5, 0, none⟩)) (.pointer (some ⟨pn, 0, none⟩)) (.int .u64 n) (.pointer (some ⟨pt, 0, none⟩)) (.string x) w := by
 have hll := mM x
 have err : ∀ {e : Int} {w' : aLl}, Fp t n (nH x) = .error e -> aS w w' (fun y => y = p5) -> RR (.tuple #[.slice none 0 0, Ho, .int .i64 e]) w' := fun h x => by
  refine hk _ _ ?_ x
  unfold apH; rw [h]
 have hp5 := oF.lt
 have hpt := oT.lt
 have lz : ∀ {w' : aLl}, aS w w' cI -> (aI 36 (.pointer (some ⟨pn, 0, none⟩))).run pg w' = .ok (.value Ho) w' := fun x => by
  have := jF (off := 0) (on.ext x (fun h => h)) (by simp [z6])
  simp only [z6, aI4, aIX, aI6] at this
  exact this
 have n0 : ((0 : Int) != 0) = false := rfl
 unfold D8 Mt
 cases he : afB (nH x) with
 | none =>
   have hB : Fp t n (nH x) = .error 11 := by unfold Fp; rw [he]
   have n1 : ((11 : Int) != 0) = true := rfl
   refine (aBz he (by omega)).mono ?_
   rintro r w1 ⟨rfl, x1⟩
   simp (disch := omega) only [aC, Bc, A6, true_and, dA, aIZ, aA, fB]
   refine kV fun w2 o2 x2 s2 => ?_
   refine bY o2 rfl (by simp [one]) (by simp) fun w3 o3 x3 s3 => ?_
   have x03 : aS w w3 cI := x1.seq (x2.new x3 (aI9 _))
   have lz' := lz (x03.seq (aS.dr _ _))
   simp (disch := omega) only [n1, lz', aA, true_and, aF]
   exact ZY (dT (oF.ext x03 (fun h => h))) rfl fun w' x _ => err hB (((x03.seq (aS.dr _ _)).mono fun _ _ h => h.elim).seq x)
 | some k =>
   obtain ⟨hk0, hk1, hk2, _⟩ := Qm he
   have hB : Fp t n (nH x) = if (runT t (bK (nH x)) n k).2 < 0 then .error 11 else if 0 < (runT t (bK (nH x)) n k).2 then .error 15 else .ok ((runT t (bK (nH x)) n k).1, t) := by unfold Fp; rw [he]
   refine (aDp he (by omega)).mono ?_
   rintro r w1 ⟨b, hi, rfl, hhi, hR1, x1⟩
   have hBl := nV (nH x)
   generalize bK (nH x) = B at *
   have hR1 : RBl w1 w.heap.size hi b B (k : Int) := by
    unfold RBl
    rw [aIY, show (-(k : Int)).toNat = 0 by omega]
    exact hR1
   obtain ⟨ba, bc, rfl⟩ := hR1.form (by omega)
   simp (disch := omega) only [aC, aIY, Bc, A6, true_and, dA, aIZ, aA, fB]
   refine kV fun w2 o2 x2 s2 => ?_
   refine bY o2 rfl (by simp [one]) (by simp) fun w3 o3 x3 s3 => ?_
   simp only [aV, aI2, aI3] at o3
   obtain ⟨pb, hpb⟩ : ∃ pb, pb = w1.heap.size := ⟨_, rfl⟩
   rw [<- hpb] at o3 ⊢
   have z1 := x1.size
   have xx3 : aS w w3 cI := x1.seq (x2.new x3 (aI9 _))
   have hR3 := (hR1.ext x2 (fun _ _ _ h => h)).ext x3 (fun b _ hb => by omega)
   have g0 := (hG 0 (by omega)).lg
   have g1 := (hG 1 (by omega)).lg
   have g2 := (hG 2 (by omega)).lg
   have t1 : (1 : Int).toNat = 1 := rfl
   have t2 : (2 : Int).toNat = 2 := rfl
   have t0 : (0 : Int).toNat = 0 := rfl
   have oT3 := oT.ext xx3 (fun h => h)
   have l3 := dD (off := 0) oT3 (by simp [r6])
   simp only [r6, aJK, aI4, aIX, aI6] at l3
   have q3 := dE (off := 0) o3 (by simp)
   simp only [aI4, aIX, aI6] at q3
   simp (disch := omega) only [n0, t0, l3, t1, t2, aA, q3, aD]
   have y3 := xx3.size
   have v3 := o3.lt
   refine (afJ hR3 (by omega) (by omega) (by omega) (by omega) (by omega)).mono ?_
   rintro r u3 ⟨bb3, rfl, hRv3, xv3⟩
   obtain ⟨ba4, bc4, rfl⟩ := hRv3.form (by omega)
   simp (disch := omega) only [Bc, A6, aA]
   refine bY (o3.ext xv3 (fun h => h)) rfl (by simp [one]) (by simp) fun w4 o4 x4 s4 => ?_
   simp only [aV, aI2, aI3] at o4
   have hR4 := hRv3.ext x4 (fun b _ _ => by omega)
   have xx4 : aS w w4 cI := (xx3.seq xv3).new x4 (by omega)
   have oT4 := oT.ext xx4 (fun h => h)
   have l4 := dD (off := 2) oT4 (by simp [r6])
   simp only [r6, aJK, aI4, aIX, aI6] at l4
   have q4 := dE (off := 0) o4 (by simp)
   simp only [aI4, aIX, aI6] at q4
   simp (disch := omega) only [l4, aA, q4]
   have y4 := xx4.size
   have v4 := o4.lt
   refine (afJ hR4 (by omega) (by omega) (by omega) (by omega) (by omega)).mono ?_
   rintro r u4 ⟨bb4, rfl, hRv4, xv4⟩
   obtain ⟨ba5, bc5, rfl⟩ := hRv4.form (by omega)
   simp (disch := omega) only [Bc, A6, aA]
   refine bY (o4.ext xv4 (fun h => h)) rfl (by simp [one]) (by simp) fun w5 o5 x5 s5 => ?_
   simp only [aV, aI2, aI3] at o5
   have hR5 := hRv4.ext x5 (fun b _ _ => by omega)
   have xx5 : aS w w5 cI := (xx4.seq xv4).new x5 (by omega)
   have oT5 := oT.ext xx5 (fun h => h)
   have l5 := dD (off := 4) oT5 (by simp [r6])
   simp only [r6, aJK, aI4, aIX, aI6] at l5
   have q5 := dE (off := 0) o5 (by simp)
   simp only [aI4, aIX, aI6] at q5
   simp (disch := omega) only [l5, aA, q5]
   have y5 := xx5.size
   have v5 := o5.lt
   refine (afJ hR5 (by omega) (by omega) (by omega) (by omega) (by omega)).mono ?_
   rintro r u5 ⟨bb5, rfl, hRv5, xv5⟩
   obtain ⟨ba6, bc6, rfl⟩ := hRv5.form (by omega)
   simp (disch := omega) only [Bc, A6, aA]
   refine bY (o5.ext xv5 (fun h => h)) rfl (by simp [one]) (by simp) fun w6 o6 x6 s6 => ?_
   simp only [aV, aI2, aI3] at o6
   have hR6 := hRv5.ext x6 (fun b _ _ => by omega)
   have xx6 : aS w w6 cI := (xx5.seq xv5).new x6 (by omega)
   obtain ⟨gs1, gs2, gs3⟩ := aAd hG B (fun _ => 0) (k : Int)
   have y6 := xx6.size
   unfold NW OY NX PC
   refine aDN (st := (sts t B 3 (fun _ => 0) (k : Int)).1) (left := (sts t B 3 (fun _ => 0) (k : Int)).2) (lo := w.heap.size) (hi := hi) (B := B) hn (oT.ext xx6 (fun h => h)) (hT.ext xx6) ⟨_, _, o6, hR6⟩ (by omega) (by omega) gs1 (by omega) (by omega) (by omega) fun w7 out os7 hB7 oT7 hT7 x7 => ?_
   have x07 : aS w w7 cI := xx6.new x7 (by omega)
   obtain ⟨_, _, hlen⟩ := awV (B := B) (n := n) (left := (sts t B 3 (fun _ => 0) (k : Int)).2) gs1
   obtain ⟨hb1, hb2, _⟩ := awV (B := B) (n := n) (left := (sts t B 3 (fun _ => 0) (k : Int)).2) gs1
   rw [<- aAr] at os7 hB7 hlen hb1 hb2
   generalize hq : runT t B n k = q at *
   obtain ⟨ca, cc, o7, hR7⟩ := hB7
   have l7 := dE (off := 0) o7 (by simp)
   simp only [aI4, aIX, aI6] at l7
   unfold Ha
   simp (disch := omega) only [aC, l7, true_and, aA]
   refine (aEq hR7 (by omega) (by omega) (by omega)).mono ?_
   rintro r w8 ⟨rfl, x8⟩
   have x08 := x07.seq x8
   have lz' := lz (x08.seq (aS.dr _ _))
   have o58 := oF.ext x08 (fun h => h)
   by_cases hneg : q.2 < 0
   .have d1 : decide (q.2 < 0) = true := by simpa using hneg
    rw [if_pos hneg] at hB
    simp (disch := omega) only [aW, d1, dO, aA, lz', true_and, aF]
    exact ZY (dT o58) rfl fun w' x _ => err hB (((x08.seq (aS.dr _ _)).mono fun _ _ h => h.elim).seq x)
   .have d1 : decide (q.2 < 0) = false := by simpa using hneg
    rw [if_neg hneg] at hB
    by_cases hps : 0 < q.2
    .have d2 : decide (0 < q.2) = true := by simpa using hps
     rw [if_pos hps] at hB
     simp (disch := omega) only [aW, d1, dO, d2, aA, aF, lz', true_and, aD]
     exact ZY (dT o58) rfl fun w' x _ => err hB (((x08.seq (aS.dr _ _)).mono fun _ _ h => h.elim).seq x)
    .have d2 : decide (0 < q.2) = false := by simpa using hps
     rw [if_neg hps] at hB
     have oT8 := dT (oT7.ext x8 (fun h => h))
     have l9 := jF (off := 0) oT8 (by simp [r6])
     simp only [r6, aI4, aIX, aI6] at l9
     simp (disch := omega) only [aW, d1, dO, d2, aA, aD, l9, true_and]
     refine ZY (dT o58) rfl fun w' x o9 => ?_
     have xd : aS w8 w' (fun y => y = p5) := (aS.dr _ _).seq x
     refine hk _ _ ?_ ((x08.mono fun _ _ h => h.elim).seq xd)
     unfold apH
     rw [hB]
     refine ⟨out, a, c, rfl, ?_, ((hT7.ext x8)).own o58 o9 (fun u x => by simp [z6]) xd⟩
     rw [hlen]
     exact ((os7.ext x8 (fun _ _ h => h)).ext xd (fun b hb h => by omega)).lower (by omega)
theorem aE8 {p pr : Nat} {w : aLl} {e : Int} {c cr : List aLm} (o : cM w p c) (hc : c.length = 6) (r : cM w pr cr) (hr : cr[1]? = some (.int .i64 e)) (hne : pr ≠ p) {RR : aLm -> aLl -> Prop}
 (hR : ∀ w', aS w w' (fun y => y = p) -> RR (.tuple #[.slice none 0 0, Ho, .int .i64 e]) w') :
 aC pg (aK 36 (.pointer (some ⟨p, 0, none⟩)) Ho) w fun _u w' => ldC (w'.cell? ⟨pr, 1, none⟩) w' (far pg 30 ⟨pr, 1, none⟩ w') = Result.ok (Next.value (.int .i64 e)) w' /\
  mW pg 36 (.pointer (some ⟨p, 0, none⟩)) w' fun r1 => RR (.tuple #[.slice none 0 0, r1, .int .i64 e]) w' := by
 match c, hc with
 | [c0, c1, c2, c3, c4, c5], _ =>
   unfold Ho
   refine jE o rfl (by simp [one]) (by simp) fun w6 o6 x6 s6 => ?_
   have q := (r.ext x6 hne).cell (off := 1)
   rw [hr] at q
   refine ⟨by rw [q] <;> rfl, ?_⟩
   refine uA o6 (by simp [aV]) ?_
   simp only [aV, aI2, aI3, aI4, aIX, aI6]
   exact hR _ x6
theorem Sm {x : ByteArray} {o : Nat -> TT} {a : Nat -> Option Addr} {c : Nat -> Nat} {w : aLl} (hl : x.size <= 1000000) (hT : Rb3 w o a c) (hO : Nl o) :
 aR pg yL #[.string x, .agg (r6 o a c).toArray] w (fun r w' => apH w' w.heap.size (BM (nH x) o) r /\ aS w w' cI) := by
 refine anS ?_
 obtain ⟨RR, hRR⟩ : ∃ RR : aLm -> aLl -> Prop, RR = fun r w' => apH w' w.heap.size (BM (nH x) o) r /\ aS w w' cI := ⟨_, rfl⟩
 rw [<- hRR]
 have hll := mM x
 have err : ∀ {e : Int} {w' : aLl}, BM (nH x) o = .error e -> aS w w' cI -> RR (.tuple #[.slice none 0 0, Ho, .int .i64 e]) w' := fun h x => by
  rw [hRR]; unfold apH; rw [h]; exact ⟨rfl, x⟩
 unfold aqJ Md LX
 refine gA fun w1 o1 x1 s1 => ?_
 have o1 : cM w1 w.heap.size (r6 o a c) := o1
 refine jW fun w2 o2 x2 s2 => ?_
 refine jW fun w3 o3 x3 s3 => ?_
 have o1 := (o1.ext x2 (fun h => h)).ext x3 (fun h => h)
 have o2 : cM w3 w1.heap.size z6 := o2.ext x3 (fun h => h)
 have o3 : cM w3 w2.heap.size z6 := o3
 have x03 := (x1.seq x2).seq x3
 have z1 := x1.size
 obtain ⟨p3, hp3⟩ : ∃ p3, p3 = w.heap.size := ⟨_, rfl⟩
 obtain ⟨p5, hp5⟩ : ∃ p5, p5 = w1.heap.size := ⟨_, rfl⟩
 obtain ⟨pn, hpn⟩ : ∃ pn, pn = w2.heap.size := ⟨_, rfl⟩
 rw [<- hp3] at o1 ⊢
 rw [<- hp5] at o2 ⊢
 rw [<- hpn] at o3 ⊢
 have z3 := x3.size
 have lz : ∀ {w' : aLl}, aS w3 w' cI -> (aI 36 (.pointer (some ⟨pn, 0, none⟩))).run pg w' = .ok (.value Ho) w' := fun x => by
  have := jF (off := 0) (o3.ext x (fun h => h)) (by simp [z6])
  simp only [z6, aI4, aIX, aI6] at this
  exact this
 have fin : ∀ {w5 w' : aLl}, aS w3 w5 cI -> aS w5 w' (fun y => y = p5) -> aS w w' cI := fun h x => (x03.seq h).new x (by omega)
 simp (disch := omega) only [aC, kZ, dS, and_true, true_and, aA]
 refine (apE (x := x)).mono ?_
 rintro r w4 ⟨hN, x4⟩
 unfold asY at hN
 cases hn : Vr (nH x) with
 | error e =>
   rw [hn] at hN
   obtain ⟨he, n, x', rfl⟩ := hN
   have hR : BM (nH x) o = .error e := by unfold BM; rw [hn]
   have n1 : (e != 0) = true := by simpa using he
   simp (disch := omega) only [Bc, A6, aA, cK]
   refine mD fun w5 o5 x5 s5 => ?_
   refine jZ o5 rfl (by simp [one]) (by simp) fun w6 o6 x6 s6 => ?_
   simp only [aV, aI2, aI3] at o6
   have c6' := o6.cell (off := 1)
   have c6d := (dT o6).cell (off := 1)
   simp only [aI0, aI1] at c6' c6d
   have x36 : aS w3 w6 cI := x4.seq (x5.new x6 (aI9 _))
   have lz' := lz (x36.seq (aS.dr _ _))
   simp (disch := omega) only [dV, aIZ, Result.ok.injEq, Next.value.injEq, and_true, aA, iN, true_and, eX, sP, c6', aG, fB, n1, lz', c6d, aF]
   exact aE8 (dT (o2.ext x36 (fun h => h))) rfl (dT o6) rfl (by have := x4.size; omega) fun w' x => err hR (fin (x36.seq (aS.dr _ _)) x)
 | ok y =>
   obtain ⟨n, l'⟩ := y
   rw [hn] at hN
   obtain ⟨x', rfl, hx'⟩ := hN
   obtain ⟨hn1, hl'⟩ := aCh hn
   have hR : BM (nH x) o = if n = 0 then (if l' = [] then .ok ([], o) else .error 15) else auW o n l' := by unfold BM; rw [hn]
   have n0 : ((0 : Int) != 0) = false := rfl
   have hlx' := mM x'
   simp (disch := omega) only [Bc, A6, aA, cK]
   refine mD fun w5 o5 x5 s5 => ?_
   refine jZ o5 rfl (by simp [one]) (by simp) fun w6 o6 x6 s6 => ?_
   simp only [aV, aI2, aI3] at o6
   obtain ⟨pr, hpr⟩ : ∃ pr, pr = w4.heap.size := ⟨_, rfl⟩
   rw [<- hpr] at o6 ⊢
   have y4 := x4.size
   have x36 : aS w3 w6 cI := x4.seq (x5.new x6 (aI9 _))
   have o16 := o1.ext x36 (fun h => h)
   have o26 := o2.ext x36 (fun h => h)
   have q0 := o6.cell (off := 0)
   have q1 := o6.cell (off := 1)
   simp only [aI0, aI1] at q0 q1
   by_cases hn0 : n = 0
   .subst hn0
    rw [if_pos rfl] at hR
    have n2 : (((0 : Nat) : Int) == 0) = true := rfl
    by_cases hl0 : l' = []
    .rw [if_pos hl0] at hR
     have d1 : decide (0 < (x'.size : Int)) = false := by rw [<- hlx', hx', hl0] <;> rfl
     have l1 := jF (off := 0) (dT o16) (by simp [r6])
     simp only [r6, aI4, aIX, aI6] at l1
     simp (disch := omega) only [dV, aIZ, Result.ok.injEq, Next.value.injEq, and_true, aA, iN, true_and, n2, eX, sP, aF, q1, aG, fB, n0, q0, pI, dO, d1, l1, aD]
     refine ZY (dT o26) rfl fun w' x _ => ?_
     rw [hRR]; unfold apH; rw [hR]
     have x' := fin (x36.seq (aS.dr _ _)) x
     exact ⟨⟨_, a, c, rfl, uD.nil _ _ _, hT.ext x'⟩, x'⟩
    .rw [if_neg hl0] at hR
     have hpos := aJR.2 hl0
     have d1 : decide (0 < (x'.size : Int)) = true := by rw [<- hlx', hx']; simp; exact hpos
     have lz' := lz (x36.seq (aS.dr _ _))
     simp (disch := omega) only [dV, aIZ, Result.ok.injEq, Next.value.injEq, and_true, aA, iN, true_and, n2, eX, sP, aF, q1, aG, fB, n0, lz', q0, pI, dO, d1, aD]
     exact ZY (dT o26) rfl fun w' x _ => err hR (fin (x36.seq (aS.dr _ _)) x)
   rw [if_neg hn0] at hR
   have n2 : ((n : Int) == 0) = false := by simp; exact hn0
   have l6 := hP (off := 0) o6 (by simp)
   simp only [aI4, aIX, aI6] at l6
   simp (disch := omega) only [dV, aIZ, Result.ok.injEq, Next.value.injEq, and_true, aA, iN, true_and, n2, eX, sP, aD, q1, aG, fB, n0, l6]
   refine (Hg (n := 1) (by omega)).mono ?_
   rintro r w7 ⟨x2', rfl, hx2, x7⟩
   have x37 := x36.seq x7
   rw [hx'] at hx2 ⊢
   simp (disch := omega) only [Bc, A6, aA, yV, zX, cR, fB]
   refine jZ (o6.ext x7 (fun h => h)) rfl (by simp [one]) (by simp) fun w8 o8 x8 s8 => ?_
   simp only [aV, aI2, aI3] at o8
   have y7 := x7.size
   have x38 : aS w3 w8 cI := x37.new x8 (by omega)
   have o18 := o1.ext x38 (fun h => h)
   have o28 := o2.ext x38 (fun h => h)
   have tkn := YV 1 (aI9 1)
   have u0 := o8.cell (off := 0)
   have u1 := o8.cell (off := 1)
   have u1d := (dT o8).cell (off := 1)
   simp only [aI0, aI1] at u0 u1 u1d
   rw [XL] at hR
   cases l' with
   | nil =>
     simp only [tkn] at hx2 u0 u1 u1d o8
     have n1 : ((10 : Int) != 0) = true := rfl
     have lz' := lz (x38.seq (aS.dr _ _))
     simp (disch := omega) only [u1, aG, aA, fB, n1, lz', u1d, true_and, aF]
     exact aE8 (dT o28) rfl (dT o8) rfl (by omega) fun w' x => err hR (fin (x38.seq (aS.dr _ _)) x)
   | cons m r =>
     simp only [aiK] at hx2 u0 u1 u1d o8 ⊢
     have hm8 : m.toNat < 256 := aJz m
     have hm1 : uB [m] = m.toNat := by simp [uB]
     have hH : P2 o (m :: r) = if m.toNat % 4 ≠ 0 then .error 11 else EX m.toNat o 3 o r := rfl
     rw [hm1]
     generalize m.toNat = y at *
     have et : (y : Int).tmod 4 = ((y % 4 : Nat) : Int) := rfl
     by_cases h4 : y % 4 ≠ 0
     .have n1 : (((y % 4 : Nat) : Int) != 0) = true := by simp; omega
      rw [if_pos h4] at hH
      rw [hH] at hR
      have lz' := lz (x38.seq (aS.dr _ _))
      simp (disch := omega) only [u1, aG, et, n1, aF, aA, fB, n0, lz', true_and, aD]
      exact ZY (dT o28) rfl fun w' x _ => err hR (fin (x38.seq (aS.dr _ _)) x)
     .have n1 : (((y % 4 : Nat) : Int) != 0) = false := by simp; omega
      rw [if_neg h4] at hH
      rw [hH] at hR
      have d64 : (y : Int).tdiv 64 = ((y / 64 : Nat) : Int) := rfl
      have d16 : (y : Int).tdiv 16 = ((y / 16 : Nat) : Int) := rfl
      have d4 : (y : Int).tdiv 4 = ((y / 4 : Nat) : Int) := rfl
      have r16 : ((y / 16 : Nat) : Int).tmod 4 = ((y / 16 % 4 : Nat) : Int) := rfl
      have r4 : ((y / 4 : Nat) : Int).tmod 4 = ((y / 4 % 4 : Nat) : Int) := rfl
      have m0 : y / 64 = TP y 0 := by unfold TP; simp; omega
      have m1 : y / 16 % 4 = TP y 1 := rfl
      have m2 : y / 4 % 4 = TP y 2 := rfl
      have f0 := apF y 0
      have f1 := apF y 1
      have f2 := apF y 2
      have g16 : IntKind.u64.wrap ((y / 16 : Nat) : Int) = ((y / 16 : Nat) : Int) := iI (by omega) (by omega)
      have g4 : IntKind.u64.wrap ((y / 4 : Nat) : Int) = ((y / 4 : Nat) : Int) := iI (by omega) (by omega)
      rw [m0] at d64
      rw [m1] at r16
      rw [m2] at r4
      have l8 := jF (off := 0) o18 (by simp [r6])
      simp only [r6, aI4, aIX, aI6] at l8
      have h64 : IntKind.u64.wrap ((TP y 0 : Nat) : Int) = ((TP y 0 : Nat) : Int) := iI (by omega) (by omega)
      have h640 : IntKind.i64.wrap ((TP y 0 : Nat) : Int) = ((TP y 0 : Nat) : Int) := aT (by omega) (by omega)
      have h641 : IntKind.i64.wrap ((TP y 1 : Nat) : Int) = ((TP y 1 : Nat) : Int) := aT (by omega) (by omega)
      have h642 : IntKind.i64.wrap ((TP y 2 : Nat) : Int) = ((TP y 2 : Nat) : Int) := aT (by omega) (by omega)
      simp (disch := omega) only [u1, aG, et, n1, d64, h64, h640, d16, g16, r16, h641, d4, g4, r4, h642, aD, aA, fB, n0]
      refine zD (cells := #[.int .i64 (TP y 0 : Nat), .int .i64 (TP y 1 : Nat), .int .i64 (TP y 2 : Nat)]) (by decide) (by decide) (by kernel_rfl) fun w9 o9 x9 s9 => ?_
      have o9 : cM w9 w8.heap.size [.int .i64 (TP y 0 : Nat), .int .i64 (TP y 1 : Nat), .int .i64 (TP y 2 : Nat)] := o9
      have y8 := x8.size
      have o19 := o18.ext x9 (fun h => h)
      have l9 := jF (off := 0) o19 (by simp [r6])
      simp only [r6, aI4, aIX, aI6] at l9
      simp (disch := omega) only [l9, aA]
      refine jW fun w10 o10 x10 s10 => ?_
      refine jE o10 rfl (by simp [one]) (by simp) fun w11 o11 x11 s11 => ?_
      have o11 : cM w11 w9.heap.size (r6 o a c) := o11
      have y9 := x9.size
      have x911 : aS w9 w11 cI := x10.new x11 (aI9 _)
      have x811 := x9.seq x911
      have x311 := x38.seq x811
      have v0 := (o8.ext x811 (fun h => h)).cell (off := 0)
      simp only [aI0, aI1] at v0
      simp (disch := omega) only [v0, aG, aA]
      unfold MG LI L5 Ml
      have hO6 : ∀ k, k < 3 -> (o k).2.length <= 1000000 := fun k hk => by
       rcases aJU (o k).2.length with h | h
       .omega
       .have := hO k hk (aJR.1 h)
        rw [this.len]
        have : 2 ^ (o k).1 <= 2 ^ 9 := aJa (by omega) this.lg
        omega
      have hx2s : x2'.size <= 1000000 := by
       have := mM x2'
       rw [hx2] at this
       have : (m :: r).length <= (nH x).length := hl'
       simp at this
       omega
      refine aCL (m := y) (o := o) (a := a) (c := c) (mc := 3) hm8 (o18.ext x811 (fun h => h)) (o28.ext x811 (fun h => h)) (o3.ext x311 (fun h => h)) (o9.ext x911 (fun h => h)) o11 ((hT.ext x03).ext x311) hO6 hx2s ⟨by omega, by omega, by omega, by omega⟩ (by omega) ?_ ?_
      .intro w12 t a2 c2 x3 ht oT12 hT12 x12
       rw [hx2] at ht
       rw [ht] at hR
       have hR : BM (nH x) o = Fp t n (nH x3) := hR
       obtain ⟨hG, hl2⟩ := Y1 (l := m :: r) hO (by rw [hH]; exact ht)
       have x312 : aS w3 w12 cI := x311.new x12 (by have := x38.size; omega)
       have hx3s : x3.size <= 1000000 := by
        have := mM x3
        have : (m :: r).length <= (nH x).length := hl'
        omega
       refine aAF hn1 (o2.ext x312 (fun h => h)) (o3.ext x312 (fun h => h)) oT12 hT12 hG hx3s ⟨by have := x38.size; omega, by omega⟩ fun w' r' hr x13 => ?_
       have x' := fin x312 x13
       rw [hRR]
       refine ⟨?_, x'⟩
       rw [hR]
       cases hb : Fp t n (nH x3) with
       | error e => rw [hb] at hr; exact hr
       | ok z =>
         rw [hb] at hr
         obtain ⟨v, a3, c3, e1, e2, e3⟩ := hr
         exact ⟨v, a3, c3, e1, e2.lower (by have := (x03.seq x312).size; omega), e3⟩
      .intro w' e he x12
       rw [hx2] at he
       rw [he] at hR
       refine err hR ?_
       exact (x03.seq x311).trans x12 fun b hb h => by have := x38.size; omega
end Go.Proofs.YtaggdjhhmbnhoaaDoor
