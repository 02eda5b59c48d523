/- Parts of the proof of SequencesWrites: merged and given short names by a program of ours. -/
import Derived.Laws.Strings
import Derived.Test.YtaggdjhhmbnhoaaDoorSvC
set_option linter.unusedVariables false
set_option linter.unusedSimpArgs false
open Array renaming length_toList → aKh
open Bool renaming false_eq_true → aI5, not_false → aJT, not_true → aJx
open Int renaming toNat_natCast → aIY, tdiv_eq_ediv_of_nonneg → aJs, tmod_eq_emod_of_nonneg → aJt, fdiv_eq_ediv_of_nonneg → aKF
open List renaming getElem?_cons_zero → aI0, getElem?_cons_succ → aI1, set_cons_zero → aI2, set_cons_succ → aI3, drop_zero → aI4, take_zero → aI6, getElem?_eq_getElem → aI7, length_append → aI8, take_succ_cons → aIX, ext_getElem → aJ2, replicate_succ → aJ3, mem_cons_self → aJ6, cons_append → aJ9, getElem_map → aJB, drop_eq_getElem_cons → aJC, take_add_one → aJE, getElem?_take_of_lt → aJF, getElem?_append_right → aJG, map_append → aJJ, drop_succ_cons → aJK, nil_append → aJM, mem_range → aJN, mem_map → aJO, append_nil → aJP, mem_cons → aJQ, length_pos_iff → aJR, mem_of_getElem? → aJX, getElem_range → aJY, length_map → aJb, append_assoc → aJc, getElem?_append_left → aJd, getD_eq_getElem?_getD → aJe, length_take → aJg, getElem_mem → aJh, mem_cons_of_mem → aJi, getElem?_eq_none → aJk, length_cons → aJo, getElem?_map → aJq, length_eq_zero_iff → aJr, length_drop → aJu, take_of_length_le → aJw, getElem_of_mem → aJy, range_succ → aK0, exists_mem_of_ne_nil → aK2, sum_append → aK3, map_replicate → aK7, drop_left → aK9, take_length → aKA, getElem_cons_zero → aKB, map_set → aKD, length_range → aKH, getLast?_eq_getElem? → aKI, count_singleton → aKJ, eq_of_mem_replicate → aKK, getElem?_replicate → aKL, length_set → aKM, getElem_set_self → aKS, getElem_set → aKW, map_take → aKX, drop_of_length_le → aKa, count_append → aKb, getElem?_toArray → aKc, getElem?_drop → aKe, mem_singleton → aKf, mem_append → aKk, length_singleton → aKl, length_replicate → aKm, sum_cons → aKo, map_congr_left → aKp, toList_toArray → aKq, countP_cons → aKr, take_append_drop → aKs, count_cons → aKw, set_append_left → aKx, map_cons → aKz, getElem_cons_succ → aLb, getElem_replicate → aLc, takeWhile_sublist → aLe, map_drop → aLf, mem_of_mem_drop → aLj, count_le_length → aLk
open Nat renaming le_refl → aI9, zero_add → aIZ, add_mul → aJ4, le_trans → aJ7, mul_comm → aJ8, mod_eq_of_lt → aJA, mul_le_mul_right → aJH, min_eq_left → aJS, eq_zero_or_pos → aJU, add_zero → aJV, zero_le → aJW, add_sub_cancel → aJZ, pow_le_pow_right → aJa, lt_or_ge → aJl, pow_succ → aJp, two_pow_pos → aJv, div_le_self → aK1, succ_mul → aK5, le_div_iff_mul_le → aKT, div_mul_le_self → aKY, testBit_eq_decide_div_mod_eq → aKg, mod_lt → aKj, add_assoc → aKn, div_lt_iff_lt_mul → aKt, lt_trichotomy → aKy
open Option renaming map_some → aJL, isNone_some → aJm
open Option.some renaming inj → aJj
open Prod.mk renaming inj → aLd
open UInt8 renaming toNat_lt → aJz
namespace Go.Proofs.YtaggdjhhmbnhoaaDoor
open Go Go.En Go.Pu
set_option maxRecDepth 4000
def OfR (k v : Nat) (r : aLm) : Prop :=
 (∃ c, sV k v c /\ r = .tuple #[.int .i64 c, .int .u32 (v - (sG k).getD c 0 : Nat), .int .i64 0]) ∨ ((∀ c, ¬ sV k v c) /\ r = .tuple #[.int .i64 0, .int .u32 0, .int .i64 17])
theorem w32 {x : Int} (h0 : 0 <= x) (h1 : x < 4294967296) : IntKind.u32.wrap x = x := by
 rw [show IntKind.u32.wrap x = x % 4294967296 from rfl]; omega
theorem aIA {k v : Nat} {w : aLl} (hg : vW w) (hk : k < 3) (hv : v < 4294967296) :
 aR pg Rq #[.int .i64 k, .int .u32 v] w (fun r w' => OfR k v r /\ aS w w' cI) := by
 refine asU ?_
 obtain ⟨RR, hRR⟩ : ∃ RR : aLm -> aLl -> Prop, RR = fun r w' => OfR k v r /\ aS w w' cI := ⟨_, rfl⟩
 rw [<- hRR]
 have hl53 : lI k <= 53 := by rcases (show k = 0 ∨ k = 1 ∨ k = 2 by omega) with rfl | rfl | rfl <;> decide
 have hl1 : 1 <= lI k := by rcases (show k = 0 ∨ k = 1 ∨ k = 2 by omega) with rfl | rfl | rfl <;> decide
 unfold ayD U0 Uz
 refine (aFF hg).mono ?_
 rintro r w1 ⟨mv, rfl, hs, x1⟩
 simp (disch := omega) only [aC, Kh, Ka, J3, cK, true_and, aA, bM, aW, dZ, vD, oX]
 refine (awH (hg.ext x1)).mono ?_
 rintro r w2 ⟨rfl, x2⟩
 have x12 := x1.seq x2
 have hs := hs.ext x2 (bU _)
 rw [aAz hk]
 have d1 : decide (((lI k : Nat) : Int) - 1 < 0) = false := by simp; omega
 by_cases h1 : k = 1
 .subst h1
  have n1 : (((1 : Nat) : Int) == 1) = true := rfl
  by_cases hv0 : v = 0
  .subst hv0
   have n2 : (((0 : Nat) : Int) == 0) = true := rfl
   simp (disch := omega) only [aW, d1, n1, mU, if_true, aF, bP, cK, n2, aA, aD]
   rw [hRR]
   exact ⟨.inr ⟨azN, rfl⟩, x12⟩
  .have n2 : ((v : Int) == 0) = false := beq_eq_false_iff_ne.2 (by omega)
   simp (disch := omega) only [aW, d1, n1, mU, if_true, aF, bP, cK, n2, aA, aD]
   refine (aF8 v hv w2).mono ?_
   rintro r w3 ⟨rfl, hw⟩
   rw [hw]; clear hw w3
   have hc := axZ (by omega) hv
   have hb1 := HL (k := v) hv0
   have hb4 : bl v <= 32 := tR (n := 32) hv
   have hbl := Vg (k := v) hv0
   obtain ⟨j, hj⟩ : ∃ j, j = bl v - 1 := ⟨_, rfl⟩
   rw [<- hj] at hc hbl
   have e1 : ((bl v : Nat) : Int) - 1 = (j : Int) := by omega
   have hsl := ZF (n := j) (by omega)
   have ho := aF9 (c := j) (by omega)
   have e2 : IntKind.u32.wrap ((v : Int) - ((2 ^ j : Nat) : Int)) = ((v - (sG 1).getD j 0 : Nat) : Int) := by
    rw [ho.1]
    generalize 2 ^ j = y at *
    rw [w32 (by omega) (by omega)]; omega
   simp (disch := omega) only [dZ, e1, aT, aA, mO, aIY, hsl, e2, true_and]
   rw [hRR]
   exact ⟨.inl ⟨j, hc, rfl⟩, x12.seq (aS.dr _ _)⟩
 have n1 : ((k : Int) == 1) = false := beq_eq_false_iff_ne.2 (by omega)
 have h02 : k = 0 ∨ k = 2 := by omega
 obtain ⟨rp, ra, rl⟩ := auI h02
 rw [rp, ra]
 have hpl := Y4 h02
 have hlow : Bt k <= 3 := by unfold Bt; split <;> omega
 have htop := aHA h02
 by_cases hvl : v < Bt k
 .have d2 : decide ((v : Int) < ((Bt k : Nat) : Int)) = true := by simp; omega
  simp (disch := omega) only [aW, d1, n1, vN, aI5, if_false, d2, Qe, aF, aD, dH, aA]
  rw [hRR]
  exact ⟨.inr ⟨aBs h02 hvl, rfl⟩, x12⟩
 have d2 : decide ((v : Int) < ((Bt k : Nat) : Int)) = false := by simp; omega
 have e1 : IntKind.u32.wrap ((v : Int) - ((Bt k : Nat) : Int)) = ((v - Bt k : Nat) : Int) := by rw [w32 (by omega) (by omega)]; omega
 have e2 : IntKind.u32.wrap ((Bn k : Nat) : Int) = ((Bn k : Nat) : Int) := w32 (by omega) (by omega)
 by_cases hvp : v - Bt k < Bn k
 .have d3 : decide (((v - Bt k : Nat) : Int) < ((Bn k : Nat) : Int)) = true := by simp; omega
  have hc := apK h02 (by omega) hvp
  have hp := axM h02 hvp
  simp (disch := omega) only [aW, d1, n1, vN, aI5, if_false, d2, e1, e2, d3, aT, aF, aD, dH, aA]
  rw [hRR]
  refine ⟨.inl ⟨_, hc, ?_⟩, x12⟩
  rw [hp.1, show v - (Bt k + (v - Bt k)) = 0 by omega]
  rfl
 have d3 : decide (((v - Bt k : Nat) : Int) < ((Bn k : Nat) : Int)) = false := by simp; omega
 have e3 : IntKind.u32.wrap (((v - Bt k : Nat) : Int) - ((Bn k : Nat) : Int)) = ((v - eS k 0 : Nat) : Int) := by
  rw [eS, htop, w32 (by omega) (by omega)]; omega
 have hv0 : eS k 0 <= v := by rw [eS, htop]; omega
 simp (disch := omega) only [aW, d1, n1, vN, aI5, if_false, d2, e1, e2, d3, aT, e3, aD, dH, aA]
 unfold T2 UL Un
 obtain ⟨av, cv, rfl, hcv⟩ := hs.lenI
 obtain ⟨b, off, c', hv', hcc, hcell⟩ := hs.openI (by omega)
 cases hv'
 have hget : ∀ i, Bn k + i < lI k -> w2.cell? ⟨b, off + i, none⟩ = some (.int .i64 ((lR k).getD (Bn k + i) 0 : Nat)) := by
  intro i hi
  have h1 := hcell i (by omega)
  have h2 := azB h02 hi
  rw [aI7 (by omega)] at h2
  rw [h1, aJj h2]
 simp (disch := omega) only [aC, rl, dU, aA]
 unfold Vd U6
 obtain ⟨n, hn⟩ : ∃ n, n = lI k - Bn k := ⟨_, rfl⟩
 rw [<- hn]
 refine cC.rule (fun m (t : aLm × aLm) w' => ∃ i : Nat, m = n - i /\ i <= n /\ t = (.int .u32 (v - eS k i : Nat), .int .i64 i) /\ eS k i <= v /\ w' = w2) n ⟨0, rfl, by omega, rfl, hv0, rfl⟩ ?_
 rintro m t w3 ⟨i, rfl, hi, rfl, hle, hw⟩
 rw [hw]; clear hw w3
 unfold M9
 by_cases hlt : i < n
 .have d5 : decide ((i : Int) < (n : Int)) = true := by simp; omega
  have g1 := hget i (by omega)
  have ha := aGA h02 (c := Bn k + i) (by omega)
  have hsl := ZF (n := (lR k).getD (Bn k + i) 0) (by omega)
  have hes : eS k (i + 1) = eS k i + 2 ^ ((lR k).getD (Bn k + i) 0) := rfl
  have hmore := auL (v := v) h02 (i := i) (by omega) hle
  have hat := auH hk i (by omega)
  generalize (lR k).getD (Bn k + i) 0 = nn at *
  generalize 2 ^ nn = pp at *
  by_cases hin : v < eS k i + pp
  .have d6 : decide (((v - eS k i : Nat) : Int) < (pp : Int)) = true := by simp; omega
   have e6 : ((Bn k : Nat) : Int) + (i : Int) = ((Bn k + i : Nat) : Int) := by omega
   simp (disch := omega) only [aC, aW, d5, dB, aIY, bN, e6, aT, aA, bZ, g1, aG, mO, hsl, dZ, d6, and_true, aF]
   rw [hRR]
   exact ⟨.inl ⟨_, hmore hin, by rw [<- hat]⟩, x12⟩
  .have d6 : decide (((v - eS k i : Nat) : Int) < (pp : Int)) = false := by simp; omega
   have e6 : IntKind.u32.wrap (((v - eS k i : Nat) : Int) - (pp : Int)) = ((v - eS k (i + 1) : Nat) : Int) := by
    rw [w32 (by omega) (by omega)]; omega
   simp (disch := omega) only [aC, aW, d5, dB, aIY, bN, aT, aA, bZ, g1, aG, mO, hsl, dZ, e6, d6, and_true, aD, aF]
   exact ⟨n - (i + 1), by omega, i + 1, rfl, by omega, rfl, by omega⟩
 .have d5 : decide ((i : Int) < (n : Int)) = false := by simp; omega
  obtain rfl : i = n := by omega
  simp (disch := omega) only [aC, aW, d5, bN, aT, aA, aD]
  unfold Nc
  rw [hRR]
  exact ⟨.inr ⟨aAg h02 (hn ▸ hle), rfl⟩, x12⟩
def YC (a : Int) : Nat := if a = 1 then 5 else if a = 0 ∨ a = 2 then 6 else 0
def gvP (a : Int) : List Int := if a = 0 then zTL else if a = 1 then zTO else if a = 2 then zTM else []
theorem aoY {a : Int} (h : a = 0 ∨ a = 1 ∨ a = 2) : TO (YC a) (gvP a) := by
 rcases h with rfl | rfl | rfl
 .exact ⟨by decide, by decide, by decide, by decide, by decide, by decide, by decide +kernel⟩
 .exact ⟨by decide, by decide, by decide, by decide, by decide, by decide, by decide +kernel⟩
 .exact ⟨by decide, by decide, by decide, by decide, by decide, by decide, by decide +kernel⟩
theorem aB0 {a : Int} {w : aLl} (hg : vW w) :
 aR pg Ay #[.int .i64 a] w (fun r w' => ∃ v, r = .agg #[.int .i64 (YC a : Nat), v] /\ Sl w' v ((gvP a).map (Value.int .i64)) /\ aS w w' cI) := by
 refine abK ?_
 unfold adW Il
 refine kI fun w1 o1 x1 s1 => ?_
 have hg1 := hg.ext x1
 have z1 := o1.lt
 by_cases h0 : a = 0
 .subst h0
  have n1 : ((0 : Int) == 0) = true := rfl
  have l1 := awD (b := 0) (off := 0) (l := zTL.map (Value.int .i64)) rfl hg1.tl.ld
  simp (disch := omega) only [aC, cK, n1, dF, aA, l1, aF]
  refine aAm fun w2 o2 x2 s2 => ?_
  refine avY o2 rfl (Uu _) (by simp) fun w3 o3 x3 s3 => ?_
  have o3 : cM w3 w1.heap.size (zTL.map (Value.int .i64)) := by
   rw [aKq, MK zTL 36 rfl] at o3
   .exact o3
   .rfl
  have hsh : xX ⟨w1.heap.size, 0, none⟩ 36 0 1 = ⟨w1.heap.size, 0, none⟩ := FI (by decide)
  have x13 : aS w1 w3 cI := x2.new x3 (by omega)
  simp (disch := omega) only [rZ, hsh, aA, iS]
  refine fN (o1.ext x13 (fun h => h)) rfl (by simp [one]) (by simp) fun w4 o4 x4 s4 => ?_
  refine nF o4 (by simp [aV]) ?_
  simp only [aV, aI2, aI3, aI4, aIX, aI6]
  exact ⟨_, rfl, Vx (o3.ext x4 (by omega)) rfl, (x1.seq x13).new x4 (by omega)⟩
 have n1 : (a == 0) = false := beq_eq_false_iff_ne.2 h0
 by_cases h1 : a = 1
 .subst h1
  have n2 : ((1 : Int) == 1) = true := rfl
  have l1 := axQ (b := 1) (off := 0) (l := zTO.map (Value.int .i64)) rfl hg1.to.ld
  simp (disch := omega) only [aC, cK, n1, n2, dF, aA, aF, l1, aD]
  refine azU fun w2 o2 x2 s2 => ?_
  refine awE o2 rfl (Uu _) (by simp) fun w3 o3 x3 s3 => ?_
  have o3 : cM w3 w1.heap.size (zTO.map (Value.int .i64)) := by
   rw [aKq, MK zTO 29 rfl] at o3
   .exact o3
   .rfl
  have hsh : xX ⟨w1.heap.size, 0, none⟩ 29 0 1 = ⟨w1.heap.size, 0, none⟩ := FI (by decide)
  have x13 : aS w1 w3 cI := x2.new x3 (by omega)
  simp (disch := omega) only [rT, hsh, aA, iS]
  refine fN (o1.ext x13 (fun h => h)) rfl (by simp [one]) (by simp) fun w4 o4 x4 s4 => ?_
  refine nF o4 (by simp [aV]) ?_
  simp only [aV, aI2, aI3, aI4, aIX, aI6]
  exact ⟨_, rfl, Vx (o3.ext x4 (by omega)) rfl, (x1.seq x13).new x4 (by omega)⟩
 have n2 : (a == 1) = false := beq_eq_false_iff_ne.2 h1
 by_cases h2 : a = 2
 .subst h2
  have n3 : ((2 : Int) == 2) = true := rfl
  have l1 := awJ (b := 2) (off := 0) (l := zTM.map (Value.int .i64)) rfl hg1.tm.ld
  simp (disch := omega) only [aC, cK, n1, n2, n3, dF, aA, aF, aD, l1]
  refine azA fun w2 o2 x2 s2 => ?_
  refine axB o2 rfl (Uu _) (by simp) fun w3 o3 x3 s3 => ?_
  have o3 : cM w3 w1.heap.size (zTM.map (Value.int .i64)) := by
   rw [aKq, MK zTM 53 rfl] at o3
   .exact o3
   .rfl
  have hsh : xX ⟨w1.heap.size, 0, none⟩ 53 0 1 = ⟨w1.heap.size, 0, none⟩ := FI (by decide)
  have x13 : aS w1 w3 cI := x2.new x3 (by omega)
  simp (disch := omega) only [rQ, hsh, aA, iS]
  refine fN (o1.ext x13 (fun h => h)) rfl (by simp [one]) (by simp) fun w4 o4 x4 s4 => ?_
  refine nF o4 (by simp [aV]) ?_
  simp only [aV, aI2, aI3, aI4, aIX, aI6]
  exact ⟨_, rfl, Vx (o3.ext x4 (by omega)) rfl, (x1.seq x13).new x4 (by omega)⟩
 have n3 : (a == 2) = false := beq_eq_false_iff_ne.2 h2
 simp (disch := omega) only [aC, cK, n1, n2, n3, dF, aA, aD]
 refine fN o1 rfl (by simp [one]) (by simp) fun w4 o4 x4 s4 => ?_
 refine nF o4 (by simp [aV]) ?_
 simp only [aV, aI2, aI3, aI4, aIX, aI6]
 unfold YC gvP
 rw [if_neg h1, if_neg (by omega), if_neg h0, if_neg h1, if_neg h2]
 exact ⟨_, rfl, Sl.nil _, x1.new x4 (by omega)⟩
def Nt (w : aLl) (base : Nat) (o : Except Int (Nat × List T3)) (t : aLm) (e : Int) : Prop := match o with
 | .error e' => t = .agg #[.int .i64 0, .slice none 0 0] /\ e = e'
 | .ok (lg, L) => (∃ b, Tbl w base b lg L t) /\ e = 0
def wY (a : Int) : Except Int (Nat × List T3) := if a = 0 ∨ a = 1 ∨ a = 2 then .ok (YC a, lQ (YC a) (gvP a)) else .error 1
theorem Nt.form {w : aLl} {base : Nat} {o : Except Int (Nat × List T3)} {t : aLm} {e : Int} (h : Nt w base o t e) : ∃ (x : Int) (a : Option Addr) (n c : Nat), t = .agg #[.int .i64 x, .slice a n c] := by
 unfold Nt at h
 split at h
 .exact ⟨_, _, _, _, h.1⟩
 .obtain ⟨⟨b, h, _⟩, _⟩ := h
  exact ⟨_, _, _, _, h⟩
theorem Nt.ext {w w' : aLl} {base : Nat} {o : Except Int (Nat × List T3)} {t : aLm} {e : Int} {M : Nat -> Prop} (h : Nt w base o t e) (x : aS w w' M) (hM : ∀ b, base <= b -> b < w.heap.size -> ¬ M b) : Nt w' base o t e := by
 unfold Nt at *
 split at h
 .exact h
 .obtain ⟨⟨b, ht⟩, he⟩ := h
  have hb := ht.2.1
  have hl := ht.2.2.lt
  exact ⟨⟨b, ht.ext x (hM b hb hl)⟩, he⟩
theorem Nt.lower {w : aLl} {base base' : Nat} {o : Except Int (Nat × List T3)} {t : aLm} {e : Int} (h : Nt w base o t e) (hb : base' <= base) : Nt w base' o t e := by
 unfold Nt at *
 split at h
 .exact h
 .obtain ⟨⟨b, h1, h2, h3⟩, he⟩ := h
  exact ⟨⟨b, h1, by omega, h3⟩, he⟩
theorem atJ {a : Int} {w : aLl} (hg : vW w) :
 aR pg wO #[.int .i64 a] w (fun r w' => ∃ t e, r = .tuple #[t, .int .i64 e] /\ Nt w' w.heap.size (wY a) t e /\ aS w w' cI) := by
 refine Wz ?_
 unfold Uv EJ
 refine kD fun w1 o1 x1 s1 => ?_
 have z1 := o1.lt
 refine (aB0 (hg.ext x1)).mono ?_
 rintro r w2 ⟨v, rfl, hs, x2⟩
 unfold wY
 have z2 := x2.size
 by_cases hk : a = 0 ∨ a = 1 ∨ a = 2
 .rw [if_pos hk]
  refine (aoF (aoY hk) hs).mono ?_
  rintro r w3 ⟨b, t, rfl, ⟨rfl, hb, ob⟩, x3⟩
  have z3 := x3.size
  simp (disch := omega) only [aC, Bc, A6, aA]
  have lb := ob.lt
  refine eL ((o1.ext x2 (fun h => h)).ext x3 (fun h => h)) rfl (by simp [one]) (by simp) fun w4 o4 x4 s4 => ?_
  refine sL o4 (by simp [aV]) ?_
  simp only [aV, aI2, aI3, aI4, aIX, aI6]
  exact ⟨_, _, rfl, ⟨⟨b, rfl, by omega, ob.ext x4 (by omega)⟩, rfl⟩, ((x1.seq x2).seq x3).new x4 (by omega)⟩
 .rw [if_neg hk]
  have e1 : YC a = 0 := by unfold YC; rw [if_neg (by omega), if_neg (by omega)]
  have e2 : gvP a = [] := by unfold gvP; rw [if_neg (by omega), if_neg (by omega), if_neg (by omega)]
  rw [e1]
  rw [e2] at hs
  refine (aDc (log := 0) (ps := []) (by decide) hs (by simp)).mono ?_
  rintro r w3 ⟨rfl, x3⟩
  simp (disch := omega) only [aC, Bc, A6, aA]
  refine eL ((o1.ext x2 (fun h => h)).ext x3 (fun h => h)) rfl (by simp [one]) (by simp) fun w4 o4 x4 s4 => ?_
  refine sL o4 (by simp [aV]) ?_
  simp only [aV, aI2, aI3, aI4, aIX, aI6]
  exact ⟨_, _, rfl, ⟨rfl, rfl⟩, ((x1.seq x2).seq x3).new x4 (by omega)⟩
def D1 (a : Int) : Int := if a = 0 ∨ a = 2 then 9 else if a = 1 then 8 else 0
theorem awF (a : Int) (w : aLl) : aR pg vI #[.int .i64 a] w (fun r w' => r = .int .i64 (D1 a) /\ w' = w) := by
 refine ahU ?_
 unfold akP Io MU KF LP Ly MC UI KO
 unfold D1
 by_cases h0 : a = 0
 .subst h0
  have n1 : ((0 : Int) == 0) = true := rfl
  unfold tH
  simp (disch := omega) only [aC, cK, n1, aA, and_true, aF]
  rfl
 have n1 : (a == 0) = false := beq_eq_false_iff_ne.2 h0
 by_cases h2 : a = 2
 .subst h2
  have n2 : ((2 : Int) == 2) = true := rfl
  unfold tH
  simp (disch := omega) only [aC, cK, n1, aA, n2, aF, and_true, aD]
  rfl
 have n2 : (a == 2) = false := beq_eq_false_iff_ne.2 h2
 rw [if_neg (by omega)]
 by_cases h1 : a = 1
 .subst h1
  have n3 : ((1 : Int) == 1) = true := rfl
  unfold tH
  simp (disch := omega) only [aC, cK, n1, if_true, n3, true_and, aA, aF, n2, aD, and_true]
 have n3 : (a == 1) = false := beq_eq_false_iff_ne.2 h1
 rw [if_neg h1]
 unfold tH ED
 simp (disch := omega) only [aC, cK, n1, n3, true_and, aA, aD, n2, and_true]
end Go.Proofs.YtaggdjhhmbnhoaaDoor
namespace Go.Proofs.YtaggdjhhmbnhoaaDoor
open Go Go.En Go.Pu
theorem aGv : ((⟨#[]⟩ : ByteArray).toList == (⟨#[]⟩ : ByteArray).toList) = true := by simp
theorem aAS {x : ByteArray} (h : 0 < x.size) : (x.toList == (⟨#[]⟩ : ByteArray).toList) = false := by
 rw [ByteArray.toList_eq, ByteArray.toList_eq]
 have hl := mM x
 unfold nH at hl
 cases hx : x.data.toList with
 | nil => rw [hx] at hl; simp at hl; omega
 | cons a l => rfl
end Go.Proofs.YtaggdjhhmbnhoaaDoor
namespace Go.Pu
open Go Go.En
def kP (L : List Bool) (st n : Nat) : Nat := wA ((L.drop st).take n)
theorem EU (L : List Bool) (st n : Nat) : kP L st n < 2 ^ n := by
 have h := Z9 ((L.drop st).take n)
 have : ((L.drop st).take n).length <= n := by rw [aJg]; omega
 exact Nat.lt_of_lt_of_le h (aJa (by omega) this)
theorem atW (A : List Bool) (x n : Nat) (C : List Bool) (h : x < 2 ^ n) : kP (A ++ (gU x n ++ C)) A.length n = x := by
 unfold kP
 rw [aK9, List.take_left' (dQ x n), aAA h]
def Wi (L : List Bool) (st left : Nat) : Option (Nat × Nat) :=
 let n := bl (left + 1)
 if L.length < st + (n - 1) then none
 else
  let low := kP L st (n - 1)
  let free := 2 ^ n - 2 - left
  if low < free then some (low, st + (n - 1))
  else if L.length < st + (n - 1) + 1 then none
  else if kP L (st + (n - 1)) 1 = 0 then some (low, st + (n - 1) + 1)
  else some (low + 2 ^ (n - 1) - free, st + (n - 1) + 1)
def noR (L : List Bool) : Nat -> Nat -> Option (Nat × Nat)
 | 0, _ => none
 | f + 1, st => if L.length < st + 2 then none else if kP L st 2 < 3 then some (kP L st 2, st + 2) else match noR L f (st + 2) with
   | none => none
   | some (k, st') => some (3 + k, st')
def WD (L : List Bool) (sym : Nat) : Nat -> Nat -> Nat -> List Int -> Except Int (List Int × Nat)
 | 0, _, _, _ => .error 10
 | f + 1, st, left, ps => if left = 0 then .ok (ps, st) else match Wi L st left with
   | none => .error 10
   | some (v, st1) =>
     if v = 1 then match noR L (L.length + 1) st1 with
       | none => .error 10
       | some (k, st2) => if sym < ps.length + 1 + k then .error 11 else WD L sym f st2 left (ps ++ 0 :: List.replicate k 0)
     else if sym < ps.length + 1 then .error 11 else WD L sym f st1 (left - (dC ((v : Int) - 1)).toNat) (ps ++ [(v : Int) - 1])
theorem VS {L : List Bool} {st left v st1 : Nat} (h : Wi L st left = some (v, st1)) (h0 : 0 < left) : st < st1 /\ st1 <= L.length /\ v <= left + 1 := by
 have hb1 := HL (k := left + 1) (by omega)
 have hb2 := Vg (k := left + 1) (by omega)
 have hb3 := W9 (left + 1)
 have hn : 2 <= bl (left + 1) := by
  rcases aJl (bl (left + 1)) 2 with h | h
  .have : bl (left + 1) = 1 := by omega
   rw [this] at hb3; omega
  .exact h
 unfold Wi at h
 simp only at h
 generalize bl (left + 1) = n at *
 obtain ⟨m, rfl⟩ : ∃ m, n = m + 1 := ⟨n - 1, by omega⟩
 rw [aJZ] at *
 rw [aJp] at *
 have hl := EU L st m
 generalize 2 ^ m = q at *
 generalize kP L st m = low at *
 split at h
 .cases h
 .split at h
  .obtain ⟨rfl, rfl⟩ := aLd (aJj h); omega
  .split at h
   .cases h
   .split at h
    .obtain ⟨rfl, rfl⟩ := aLd (aJj h); omega
    .obtain ⟨rfl, rfl⟩ := aLd (aJj h); omega
theorem apY {L : List Bool} : ∀ {f st k st1 : Nat}, noR L f st = some (k, st1) -> st < st1 /\ st1 <= L.length /\ 2 * k <= 3 * (st1 - st)
 | 0, st, k, st1, h => by cases h
 | f + 1, st, k, st1, h => by
   rw [noR] at h
   split at h
   .cases h
   .have hl := EU L st 2
    split at h
    .obtain ⟨rfl, rfl⟩ := aLd (aJj h); omega
    .cases hn : noR L f (st + 2) with
     | none => rw [hn] at h; cases h
     | some x =>
       obtain ⟨k', st'⟩ := x
       rw [hn] at h
       obtain ⟨rfl, rfl⟩ := aLd (aJj h)
       have := apY hn
       omega
def yU (L : List Bool) (most : Int) (sym : Nat) : Except Int (Nat × List Int × Nat) :=
 if L.length < 4 then .error 10
 else
  let log := kP L 0 4 + 5
  if most < log ∨ 15 < log then .error 12
  else match WD L sym (L.length + 1) 4 (2 ^ log) [] with
   | .error e => .error e
   | .ok (ps, st) => .ok (log, ps, (st + 7) / 8)
theorem RC : ∀ k : Nat, tX (List.replicate k 0) = 0
 | 0 => rfl
 | k + 1 => by rw [aJ3, zG, RC k] <;> rfl
theorem agN {L : List Bool} {sym : Nat} {out : List Int} {stE : Nat} {tot : Int} : ∀ {f st left : Nat} {ps : List Int}, WD L sym f st left ps = .ok (out, stE) -> (∀ p ∈ ps, -1 <= p) -> tX ps + left = tot →
 (left = 0 -> ps.length <= sym /\ ps.getLast? ≠ some 0 /\ 1 <= ps.length) -> (∀ p ∈ out, -1 <= p) /\ tX out = tot /\ out.length <= sym /\ out.getLast? ≠ some 0 /\ 1 <= out.length
 | 0, st, left, ps, h, _, _, _ => by cases h
 | f + 1, st, left, ps, h, hlo, hs, hz => by
   rw [WD] at h
   split at h
   .rename_i h0
    cases h
    obtain ⟨z1, z2, z3⟩ := hz h0
    exact ⟨hlo, by omega, z1, z2, z3⟩
   .rename_i h0
    cases hv : Wi L st left with
    | none => rw [hv] at h; cases h
    | some x =>
      obtain ⟨v, st1⟩ := x
      obtain ⟨v1, v2, v3⟩ := VS hv (by omega)
      rw [hv] at h
      simp only at h
      split at h
      .rename_i hv1
       cases hn : noR L (L.length + 1) st1 with
       | none => rw [hn] at h; cases h
       | some y =>
         obtain ⟨k, st2⟩ := y
         rw [hn] at h
         simp only at h
         split at h
         .cases h
         .refine agN h ?_ ?_ (fun h => absurd h h0)
          .intro p hp
           rcases aKk.1 hp with hp | hp
           .exact hlo p hp
           .rcases aJQ.1 hp with rfl | hp
            .omega
            .rw [aKK hp]; omega
          .rw [Hw, zG]
           have e := RC k
           rw [e]
           have : dC 0 = 0 := rfl
           omega
      .rename_i hv1
       split at h
       .cases h
       .have hp1 : -1 <= (v : Int) - 1 := by omega
        have hpn := nL hp1
        have hpl : dC ((v : Int) - 1) <= left := by unfold dC; split <;> omega
        refine agN h ?_ ?_ ?_
        .intro p hp
         rcases aKk.1 hp with hp | hp
         .exact hlo p hp
         .rw [aKf.1 hp]; exact hp1
        .rw [Hw, zG]
         have e : tX [] = 0 := rfl
         rw [e]; omega
        .intro _
         rw [aI8, aKl, List.getLast?_concat]
         refine ⟨by omega, ?_, by omega⟩
         intro e
         have := aJj e
         omega
def M0 (left v : Nat) : List Bool :=
 let n := bl (left + 1)
 let free := 2 ^ n - 2 - left
 if v < free then gU v (n - 1) else if v < 2 ^ (n - 1) then gU v n else gU (v + free) n
def noW (k : Nat) : List Bool := if h : k < 3 then gU k 2 else gU 3 2 ++ noW (k - 3)
termination_by k
theorem Vk {L A C : List Bool} {x n : Nat} (hL : L = A ++ (gU x n ++ C)) (h : x < 2 ^ n) : kP L A.length n = x := by rw [hL, atW A x n C h]
theorem arJ (x n : Nat) : gU x (n + 1) = gU (x % 2 ^ n) n ++ gU (x / 2 ^ n % 2) 1 := by
 rw [LO]
 congr 1
 .unfold gU
  apply aKp
  intro k hk
  rw [Nat.testBit_mod_two_pow]
  simp [aJN.1 hk]
 .rw [LO, FH, aJM]
  congr 1
  rw [aKg, aKg, Nat.pow_zero, Nat.div_one, Nat.mod_mod]
theorem aEZ {L A C : List Bool} {left v : Nat} (hL : L = A ++ (M0 left v ++ C)) (h0 : 0 < left) (hv : v <= left + 1) : Wi L A.length left = some (v, A.length + (M0 left v).length) := by
 have hb1 := HL (k := left + 1) (by omega)
 have hb2 := Vg (k := left + 1) (by omega)
 have hb3 := W9 (left + 1)
 unfold M0 at hL ⊢
 unfold Wi
 simp only at hL ⊢
 generalize bl (left + 1) = n at *
 obtain ⟨m, rfl⟩ : ∃ m, n = m + 1 := ⟨n - 1, by omega⟩
 rw [aJZ] at *
 have hp : 2 ^ (m + 1) = 2 * 2 ^ m := by rw [aJp, aJ8]
 have hp0 := aJv m
 by_cases h1 : v < 2 ^ (m + 1) - 2 - left
 .rw [if_pos h1] at hL ⊢
  have hlen : L.length = A.length + (m + C.length) := by rw [hL, aI8, aI8, dQ]
  rw [if_neg (by omega), Vk hL (by omega), if_pos h1, dQ]
 .rw [if_neg h1] at hL ⊢
  have key : ∀ y : Nat, y < 2 ^ (m + 1) -> L = A ++ (gU y (m + 1) ++ C) -> 2 ^ (m + 1) - 2 - left <= y % 2 ^ m -> (if y / 2 ^ m = 0 then y % 2 ^ m else y % 2 ^ m + 2 ^ m - (2 ^ (m + 1) - 2 - left)) = v →
      (if L.length < A.length + m then none else if kP L A.length m < 2 ^ (m + 1) - 2 - left then some (kP L A.length m, A.length + m) else if L.length < A.length + m + 1 then none
       else if kP L (A.length + m) 1 = 0 then some (kP L A.length m, A.length + m + 1) else some (kP L A.length m + 2 ^ m - (2 ^ (m + 1) - 2 - left), A.length + m + 1)) = some (v, A.length + (gU y (m + 1)).length) := by
   intro y hy hL hlow hval
   have hlen : L.length = A.length + (m + 1 + C.length) := by rw [hL, aI8, aI8, dQ]
   have hq : y / 2 ^ m < 2 := (aKt hp0).2 (by omega)
   have e1 : kP L A.length m = y % 2 ^ m := Vk (C := gU (y / 2 ^ m % 2) 1 ++ C) (by rw [hL, arJ, aJc]) (aKj _ hp0)
   have e2 : kP L (A.length + m) 1 = y / 2 ^ m := by
    have := Vk (L := L) (A := A ++ gU (y % 2 ^ m) m) (C := C) (x := y / 2 ^ m % 2) (n := 1) (by rw [hL, arJ, aJc, aJc]) (by omega)
    rw [aI8, dQ, aJA hq] at this
    exact this
   rw [if_neg (by omega), e1, if_neg (by omega), if_neg (by omega), e2, dQ]
   split
   .rename_i h
    rw [if_pos h] at hval
    rw [hval] <;> rfl
   .rename_i h
    rw [if_neg h] at hval
    rw [hval] <;> rfl
  by_cases h2 : v < 2 ^ m
  .rw [if_pos h2] at hL ⊢
   refine key v (by omega) hL ?_ ?_
   .rw [aJA h2]; omega
   .rw [Nat.div_eq_of_lt h2, if_pos rfl, aJA h2]
  .rw [if_neg h2] at hL ⊢
   have hd : (v + (2 ^ (m + 1) - 2 - left)) / 2 ^ m = 1 := Nat.div_eq_of_lt_le (by omega) (by omega)
   have hm : (v + (2 ^ (m + 1) - 2 - left)) % 2 ^ m = v + (2 ^ (m + 1) - 2 - left) - 2 ^ m := by
    rw [Nat.mod_eq_sub_mod (by omega), aJA (by omega)]
   refine key _ (by omega) hL ?_ ?_
   .rw [hm]; omega
   .rw [hd, if_neg (by omega), hm]; omega
theorem aH8 {L C : List Bool} : ∀ {k : Nat} {A : List Bool} {f : Nat}, L = A ++ (noW k ++ C) -> L.length < 2 * f + A.length -> noR L f A.length = some (k, A.length + (noW k).length) := by
 intro k
 induction k using Nat.strongRecOn with
 | ind k ih =>
   intro A f hL hf
   rw [noW] at hL ⊢
   split at hL
   .rename_i hk
    have hlen : L.length = A.length + (2 + C.length) := by rw [hL, aI8, aI8, dQ]
    obtain ⟨f, rfl⟩ : ∃ g, f = g + 1 := ⟨f - 1, by omega⟩
    have e := Vk hL (by omega)
    rw [noR, if_neg (by omega), e, if_pos hk, dif_pos hk, dQ]
   .rename_i hk
    rw [aJc] at hL
    have hlen : L.length = A.length + (2 + ((noW (k - 3)).length + C.length)) := by rw [hL, aI8, aI8, aI8, dQ]
    obtain ⟨f, rfl⟩ : ∃ g, f = g + 1 := ⟨f - 1, by omega⟩
    have e := Vk hL (by omega)
    have := ih (k - 3) (by omega) (A := A ++ gU 3 2) (f := f) (by rw [hL, aJc]) (by rw [aI8, dQ]; omega)
    rw [aI8, dQ] at this
    rw [noR, if_neg (by omega), e, if_neg (by omega), this, dif_neg hk, aI8, dQ]
    simp only [Option.some.injEq, Prod.mk.injEq]
    omega
def Zf : Nat -> Nat -> List Int -> List Bool
 | 0, _, _ => []
 | f + 1, left, ps => match ps with
   | [] => []
   | p :: ps => if p = 0 then
       let k := (ps.takeWhile (· == 0)).length
       M0 left 1 ++ (noW k ++ Zf f left (ps.drop k))
     else M0 left (p + 1).toNat ++ Zf f (left - (dC p).toNat) ps
theorem W7 (ps : List Int) : ps = List.replicate (ps.takeWhile (· == 0)).length 0 ++ ps.drop (ps.takeWhile (· == 0)).length := by
 induction ps with
 | nil => rfl
 | cons p ps ih =>
   rw [List.takeWhile_cons]
   by_cases h : p = 0
   .subst h
    simp only [beq_self_eq_true, if_true, aJo, aJ3, aJK, aJ9]
    rw [<- ih]
   .have : (p == 0) = false := by simpa using h
    simp [this]
theorem aIi {L C : List Bool} {sym : Nat} : ∀ {g : Nat} {ps out : List Int} {left f : Nat} {A : List Bool}, ps.length <= g -> (∀ p ∈ ps, -1 <= p) -> tX ps = left -> ps.getLast? ≠ some 0 →
 L = A ++ (Zf g left ps ++ C) -> L.length < f + A.length -> out.length + ps.length <= sym →
 WD L sym f A.length left out = .ok (out ++ ps, A.length + (Zf g left ps).length) := by
 intro g
 induction g with
 | zero =>
   intro ps out left f A hl hlo hs hlast hL hf hsym
   have : ps = [] := aJr.1 (by omega)
   subst this
   obtain rfl : left = 0 := by have : tX [] = 0 := rfl
                               omega
   have : A.length <= L.length := by rw [hL, aI8]; omega
   obtain ⟨f, rfl⟩ : ∃ g, f = g + 1 := ⟨f - 1, by omega⟩
   rw [WD, if_pos rfl, Zf]; simp
 | succ g ih =>
   intro ps out left f A hl hlo hs hlast hL hf hsym
   have hAL : A.length <= L.length := by rw [hL, aI8]; omega
   obtain ⟨f, rfl⟩ : ∃ g, f = g + 1 := ⟨f - 1, by omega⟩
   cases ps with
   | nil =>
     obtain rfl : left = 0 := by have : tX [] = 0 := rfl
                                 omega
     rw [WD, if_pos rfl, Zf]; simp
   | cons p ps =>
     have hp := hlo p (aJ6 ..)
     have hlo' : ∀ p ∈ ps, -1 <= p := fun q hq => hlo q (aJi _ hq)
     have hn := HF hlo'
     rw [zG] at hs
     have hpn := nL hp
     rw [aJo] at hl hsym
     have hpos : 0 < left := by
      by_cases h0 : p = 0
      .
       subst h0
       rcases aJU left with h | h
       .exfalso
        subst h
        have hs0 : tX ps = 0 := by have : dC 0 = 0 := rfl
                                   omega
        have hz : ∀ q ∈ ps, q = 0 := fun q hq => by
         have h1 := aoB hlo' hq
         have h2 := hlo' q hq
         unfold dC at h1
         split at h1 <;> omega
        cases ps with
        | nil => simp at hlast
        | cons q ps =>
          rw [List.getLast?_cons_cons] at hlast
          refine hlast ?_
          cases hg : (q :: ps).getLast? with
          | none => simp at hg
          | some y => rw [hz y (List.mem_of_getLast? hg)]
       .exact h
      .unfold dC at hs; split at hs <;> omega
     have hpl : dC p <= left := by omega
     by_cases h0 : p = 0
     .subst h0
      have hW : Zf (g + 1) left (0 :: ps) = M0 left 1 ++ (noW (ps.takeWhile (· == 0)).length ++ Zf g left (ps.drop (ps.takeWhile (· == 0)).length)) := by rw [Zf, if_pos rfl]
      have hk := W7 ps
      have hkl : (ps.takeWhile (· == 0)).length <= ps.length := (aLe _).length_le
      rw [hW] at hL ⊢
      generalize (ps.takeWhile (· == 0)).length = k at *
      have e1 := aEZ (L := L) (A := A) (C := noW k ++ Zf g left (ps.drop k) ++ C) (left := left) (v := 1) (by rw [hL]; simp [aJc]) hpos (by omega)
      obtain ⟨z1, z2, _⟩ := VS e1 hpos
      have e2 := aH8 (L := L) (k := k) (A := A ++ M0 left 1) (C := Zf g left (ps.drop k) ++ C) (f := L.length + 1) (by rw [hL]; simp [aJc]) (by omega)
      obtain ⟨y1, y2, _⟩ := apY e2
      have hlast' : (ps.drop k).getLast? ≠ some 0 := by
       intro h
       apply hlast
       have e : (0 :: ps : List Int) = (0 :: ps.take k) ++ ps.drop k := by rw [aJ9, aKs]
       rw [e, List.getLast?_append, h] <;> rfl
      have hsum' : tX (ps.drop k) = left := by
       have : tX ps = tX (List.replicate k 0) + tX (ps.drop k) := by
        conv => lhs; rw [hk]
        rw [Hw]
       rw [RC] at this
       have e0 : dC 0 = 0 := rfl
       omega
      have hlen2 : (A ++ M0 left 1 ++ noW k).length = A.length + (M0 left 1).length + (noW k).length := by rw [aI8, aI8]
      rw [aI8] at e2 y1
      have e3 := ih (ps := ps.drop k) (out := out ++ 0 :: List.replicate k 0) (left := left) (f := f) (A := A ++ M0 left 1 ++ noW k) (by rw [aJu]; omega) (fun q hq => hlo' q (aLj hq)) hsum' hlast'
       (by rw [hL]; simp [aJc]) (by rw [hlen2]; omega) (by rw [aI8, aJo, aKm, aJu]; omega)
      rw [hlen2] at e3
      rw [WD, if_neg (by omega), e1]
      simp only [if_true]
      rw [e2]
      simp only
      rw [if_neg (by omega), e3]
      congr 2
      .rw [aJc, aJ9, <- hk]
      .simp only [aI8]; omega
     .have hW : Zf (g + 1) left (p :: ps) = M0 left (p + 1).toNat ++ Zf g (left - (dC p).toNat) ps := by rw [Zf, if_neg h0]
      have hle : p <= dC p := by unfold dC; split <;> omega
      rw [hW] at hL ⊢
      obtain ⟨v, hv⟩ : ∃ v : Nat, (p + 1).toNat = v := ⟨_, rfl⟩
      have hvp : (v : Int) - 1 = p := by omega
      rw [hv] at hL ⊢
      have e1 := aEZ (L := L) (A := A) (C := Zf g (left - (dC p).toNat) ps ++ C) (left := left) (v := v) (by rw [hL]; simp [aJc]) hpos (by omega)
      obtain ⟨z1, z2, _⟩ := VS e1 hpos
      have hlast' : ps.getLast? ≠ some 0 := by
       intro h
       apply hlast
       cases ps with
       | nil => simp at h
       | cons q ps => rw [List.getLast?_cons_cons]; exact h
      have hlen2 : (A ++ M0 left v).length = A.length + (M0 left v).length := aI8
      have e3 := ih (ps := ps) (out := out ++ [p]) (left := left - (dC p).toNat) (f := f) (A := A ++ M0 left v) (by omega) hlo' (by omega) hlast'
       (by rw [hL]; simp [aJc]) (by rw [hlen2]; omega) (by rw [aI8, aKl]; omega)
      rw [hlen2] at e3
      rw [WD, if_neg (by omega), e1]
      simp only
      rw [if_neg (by omega), if_neg (by omega), hvp, e3]
      congr 2
      .rw [aJc] <;> rfl
      .simp only [aI8]; omega
def JA (log : Nat) (ps : List Int) : List Bool := gU (log - 5) 4 ++ Zf ps.length (2 ^ log) ps
theorem aGp {log : Nat} {ps : List Int} {C : List Bool} (hm : TO log ps) {most : Int} (hmo : (log : Int) <= most) {sym : Nat} (hs : ps.length <= sym) :
 yU (JA log ps ++ C) most sym = .ok (log, ps, ((JA log ps).length + 7) / 8) := by
 have h5 := hm.log5
 have h15 := hm.log15
 have hlen : 4 <= (JA log ps ++ C).length := by unfold JA; rw [aI8, aI8, dQ]; omega
 have e0 : kP (JA log ps ++ C) 0 4 = log - 5 := by
  unfold JA
  have := atW [] (log - 5) 4 (Zf ps.length (2 ^ log) ps ++ C) (by omega)
  rw [aJM, List.length_nil, <- aJc] at this
  exact this
 have hpow : ((2 ^ log : Nat) : Int) = (2 : Int) ^ log := by simp
 have e1 := aIi (L := JA log ps ++ C) (C := C) (sym := sym) (g := ps.length) (ps := ps) (out := []) (left := 2 ^ log) (f := (JA log ps ++ C).length + 1) (A := gU (log - 5) 4) (aI9 _) hm.low
  (by rw [hm.sum, hpow]) hm.last (by unfold JA; rw [aJc]) (by omega) (by rw [List.length_nil]; omega)
 rw [dQ, aJM] at e1
 unfold yU
 simp only
 rw [if_neg (by omega), e0, show log - 5 + 5 = log from by omega, if_neg (by omega), e1]
 simp only
 congr 4
 unfold JA
 rw [aI8, dQ]
end Go.Pu
namespace Go.En
open Go
section
variable {P : Program} {w : aLl} {t e : TypeId}
theorem aAs {S : Nat -> Prop} {sz n m : Nat} {i : TypeInfo} {z : aLm} {ty t2 : TypeId} {k : IntKind} (hu : P.underlying t = some (.slice e)) (hu2 : P.underlying t2 = some (.int k)) (hi : P.info? e = some i) (hsz : i.size = sz) (hz : i.zero = some z) (hzs : z.cells.size = sz)
 {v : aLm} {l : List aLm} (h : OSS w S sz v n l) (hsz0 : 0 < sz) (hone : ∀ y ∈ z.cells.toList, one y = true) (hb : ∀ b, w.heap.size <= b -> S b)
 (hn : n + m <= 9223372036854775807) (hbytes : (n + m) * i.bytes <= 140737488355328) (hmb : m * i.bytes <= 140737488355328)
 {K : aLm -> aLl -> Prop} (hk : ∀ v' w', OSS w' S sz v' (n + m) (l ++ (Builtin.zeroCells z.cells m).toList) -> aS w w' S -> K v' w') : aC P (lF .append #[t, t2] ty [v, .int k m]) w K := by
 generalize hnews : (Builtin.zeroCells z.cells m).toList = news at *
 have hnl : news.length = m * sz := by rw [<- hnews, aKh, sR, hzs]
 have hone' : ∀ y ∈ news, one y = true := by
  intro y hy
  rw [<- hnews] at hy
  simp only [Builtin.zeroCells, Array.toList_map, aJO] at hy
  obtain ⟨j, _, rfl⟩ := hy
  refine hone _ ?_
  have : j % z.cells.size < z.cells.size := aKj _ (by omega)
  rw [getElem!_pos z.cells _ this]
  exact Array.getElem_mem_toList this
 have hmw : IntKind.i64.wrap ((m : Nat) : Int) = (m : Int) := aT (by omega) (by omega)
 have hm0 : ¬ ((m : Int) < 0) := by omega
 have hmx : ¬ ((m : Int) * (i.bytes : Nat) > 2 ^ 48) := by
  have : (m : Int) * (i.bytes : Nat) = ((m * i.bytes : Nat) : Int) := by simp
  rw [this]; omega
 have has : ∀ w, (asInt (.int k m)).run P w = .ok (m : Int) w := fun w => rfl
 have hz' : ∀ w, (zeroValue e).run P w = .ok z w := fun w => by simp [zeroValue, typeInfo, hi, hz]
 have hnw : ∀ w, (if m * sz = 0 then pure #[] else do pure (Builtin.zeroCells (<- zeroValue e).cells m) : Sem (Array aLm)).run P w = .ok news.toArray w := fun w => by
  by_cases h0 : m * sz = 0
  .rw [if_pos h0, Sem.run_pure]
   have : news = [] := aJr.1 (by omega)
   rw [this]
  .rw [if_neg h0, Sem.run_bind, hz', Result.andThen_ok, Sem.run_pure, <- hnews, Array.toArray_toList]
 have hmax : IntKind.i64.max = 9223372036854775807 := by decide
 have hnot : ¬ (((n + m : Nat) : Int) > IntKind.i64.max) := by rw [hmax]; omega
 have hlen := h.1
 rcases h.2 with ⟨rfl, rfl⟩ | ⟨b, c, rest, rfl, h2, h3, h4, h5⟩
 .have hl0 : l = [] := aJr.1 (by omega)
  subst hl0
  by_cases hm : m = 0
  .subst hm
   have hn0 : news = [] := aJr.1 (by omega)
   subst hn0
   have : (lF .append #[t, t2] ty [.slice none 0 0, .int k (0 : Nat)]).run P w = .ok (.value (.slice none 0 0)) w := by
    unfold lF builtin
    simp only [Builtin.append_, aKc, aI0, aI1]
    simp only [underlying, typeInfo, Sem.run_bind, run_program, Result.andThen_ok, hu, hu2, hi, Sem.run_pure, iD hi, hsz, has, hmw, hm0, hmx, if_true, if_false, aIY, aJx, aI5, aI9, aJV, hnw]
   unfold aC
   rw [this]
   exact hk _ _ ⟨by simp, .inl ⟨rfl, by omega⟩⟩ (aS.refl _ _)
  .have hfit := growslice_fits (need := 0 + m) (old := 0) (bytes := i.bytes) (by omega) (by omega)
   have hfit' : ¬ (Builtin.nextslicecap (0 + m) 0 * i.bytes > 2 ^ 48) := by omega
   have hle : ¬ (0 + m <= 0) := by omega
   have hq : (Question.appendCap (0 + m) 0 e).forced = false := rfl
   obtain ⟨r, hr⟩ : ∃ r, (Question.appendCap (0 + m) 0 e).cut (w.tape w.drawn (.appendCap (0 + m) 0 e)) = m + r :=
    ⟨(w.tape w.drawn (.appendCap (0 + m) 0 e)) % (2 ^ 63 - (0 + m)), by simp only [Question.cut]; omega⟩
   have : (lF .append #[t, t2] ty [.slice none 0 0, .int k m]).run P w = .ok (.value (.slice (some ⟨w.heap.size, 0, none⟩) (0 + m) (m + r))) ((dr w).alloc (.cells (news ++ (Builtin.zeroCells z.cells (m + r - (0 + m))).toList).toArray e)) := by
    unfold lF builtin
    simp only [Builtin.append_, aKc, aI0, aI1]
    simp only [underlying, typeInfo, Sem.run_bind, run_program, Result.andThen_ok, hu, hu2, hi, Sem.run_pure, iD hi, hsz, has, hmw, hm0, hmx, if_true, if_false, aIY, aJx, aI5, hle, hnot, false_and, hfit', run_choose, hq, hr, run_askRoom]
    change ((Sem.run P _ (dr w)).andThen _).andThen _ = _
    simp only [Sem.run_bind, hnw, run_firstCells_none, Result.andThen_ok, hz', Sem.run_pure, newRow, run_newObj]
    have e1 : (#[] ++ news.toArray ++ Builtin.zeroCells z.cells (m + r - (0 + m)) : Array aLm) = (news ++ (Builtin.zeroCells z.cells (m + r - (0 + m))).toList).toArray := by
     apply Array.ext'; simp
    rw [e1]
    rfl
   unfold aC
   rw [this]
   refine hk _ _ ⟨by simp only [aJM]; rw [hnl, aIZ], .inr ⟨w.heap.size, m + r, (Builtin.zeroCells z.cells (m + r - (0 + m))).toList, by rw [aIZ], hb _ (aI9 _), cM.alloc (dr w) _ _, ?_, by omega⟩⟩ ((aS.dr w _).seq (aS.alloc _ _ _))
   simp only [aJM, aI8, aKh, sR, hzs, hnl]
   rw [show m + r - (0 + m) = r from by omega, aJ4]
 .by_cases hc : n + m <= c
  .have hroom : news.length <= rest.length := by
    rw [aI8, hlen] at h4
    have : (n + m) * sz <= c * sz := aJH _ hc
    rw [aJ4] at this; omega
   obtain ⟨w', s1, s2, s3, s4, _⟩ := Mz (P := P) (M := S) h2 news w (n * sz) 0 (l ++ rest) h3 (by rw [aI8, hlen]; omega) hone'
   have : (lF .append #[t, t2] ty [.slice (some ⟨b, 0, none⟩) n c, .int k m]).run P w = .ok (.value (.slice (some ⟨b, 0, none⟩) (n + m) c)) w' := by
    unfold lF builtin
    simp only [Builtin.append_, aKc, aI0, aI1]
    simp only [underlying, typeInfo, Sem.run_bind, run_program, Result.andThen_ok, hu, hu2, hi, Sem.run_pure, iD hi, hsz, has, hmw, hm0, hmx, if_true, if_false, aIY, aJx, aI5, hc, hnw, FU, aIZ, s1]
   unfold aC
   rw [this]
   rw [aJV, <- hlen, Oa _ _ _ hroom] at s2
   refine hk _ _ ⟨by rw [aI8, hlen, hnl, aJ4], .inr ⟨b, c, rest.drop news.length, rfl, h2, s2, ?_, hc⟩⟩ s3
   rw [<- h4]; simp; omega
  .have hfit := growslice_fits (need := n + m) (old := c) (bytes := i.bytes) (by omega) hbytes
   have hfit' : ¬ (Builtin.nextslicecap (n + m) c * i.bytes > 2 ^ 48) := by omega
   have hq : (Question.appendCap (n + m) c e).forced = false := rfl
   obtain ⟨r, hr⟩ : ∃ r, (Question.appendCap (n + m) c e).cut (w.tape w.drawn (.appendCap (n + m) c e)) = n + m + r :=
    ⟨(w.tape w.drawn (.appendCap (n + m) c e)) % (2 ^ 63 - (n + m)), by simp only [Question.cut]⟩
   have hold : Cl (dr w) sz (.slice (some ⟨b, 0, none⟩) n c) n l := ⟨_, _, rfl, hlen, fun _ => ⟨b, 0, rfl, fun i hi => by
    show w.cell? _ = _
    rw [h3.cell, aIZ, aJd hi]⟩⟩
   have : (lF .append #[t, t2] ty [.slice (some ⟨b, 0, none⟩) n c, .int k m]).run P w = .ok (.value (.slice (some ⟨w.heap.size, 0, none⟩) (n + m) (n + m + r))) ((dr w).alloc (.cells (l ++ news ++ (Builtin.zeroCells z.cells (n + m + r - (n + m))).toList).toArray e)) := by
    have hfo := BK (P := P) hold
    unfold lF builtin
    simp only [Builtin.append_, aKc, aI0, aI1]
    simp only [underlying, typeInfo, Sem.run_bind, run_program, Result.andThen_ok, hu, hu2, hi, Sem.run_pure, iD hi, hsz, has, hmw, hm0, hmx, if_true, if_false, aIY, aJx, aI5, hc, hnot, false_and, hfit', run_choose, hq, hr, run_askRoom]
    change ((Sem.run P _ (dr w)).andThen _).andThen _ = _
    simp only [Sem.run_bind, hnw, hfo, Result.andThen_ok, hz', Sem.run_pure, newRow, run_newObj]
    have e1 : (l.toArray ++ news.toArray ++ Builtin.zeroCells z.cells (n + m + r - (n + m)) : Array aLm) = (l ++ news ++ (Builtin.zeroCells z.cells (n + m + r - (n + m))).toList).toArray := by
     apply Array.ext'; simp
    rw [e1]
    rfl
   unfold aC
   rw [this]
   refine hk _ _ ⟨by rw [aI8, hlen, hnl, aJ4], .inr ⟨w.heap.size, n + m + r, _, rfl, hb _ (aI9 _), cM.alloc (dr w) _ _, ?_, by omega⟩⟩ ((aS.dr w _).seq (aS.alloc _ _ _))
   simp only [aI8, aKh, sR, hzs, hnl, hlen]
   rw [show n + m + r - (n + m) = r from by omega, aJ4, aJ4]
end
end Go.En
namespace Go.Proofs.YtaggdjhhmbnhoaaDoor
open Go Go.En Go.Pu
set_option maxRecDepth 4000
theorem aFV {y : Nat} (h : y ≠ 0) : bl y = bl (y / 2) + 1 := by
 by_cases h2 : y / 2 = 0
 .obtain rfl : y = 1 := by omega
  decide
 .have a := Vg h2
  have b := W9 (y / 2)
  have c := HL h2
  obtain ⟨m, hm⟩ : ∃ m, bl (y / 2) = m + 1 := ⟨bl (y / 2) - 1, by omega⟩
  rw [hm, aJZ] at a
  rw [hm] at b ⊢
  refine aD9 ?_ ?_
  .rw [aJp]; omega
  .rw [aJp]; omega
theorem aGa {x : Nat} (hx : x < 2 ^ 40) (w : aLl) : aR pg Gz #[.int .i64 x] w (fun r w' => r = .int .i64 (bl x : Nat) /\ w' = w) := by
 refine ajP ?_
 unfold akO LM Mm Lb KQ LL
 have hb : bl x <= 40 := tR hx
 refine cC.rule (fun m (t : aLm × aLm) w' => ∃ n : Nat, t = (.int .i64 m, .int .i64 n) /\ bl m + n = bl x /\ m <= x /\ w' = w) x ⟨0, rfl, rfl, aI9 _, rfl⟩ ?_
 rintro m t w1 ⟨n, rfl, hn, hmx, rfl⟩
 unfold Eo
 by_cases h0 : m = 0
 .subst h0
  have d1 : decide ((0 : Int) < ((0 : Nat) : Int)) = false := rfl
  unfold DE
  have : n = bl x := by rw [<- hn]; simp [aFP]
  subst this
  simp (disch := omega) only [aC, dO, d1, zX, bN, aT, aA, true_and, and_true, aD]
 .have d1 : decide ((0 : Int) < (m : Int)) = true := by simp; omega
  have e1 : (m : Int).tdiv 2 = ((m / 2 : Nat) : Int) := by rw [aJs (by omega)]; omega
  have hh := aFV h0
  simp (disch := omega) only [aC, dO, d1, zX, e1, aT, bN, aA, and_true, aF]
  exact ⟨m / 2, by omega, n + 1, rfl, by omega, by omega⟩
theorem VQ {v : aLm} {L : List Bool} {st n : Nat} {w : aLl} (hs : Bl w v L) (hn : n <= 32) (hst : st <= L.length) (hl : L.length <= 10000000) :
 aR pg xM #[.agg #[v, .int .i64 st], .int .i64 n] w (fun r w' => ((L.length < st + n /\ r = .tuple #[.agg #[v, .int .i64 st], .int .u64 0, .int .i64 10]) ∨
  (st + n <= L.length /\ r = .tuple #[.agg #[v, .int .i64 (st + n : Nat)], .int .u64 (kP L st n : Nat), .int .i64 0])) /\ aS w w' cI) := by
 refine alG ?_
 obtain ⟨a, c, rfl, hc⟩ := Nk hs
 unfold asF Oi
 refine gA fun w1 o1 x1 s1 => ?_
 refine Ak fun w2 o2 x2 s2 => ?_
 simp only [Value.cells] at o1
 have o1 := o1.ext x2 (fun h => h)
 have c0 := o1.cell (off := 0)
 have c1 := o1.cell (off := 1)
 have l1 := fX (off := 0) o1 (by simp)
 simp only [aI0, aI1, aI4, aIX, aI6] at c0 c1 l1
 have x02 : aS w w2 cI := x1.seq x2
 have d1 : decide ((n : Int) < 0) = false := by simp
 have d2 : decide ((32 : Int) < (n : Int)) = false := by simp; omega
 by_cases hsh : L.length < st + n
 .have d3 : decide ((L.length : Int) - (st : Int) < (n : Int)) = true := by simp; omega
  simp (disch := omega) only [aC, aW, d1, jQ, gW, aIZ, aA, bZ, pF, dG, bM, aI5, if_false, bP, dO, d2, l1, c0, aG, nZ, c1, dZ, aT, d3, bN, aF, aD]
  refine dJ o2 rfl (by simp [one]) (by simp) fun w3 o3 x3 s3 => ?_
  refine nJ o3 (by simp [aV]) ?_
  simp only [aV, aI2, aI3, aI4, aIX, aI6]
  exact ⟨.inl ⟨hsh, by trivial⟩, x02.new x3 (by omega)⟩
 .have d3 : decide ((L.length : Int) - (st : Int) < (n : Int)) = false := by simp; omega
  have e1 : (st : Int) + (n : Int) = ((st + n : Nat) : Int) := by omega
  have hs2 := (hs.ext x02 (bU _)).drop' (k := st) (by omega)
  rw [<- aLf] at hs2
  have hs3 := aFy hs2 (k := n) (by omega)
  rw [<- aKX] at hs3
  have e2 : st + n - st = n := by omega
  simp (disch := omega) only [aC, aW, d1, jQ, gW, aIZ, aA, bZ, pF, dG, bM, aI5, if_false, bP, dO, d2, c0, aG, nZ, c1, dZ, aT, d3, bN, e1, rV, aIY, e2, aD]
  refine (akA hs3 (by rw [aJg]; omega)).mono ?_
  rintro r w3 ⟨rfl, rfl⟩
  simp (disch := omega) only [c1, aG, aA, bN, e1, aT]
  refine vP o1 rfl (by simp) fun w4 o4 x4 s4 => ?_
  simp only [aI2, aI3] at o4
  have l4 := fX (off := 0) o4 (by simp)
  simp only [aI4, aIX, aI6] at l4
  simp (disch := omega) only [l4, aA]
  refine dJ (o2.ext x4 (by omega)) rfl (by simp [one]) (by simp) fun w5 o5 x5 s5 => ?_
  refine nJ o5 (by simp [aV]) ?_
  simp only [aV, aI2, aI3, aI4, aIX, aI6]
  exact ⟨.inr ⟨by omega, by trivial⟩, (x02.new x4 (by omega)).new x5 (by omega)⟩
theorem aDy {v : aLm} {st : Nat} {w : aLl} (hst : st <= 1000000000) : aR pg JL #[.agg #[v, .int .i64 st]] w (fun r w' => r = .int .i64 (((st + 7) / 8 : Nat)) /\ aS w w' cI) := by
 refine anP ?_
 unfold aoV Pk
 refine gA fun w1 o1 x1 s1 => ?_
 simp only [Value.cells] at o1
 have c1 := o1.cell (off := 1)
 simp only [aI0, aI1] at c1
 have e1 : ((st : Int) + 7).tdiv 8 = (((st + 7) / 8 : Nat) : Int) := by rw [aJs (by omega)]; omega
 simp (disch := omega) only [aC, gW, aIZ, aA, bZ, c1, aG, bN, aT, zX, e1, true_and]
 exact x1
theorem agC {left : Nat} (h0 : 0 < left) (h1 : left <= 32768) : ∃ m, bl (left + 1) = m + 1 /\ 1 <= m /\ m <= 16 /\ left + 1 < 2 ^ (m + 1) /\ 2 ^ m <= left + 1 /\ 2 ^ (m + 1) = 2 * 2 ^ m := by
 have hb2 := Vg (k := left + 1) (by omega)
 have hb3 := W9 (left + 1)
 have hb4 := tR (k := left + 1) (n := 17) (by omega)
 have hn : 2 <= bl (left + 1) := by
  rcases aJl (bl (left + 1)) 2 with h | h
  .have hb1 := HL (k := left + 1) (by omega)
   have : bl (left + 1) = 1 := by omega
   rw [this] at hb3; omega
  .exact h
 obtain ⟨m, hm⟩ : ∃ m, bl (left + 1) = m + 1 := ⟨bl (left + 1) - 1, by omega⟩
 rw [hm] at hb2 hb3 hb4 hn ⊢
 exact ⟨m, rfl, by omega, by omega, hb3, hb2, by rw [aJp, aJ8]⟩
theorem azF (L : List Bool) (f st : Nat) : noR L (f + 1) st = if L.length < st + 2 then none else if kP L st 2 < 3 then some (kP L st 2, st + 2) else match noR L f (st + 2) with
 | none => none
 | some (k, st') => some (3 + k, st') := by rw [noR] <;> rfl
def aGI (w : aLl) (lo hi : Nat) (l : List UInt8) (o : Option (Nat × Nat)) (r : aLm) : Prop := match o with
 | none => r = .tuple #[.int .i64 0, .int .i64 10]
 | some (v, st) => r = .tuple #[.int .i64 v, .int .i64 0] /\ Fwd w lo hi l st
theorem aGd {l : List UInt8} {lo hi st left : Nat} {w : aLl} (h : Fwd w lo hi l st) (hlh : lo <= hi) (hst : st <= 8 * l.length) (hl : l.length <= 1000000) (h0 : 0 < left) (h1 : left <= 32768) :
 aR pg DQ #[.pointer (some ⟨hi, 0, none⟩), .int .i64 left] w (fun r w' => aGI w' lo hi l (Wi (bK l) st left) r /\ aS w w' (fun y => y = hi)) := by
 refine acO ?_
 obtain ⟨m, hm, hm1, hm2, hf1, hf2, hf3⟩ := agC h0 h1
 unfold abS Iq
 have e1 : (left : Int) + 1 = ((left + 1 : Nat) : Int) := by omega
 simp (disch := omega) only [aC, bN, e1, aT, aA, jB, iI]
 refine (aFD (x := left + 1) (by omega) w).mono ?_
 rintro r w1 ⟨rfl, rfl⟩
 rw [hm]
 have e2 : ((m + 1 : Nat) : Int) - 1 = (m : Int) := by omega
 simp (disch := omega) only [dZ, e2, aT, mO, aIY, aA]
 refine (VI (n := m) h hlh (by omega) hst hl).mono ?_
 have hbl := nV l
 unfold Wi
 simp only [hm, aJZ]
 rintro r w2 (⟨hsh, rfl, hf, x2⟩ | ⟨hsh, rfl, hf, x2⟩)
 .have n1 : ((10 : Int) != 0) = true := rfl
  rw [if_pos (by omega)]
  simp (disch := omega) only [Bc, A6, aA, fB, n1, aF]
  exact ⟨rfl, x2.mono fun _ _ h => h.elim⟩
 .have n1 : ((0 : Int) != 0) = false := rfl
  rw [if_neg (by omega)]
  have hlt := EU (bK l) st m
  have hnum : wA (((bK l).drop st).take m) = kP (bK l) st m := rfl
  rw [hnum]
  have hsh1 := awN (n := m + 1) (by omega)
  have hsh0 := awN (n := m) (by omega)
  have hp : 2 ^ m <= 2 ^ 16 := aJa (by omega) hm2
  generalize kP (bK l) st m = low at *
  rw [hf3] at *
  generalize hq : 2 ^ m = q at *
  have e3 : ((2 * q : Nat) : Int) - 2 - (left : Int) = ((2 * q - 2 - left : Nat) : Int) := by omega
  by_cases hfr : low < 2 * q - 2 - left
  .have d1 : decide ((low : Int) < ((2 * q - 2 - left : Nat) : Int)) = true := by simp only [decide_eq_true_eq]; omega
   rw [if_pos hfr]
   simp (disch := omega) only [Bc, A6, hsh1, aT, e3, aA, fB, n1, aD, cR, bN, dZ, aW, d1, aF]
   exact ⟨⟨rfl, hf⟩, x2⟩
  .have d1 : decide ((low : Int) < ((2 * q - 2 - left : Nat) : Int)) = false := by simp only [decide_eq_false_iff_not]; omega
   rw [if_neg hfr]
   simp (disch := omega) only [Bc, A6, hsh1, aT, e3, aA, fB, n1, aD, cR, bN, dZ, aW, d1]
   refine (VI (n := 1) hf hlh (by omega) hsh hl).mono ?_
   rintro r w3 (⟨hs3, rfl, hf3, x3⟩ | ⟨hs3, rfl, hf3, x3⟩)
   .have n1 : ((10 : Int) != 0) = true := rfl
    rw [if_pos (by omega)]
    simp (disch := omega) only [Bc, A6, aA, fB, n1, aF]
    exact ⟨rfl, x2.seq (x3.mono fun _ _ h => h.elim)⟩
   .rw [if_neg (by omega)]
    have hnum : wA (((bK l).drop (st + m)).take 1) = kP (bK l) (st + m) 1 := rfl
    rw [hnum]
    by_cases hz : kP (bK l) (st + m) 1 = 0
    .have n2 : (((kP (bK l) (st + m) 1 : Nat) : Int) == 0) = true := by rw [hz] <;> rfl
     rw [if_pos hz]
     simp (disch := omega) only [Bc, A6, aA, fB, n1, aD, cK, n2, aF]
     exact ⟨⟨rfl, hf3⟩, x2.seq x3⟩
    .have n2 : (((kP (bK l) (st + m) 1 : Nat) : Int) == 0) = false := beq_eq_false_iff_ne.2 (by omega)
     have e4 : (low : Int) + (q : Int) - ((2 * q - 2 - left : Nat) : Int) = ((low + q - (2 * q - 2 - left) : Nat) : Int) := by omega
     rw [if_neg hz]
     simp (disch := omega) only [Bc, A6, hsh0, e4, aA, fB, n1, aD, cK, n2]
     exact ⟨⟨rfl, hf3⟩, x2.seq x3⟩
theorem aC7 {l : List UInt8} {lo hi st : Nat} {w : aLl} (h : Fwd w lo hi l st) (hlh : lo <= hi) (hst : st <= 8 * l.length) (hl : l.length <= 1000000) :
 aR pg Bk #[.pointer (some ⟨hi, 0, none⟩)] w (fun r w' => aGI w' lo hi l (noR (bK l) ((bK l).length + 1) st) r /\ aS w w' (fun y => y = hi)) := by
 refine Wx ?_
 have hbl := nV l
 unfold UG C8 EK Ec No ET Dy ER EE
 refine cC.rule (fun m (t : aLm) w' => ∃ k0 st' : Nat, t = .int .i64 k0 /\ noR (bK l) ((bK l).length + 1) st = (match noR (bK l) m st' with | none => none | some (k, s) => some (k0 + k, s)) /\ (bK l).length < 2 * m + st' /\ st' <= 8 * l.length /\ k0 <= 3 * st' /\ Fwd w' lo hi l st' /\ aS w w' (fun y => y = hi)) ((bK l).length + 1)
  ⟨0, st, rfl, by cases noR (bK l) ((bK l).length + 1) st with
    | none => rfl
    | some x => simp, by omega, hst, by omega, h, aS.refl _ _⟩ ?_
 rintro m t w1 ⟨k0, st', rfl, hr, hm, hs', hk0, hf, x1⟩
 obtain ⟨m, rfl⟩ : ∃ m', m = m' + 1 := ⟨m - 1, by omega⟩
 unfold zO
 refine (VI (n := 2) hf hlh (by omega) hs' hl).mono ?_
 rw [azF (bK l) m st'] at hr
 rintro r w2 (⟨hsh, rfl, hf2, x2⟩ | ⟨hsh, rfl, hf2, x2⟩)
 .have n1 : ((10 : Int) != 0) = true := rfl
  rw [if_pos (by omega)] at hr
  rw [hr]
  simp (disch := omega) only [aC, Bc, A6, aA, fB, n1, aF]
  exact ⟨rfl, x1.seq (x2.mono fun _ _ h => h.elim)⟩
 .have n1 : ((0 : Int) != 0) = false := rfl
  rw [if_neg (by omega)] at hr
  have hlt := EU (bK l) st' 2
  have hnum : wA (((bK l).drop st').take 2) = kP (bK l) st' 2 := rfl
  rw [hnum]
  generalize kP (bK l) st' 2 = x at *
  have e1 : (k0 : Int) + (x : Int) = ((k0 + x : Nat) : Int) := by omega
  by_cases h3 : x < 3
  .have d1 : decide ((x : Int) < 3) = true := by simp; omega
   rw [if_pos h3] at hr
   rw [hr]
   unfold Ad
   simp (disch := omega) only [aC, Bc, A6, aA, fB, n1, aD, cR, aT, aW, d1, aF, bN, e1]
   exact ⟨⟨rfl, hf2⟩, x1.seq x2⟩
  .have d1 : decide ((x : Int) < 3) = false := by simp; omega
   rw [if_neg h3] at hr
   simp (disch := omega) only [aC, Bc, A6, aA, fB, n1, aD, cR, aT, aW, d1, bN, e1]
   refine ⟨m, by omega, k0 + x, st' + 2, rfl, ?_, by omega, by omega, by omega, hf2, x1.seq x2⟩
   rw [hr]
   cases noR (bK l) m (st' + 2) with
   | none => rfl
   | some y =>
     obtain ⟨k, s⟩ := y
     have : x = 3 := by omega
     subst this
     simp; omega
def aBw (v : aLm) (o : Option (Nat × Nat)) (r : aLm) : Prop := match o with
 | none => ∃ st' : Nat, r = .tuple #[.agg #[v, .int .i64 st'], .int .i64 0, .int .i64 10]
 | some (x, st) => r = .tuple #[.agg #[v, .int .i64 st], .int .i64 x, .int .i64 0]
theorem aC5 {v : aLm} {L : List Bool} {st left : Nat} {w : aLl} (hs : Bl w v L) (hst : st <= L.length) (hl : L.length <= 10000000) (h0 : 0 < left) (h1 : left <= 32768) :
 aR pg JJ #[.agg #[v, .int .i64 st], .int .i64 left] w (fun r w' => aBw v (Wi L st left) r /\ aS w w' cI) := by
 refine amI ?_
 obtain ⟨m, hm, hm1, hm2, hf1, hf2, hf3⟩ := agC h0 h1
 obtain ⟨a, c, rfl, hc⟩ := Nk hs
 unfold arV PH
 refine gA fun w1 o1 x1 s1 => ?_
 refine Ak fun w2 o2 x2 s2 => ?_
 simp only [Value.cells] at o1
 have o1 := o1.ext x2 (fun h => h)
 have l1 := fX (off := 0) o1 (by simp)
 simp only [aI4, aIX, aI6] at l1
 have x02 : aS w w2 cI := x1.seq x2
 have e1 : (left : Int) + 1 = ((left + 1 : Nat) : Int) := by omega
 have hw1 : w.heap.size <= w.heap.size := aI9 _
 have hw2 : w.heap.size <= w1.heap.size := x1.size
 have hne : w.heap.size ≠ w1.heap.size := by omega
 obtain ⟨p1, hp1⟩ : ∃ p1, p1 = w.heap.size := ⟨_, rfl⟩
 obtain ⟨p2, hp2⟩ : ∃ p2, p2 = w1.heap.size := ⟨_, rfl⟩
 rw [<- hp1, <- hp2] at hne
 rw [<- hp1] at o1 l1 ⊢
 rw [<- hp2] at o2 hw2 ⊢
 simp (disch := omega) only [aC, bN, e1, aT, aA]
 refine (aGa (x := left + 1) (by omega) w2).mono ?_
 rintro r w3 ⟨rfl, rfl⟩
 rw [hm]
 have e2 : ((m + 1 : Nat) : Int) - 1 = (m : Int) := by omega
 simp (disch := omega) only [l1, dZ, e2, aT, aA]
 unfold Wi
 simp only [hm, aJZ]
 refine (VQ (n := m) (hs.ext x02 (bU _)) (by omega) hst hl).mono ?_
 have fin : ∀ (st' : Nat) (xv : Int) (ev : Int) (w' : aLl) (RR : aLm -> aLl -> Prop), cM w' p1 [.slice a L.length c, .int .i64 st'] -> cM w' p2 [.slice none 0 0, .int .i64 0] -> aS w w' cI →
     (∀ w'', aS w w'' cI -> RR (.tuple #[.agg #[.slice a L.length c, .int .i64 st'], .int .i64 xv, .int .i64 ev]) w'') →
     aC pg (aI 164 (.pointer (some ⟨p1, 0, none⟩))) w' fun t15 w => aC pg (aK 164 (.pointer (some ⟨p2, 0, none⟩)) t15) w fun _u w => mW pg 164 (.pointer (some ⟨p2, 0, none⟩)) w fun r0 => RR (.tuple #[r0, .int .i64 xv, .int .i64 ev]) w := by
  intro st' xv ev w' RR q1 q2 qx qk
  have l1 := fX (off := 0) q1 (by simp)
  simp only [aI4, aIX, aI6] at l1
  simp (disch := omega) only [aC, l1, aA]
  refine dJ q2 rfl (by simp [one]) (by simp) fun w6 o6 x6 s6 => ?_
  refine nJ o6 (by simp [aV]) ?_
  simp only [aV, aI2, aI3, aI4, aIX, aI6]
  exact qk _ (qx.new x6 hw2)
 have hx1 : w.heap.size <= p1 := by omega
 rintro r w4 ⟨⟨hsh, rfl⟩ | ⟨hsh, rfl⟩, x4⟩
 .have n1 : ((10 : Int) != 0) = true := rfl
  rw [if_pos (by omega)]
  simp (disch := omega) only [Kh, Ka, J3, aA, fB, cR, aT]
  refine dJ (o1.ext x4 (fun h => h)) rfl (by simp [one]) (by simp) fun w5 o5 x5 s5 => ?_
  simp only [aV, aI2, aI3] at o5
  simp (disch := omega) only [n1, aF]
  exact fin st 0 10 w5 (fun r w' => aBw (.slice a L.length c) none r /\ aS w w' cI) o5 ((o2.ext x4 (fun h => h)).ext x5 (by omega)) ((x02.seq x4).new x5 hx1) fun w6 x6 => ⟨⟨_, rfl⟩, x6⟩
 .have n1 : ((0 : Int) != 0) = false := rfl
  rw [if_neg (by omega)]
  have hlt := EU L st m
  have hsh1 : m + 1 <= 40 := by omega
  have hp : 2 ^ m <= 2 ^ 16 := aJa (by omega) hm2
  simp (disch := omega) only [Kh, Ka, J3, aA, fB, cR, aT]
  refine dJ (o1.ext x4 (fun h => h)) rfl (by simp [one]) (by simp) fun w5 o5 x5 s5 => ?_
  simp only [aV, aI2, aI3] at o5
  have x05 : aS w w5 cI := (x02.seq x4).new x5 hx1
  have o25 := (o2.ext x4 (fun h => h)).ext x5 (by omega)
  simp (disch := omega) only [n1, aD]
  refine (VO m (by omega) _).mono ?_
  rintro r w6 ⟨rfl, rfl⟩
  have hpow : ((2 ^ m : Nat) : Int) = (2 : Int) ^ m := by simp
  rw [<- hpow]
  generalize kP L st m = low at *
  rw [hf3] at *
  generalize hq : 2 ^ m = q at *
  have e3 : 2 * (q : Int) - 2 - (left : Int) = ((2 * q - 2 - left : Nat) : Int) := by omega
  by_cases hfr : low < 2 * q - 2 - left
  .have d1 : decide ((low : Int) < ((2 * q - 2 - left : Nat) : Int)) = true := by simp only [decide_eq_true_eq]; omega
   rw [if_pos hfr]
   have l5 := fX (off := 0) o5 (by simp)
   simp only [aI4, aIX, aI6] at l5
   simp (disch := omega) only [pX, aT, bN, aA, dZ, e3, aW, d1, l5, aF]
   refine dJ o25 rfl (by simp [one]) (by simp) fun w7 o7 x7 s7 => ?_
   refine nJ o7 (by simp [aV]) ?_
   simp only [aV, aI2, aI3, aI4, aIX, aI6]
   exact ⟨rfl, x05.new x7 hw2⟩
  .have d1 : decide ((low : Int) < ((2 * q - 2 - left : Nat) : Int)) = false := by simp only [decide_eq_false_iff_not]; omega
   rw [if_neg hfr]
   have l5 := fX (off := 0) o5 (by simp)
   simp only [aI4, aIX, aI6] at l5
   simp (disch := omega) only [pX, aT, bN, aA, dZ, e3, aW, d1, l5, aD]
   refine (VQ (n := 1) (hs.ext x05 (bU _)) (by omega) hsh hl).mono ?_
   rintro r w7 ⟨⟨hs3, rfl⟩ | ⟨hs3, rfl⟩, x7⟩
   .have n1 : ((10 : Int) != 0) = true := rfl
    rw [if_pos (by omega)]
    simp (disch := omega) only [Kh, Ka, J3, aA, fB, cK]
    refine dJ (o5.ext x7 (fun h => h)) rfl (by simp [one]) (by simp) fun w8 o8 x8 s8 => ?_
    simp only [aV, aI2, aI3] at o8
    simp (disch := omega) only [n1, aF]
    exact fin _ 0 10 w8 (fun r w' => aBw (.slice a L.length c) none r /\ aS w w' cI) o8 ((o25.ext x7 (fun h => h)).ext x8 (by omega)) ((x05.seq x7).new x8 hx1) fun w6 x6 => ⟨⟨_, rfl⟩, x6⟩
   .rw [if_neg (by omega)]
    have hb1 := EU L (st + m) 1
    simp (disch := omega) only [Kh, Ka, J3, aA, fB, cK]
    refine dJ (o5.ext x7 (fun h => h)) rfl (by simp [one]) (by simp) fun w8 o8 x8 s8 => ?_
    simp only [aV, aI2, aI3] at o8
    have x08 : aS w w8 cI := (x05.seq x7).new x8 hx1
    have o28 := (o25.ext x7 (fun h => h)).ext x8 (by omega)
    have l8 := fX (off := 0) o8 (by simp)
    simp only [aI4, aIX, aI6] at l8
    by_cases hz : kP L (st + m) 1 = 0
    .have n2 : (((kP L (st + m) 1 : Nat) : Int) == 1) = false := by rw [hz] <;> rfl
     rw [if_pos hz]
     simp (disch := omega) only [n1, l8, aA, n2, aD]
     refine dJ o28 rfl (by simp [one]) (by simp) fun w9 o9 x9 s9 => ?_
     refine nJ o9 (by simp [aV]) ?_
     simp only [aV, aI2, aI3, aI4, aIX, aI6]
     exact ⟨rfl, x08.new x9 hw2⟩
    .have n2 : (((kP L (st + m) 1 : Nat) : Int) == 1) = true := by rw [show kP L (st + m) 1 = 1 from by omega] <;> rfl
     have e4 : (low : Int) + (q : Int) - ((2 * q - 2 - left : Nat) : Int) = ((low + q - (2 * q - 2 - left) : Nat) : Int) := by omega
     rw [if_neg hz]
     simp (disch := omega) only [n1, l8, aA, n2, e4, aF, aD]
     refine dJ o28 rfl (by simp [one]) (by simp) fun w9 o9 x9 s9 => ?_
     refine nJ o9 (by simp [aV]) ?_
     simp only [aV, aI2, aI3, aI4, aIX, aI6]
     exact ⟨rfl, x08.new x9 hw2⟩
theorem aoI (L : List Bool) (sym f st left : Nat) (ps : List Int) : WD L sym (f + 1) st left ps = if left = 0 then .ok (ps, st) else match Wi L st left with
 | none => .error 10
 | some (v, st1) =>
   if v = 1 then match noR L (L.length + 1) st1 with
     | none => .error 10
     | some (k, st2) => if sym < ps.length + 1 + k then .error 11 else WD L sym f st2 left (ps ++ 0 :: List.replicate k 0)
   else if sym < ps.length + 1 then .error 11 else WD L sym f st1 (left - (dC ((v : Int) - 1)).toNat) (ps ++ [(v : Int) - 1]) := by rw [WD] <;> rfl
theorem avV (k : Nat) : (Builtin.zeroCells (Value.int .i64 0).cells k).toList = List.replicate k (Value.int .i64 0) := by
 apply aJ2
 .rw [aKh, sR, aKm]; simp [Value.cells]
 .intro i h1 h2
  simp [Builtin.zeroCells, Value.cells, Nat.mod_one]
theorem aGt {n m base : Nat} {ty : TypeId} {w : aLl} {v : aLm} {l : List aLm} (h : uD w base 1 v n l) (hb : base <= w.heap.size) (hn : (n + m) * 8 <= 140737488355328) {K : aLm -> aLl -> Prop}
 (hk : ∀ v' w', uD w' base 1 v' (n + m) (l ++ List.replicate m (.int .i64 0)) -> aS w w' (fun y => base <= y) -> K v' w') : aC pg (lF .append #[77, 3] ty [v, .int .i64 m]) w K :=
 aAs (i := Tryd.t3) (S := fun y => base <= y) Tryd.underlying77 Tryd.underlying3 Du rfl rfl rfl h (by decide) (by intro y hy; simp [Value.cells] at hy; subst hy; rfl) (fun b hbb => aJ7 hb hbb) (by omega) (by rw [show Tryd.t3.bytes = 8 from rfl]; omega) (by rw [show Tryd.t3.bytes = 8 from rfl]; omega)
  (fun v' w' o x => hk v' w' (by rw [<- avV]; exact o) x)
def adF (w : aLl) (base : Nat) (o : Except Int (Nat × List Int × Nat)) (r : aLm) : Prop := match o with
 | .error e => r = .tuple #[.agg #[.int .i64 0, .slice none 0 0], .int .i64 0, .int .i64 e]
 | .ok (log, ps, used) => ∃ v, r = .tuple #[.agg #[.int .i64 log, v], .int .i64 used, .int .i64 0] /\ uD w base 1 v ps.length (ps.map (Value.int .i64))
theorem Rc {p6 : Nat} {w0 w : aLl} {e : Int} (o6 : cM w p6 [.int .i64 0, .slice none 0 0]) (hx : aS w0 w cI) (hp : w0.heap.size <= p6) {RR : aLm -> aLl -> Prop}
 (hR : ∀ w', aS w0 w' cI -> RR (.tuple #[.agg #[.int .i64 0, .slice none 0 0], .int .i64 0, .int .i64 e]) w') :
 aC pg (aK 145 (.pointer (some ⟨p6, 0, none⟩)) (.agg #[.int .i64 0, .slice none 0 0])) w fun _u w => mW pg 145 (.pointer (some ⟨p6, 0, none⟩)) w fun r0 => RR (.tuple #[r0, .int .i64 0, .int .i64 e]) w := by
 refine fN o6 rfl (by simp [one]) (by simp) fun w6 o6 x6 s6 => ?_
 refine nF o6 (by simp [aV]) ?_
 simp only [aV, aI2, aI3, aI4, aIX, aI6]
 exact hR _ (hx.new x6 hp)
theorem aCY {l : List UInt8} {log lo hi p6 pc sym : Nat} {w0 w : aLl} {res : Except Int (List Int × Nat)} (hlh : lo <= hi) (hlp : w0.heap.size <= p6) (hl : l.length <= 1000000) (h6 : p6 < lo) (hhp : hi < pc) (hsym : sym <= 1000000) (hlog : log <= 15)
 (o6 : cM w p6 [.int .i64 0, .slice none 0 0]) (oc : cM w pc [.int .i64 log, .slice none 0 0]) (hf : Fwd w lo hi l 4) (h4 : 4 <= 8 * l.length) (hx : aS w0 w cI)
 (hres : WD (bK l) sym ((bK l).length + 1) 4 (2 ^ log) [] = res)
 {RR : aLm -> aLl -> Prop} (hE : ∀ e w', res = .error e -> aS w0 w' cI -> RR (.tuple #[.agg #[.int .i64 0, .slice none 0 0], .int .i64 0, .int .i64 e]) w')
 (hO : ∀ ps st v w', res = .ok (ps, st) -> uD w' w0.heap.size 1 v ps.length (ps.map (Value.int .i64)) -> aS w0 w' cI -> RR (.tuple #[.agg #[.int .i64 log, v], .int .i64 (((st + 7) / 8 : Nat)), .int .i64 0]) w') :
 Ch RR (.int .i64 sym) (.pointer (some ⟨p6, 0, none⟩)) (.pointer (some ⟨hi, 0, none⟩)) (.pointer (some ⟨pc, 0, none⟩)) (.int .i64 (2 ^ log : Nat)) w := by
 have hbl := nV l
 have hp15 : 2 ^ log <= 2 ^ 15 := aJa (by omega) hlog
 unfold Ch LZ ME
 have lpc := oc.lt
 refine cC.rule (fun m (t : aLm) w' => ∃ (st left : Nat) (ps : List Int) (v : aLm), t = .int .i64 left /\ WD (bK l) sym m st left ps = res /\ (bK l).length < m + st /\ st <= 8 * l.length /\ left <= 32768 /\ ps.length <= 1000000 /\
  cM w' p6 [.int .i64 0, .slice none 0 0] /\ cM w' pc [.int .i64 log, v] /\ uD w' (pc + 1) 1 v ps.length (ps.map (Value.int .i64)) /\ Fwd w' lo hi l st /\ aS w w' (fun y => y = hi ∨ pc <= y)) ((bK l).length + 1)
  ⟨4, 2 ^ log, [], _, rfl, hres, by omega, h4, by omega, by simp, o6, oc, uD.nil _ _ _, hf, aS.refl _ _⟩ ?_
 rintro m t w1 ⟨st, left, ps, v, rfl, hr, hm, hst, hleft, hpl, o61, oc1, ov, hf1, x1⟩
 have z1 := x1.size
 have hx0 := hx.size
 have hx1 : ∀ {w' : aLl}, aS w w' (fun y => y = hi ∨ pc <= y) -> aS w0 w' cI := fun h => hx.trans h fun b hb hh => by omega
 obtain ⟨m, rfl⟩ : ∃ m', m = m' + 1 := ⟨m - 1, by omega⟩
 rw [aoI] at hr
 obtain ⟨av, cv, hv⟩ := ov.len
 unfold DY KV
 by_cases h0 : left = 0
 .have d1 : decide ((0 : Int) < (left : Int)) = false := by simp; omega
  rw [if_pos h0] at hr
  subst hv
  have lc := gX (off := 0) (dT oc1) (by simp)
  have lc' := gX (off := 0) oc1 (by simp)
  simp only [aI4, aIX, aI6] at lc lc'
  unfold Ee
  simp (disch := omega) only [aC, dO, d1, dS, and_true, true_and, aA, lc, aD]
  refine (aC3 (hf1.ext (aS.dr w1 cI) (fun _ _ _ h => h) hlh) (by omega)).mono ?_
  rintro r w2 ⟨rfl, rfl⟩
  simp (disch := omega) only [lc, true_and]
  refine fN (dT o61) rfl (by simp [one]) (by simp) fun w6 o6 x6 s6 => ?_
  refine nF o6 (by simp [aV]) ?_
  simp only [aV, aI2, aI3, aI4, aIX, aI6]
  have x16 : aS w1 w6 (fun y => y = p6) := (aS.dr w1 _).seq x6
  have ov6 := ov.ext x16 (fun b hb h => by omega)
  refine hO ps st _ w6 hr.symm ⟨ov6.1, ?_⟩ ((hx1 x1).new x16 (by omega))
  rcases ov6.2 with h | ⟨b, c, rest, q1, q2, q3⟩
  .exact .inl h
  .exact .inr ⟨b, c, rest, q1, by omega, q3⟩
 .have d1 : decide ((0 : Int) < (left : Int)) = true := by simp; omega
  rw [if_neg h0] at hr
  simp (disch := omega) only [aC, dO, d1, aA, aF]
  unfold Lh T1 KL
  refine (aGd hf1 hlh hst hl (by omega) hleft).mono ?_
  rintro r w2 ⟨hv2, x2⟩
  have x12 : aS w w2 (fun y => y = hi ∨ pc <= y) := x1.seq (x2.mono fun y _ h => .inl h)
  have o62 := o61.ext x2 (by omega)
  have oc2 := oc1.ext x2 (by omega)
  have ov2 := ov.ext x2 (fun b hb h => by omega)
  have z2 := x2.size
  cases hval : Wi (bK l) st left with
  | none =>
    rw [hval] at hr hv2
    obtain rfl := hv2
    have n1 : ((10 : Int) != 0) = true := rfl
    simp (disch := omega) only [aC, Bc, A6, dF, aA, bC, aIZ, cF, fB, n1, aF]
    exact Rc (RR := RR) (e := 10) o62 (hx1 x12) hlp fun w' h => hE _ _ hr.symm h
  | some y =>
    obtain ⟨x, st1⟩ := y
    rw [hval] at hr hv2
    simp only at hr
    obtain ⟨rfl, hf2⟩ := hv2
    obtain ⟨b1, b2, b3⟩ := VS hval (by omega)
    have n1 : ((0 : Int) != 0) = false := rfl
    simp (disch := omega) only [aC, Bc, A6, dF, aA, bC, aIZ, cF, fB, n1, aD, dZ, aT, cK]
    refine (aoC _ _).mono ?_
    rintro r w3 ⟨rfl, rfl⟩
    have c1 := oc2.cell (off := 1)
    simp only [aI0, aI1] at c1
    have hpp : dC ((x : Int) - 1) <= left := by unfold dC; split <;> omega
    have hpn := nL (p := (x : Int) - 1) (by omega)
    obtain ⟨pq, hpq⟩ : ∃ pq : Nat, dC ((x : Int) - 1) = pq := ⟨(dC ((x : Int) - 1)).toNat, by omega⟩
    rw [hpq] at hr hpp ⊢
    rw [aIY] at hr
    have e1 : (left : Int) - (pq : Int) = ((left - pq : Nat) : Int) := by omega
    simp (disch := omega) only [dZ, e1, aT, aA, c1, aG]
    refine zD (cells := #[.int .i64 ((x : Int) - 1)]) (by decide) (by decide) (by kernel_rfl) fun w4 o4 x4 s4 => ?_
    have z4 := x4.size
    refine Fz (m := 1) (news := [.int .i64 ((x : Int) - 1)]) (ov2.ext x4 (fun _ _ h => h)) (o4.cl (off := 0) (l := [.int .i64 ((x : Int) - 1)]) (n := 1) rfl (fun i hi => by rw [aIZ])) (by simp [one]) (by omega) (by omega) fun v5 w5 o5 x5 => ?_
    have z5 := x5.size
    obtain ⟨av5, cv5, rfl⟩ := o5.len
    have oc5 := (oc2.ext x4 (fun h => h)).ext x5 (by omega)
    refine VW oc5 rfl (by simp) fun w6 oc6 x6 s6 => ?_
    simp only [aI2, aI3] at oc6
    have z6 := x6.size
    have ov6 := o5.ext x6 (fun b hb h => by omega)
    have x26 : aS w3 w6 (fun y => pc <= y) := ((x4.mono fun _ _ h => h.elim).seq (x5.mono fun y _ h => by omega)).seq (x6.mono fun y _ h => by omega)
    have x16 : aS w w6 (fun y => y = hi ∨ pc <= y) := x12.seq (x26.mono fun y _ h => .inr h)
    have o66 := o62.ext x26 (by omega)
    have hf6 := hf2.ext x26 (fun b _ _ => by omega) hlh
    have hsz : pc < w6.heap.size := oc6.lt
    rw [show (ps.map (Value.int .i64) ++ [Value.int .i64 ((x : Int) - 1)]) = (ps ++ [(x : Int) - 1]).map (Value.int .i64) from by simp] at ov6
    have hwl : IntKind.i64.wrap (left : Int) = left := aT (by omega) (by omega)
    have tail : ∀ (ps' : List Int) (st' left' : Nat) (a : Option Addr) (cc : Nat) (w' : aLl), (if sym < ps'.length then .error 11 else WD (bK l) sym m st' left' ps') = res -> ps'.length <= 10000000 -> left' <= 32768 -> st < st' -> st' <= 8 * l.length →
        cM w' p6 [.int .i64 0, .slice none 0 0] -> cM w' pc [.int .i64 log, .slice a ps'.length cc] -> uD w' (pc + 1) 1 (.slice a ps'.length cc) ps'.length (ps'.map (Value.int .i64)) -> Fwd w' lo hi l st' -> aS w w' (fun y => y = hi ∨ pc <= y) →
        Aw (fun _ _ _ _ aX w'' => ∃ m', m' < m + 1 /\ ∃ (st left : Nat) (ps : List Int) (v : aLm), aX = .int .i64 left /\ WD (bK l) sym m' st left ps = res /\ (bK l).length < m' + st /\ st <= 8 * l.length /\ left <= 32768 /\ ps.length <= 1000000 /\
         cM w'' p6 [.int .i64 0, .slice none 0 0] /\ cM w'' pc [.int .i64 log, v] /\ uD w'' (pc + 1) 1 v ps.length (ps.map (Value.int .i64)) /\ Fwd w'' lo hi l st /\ aS w w'' (fun y => y = hi ∨ pc <= y)) RR
         (.int .i64 sym) (.pointer (some ⟨p6, 0, none⟩)) (.pointer (some ⟨hi, 0, none⟩)) (.pointer (some ⟨pc, 0, none⟩)) (.int .i64 left') w' := by
     intro ps' st' left' a cc w' q1 q2 q3 q4 q5 q6 q7 q8 q9 q10
     have c1 := q7.cell (off := 1)
     simp only [aI0, aI1] at c1
     unfold Aw
     by_cases hgt : sym < ps'.length
     .have d1 : decide ((sym : Int) < (ps'.length : Int)) = true := by simp; omega
      rw [if_pos hgt] at q1
      simp (disch := omega) only [aC, bC, aIZ, dF, aA, cF, c1, aG, dU, dO, d1, jH, bM, if_true, aF, dH]
      exact Rc (RR := RR) (e := 11) q6 (hx1 q10) hlp fun w' h => hE _ _ q1.symm h
     .have d1 : decide ((sym : Int) < (ps'.length : Int)) = false := by simp; omega
      have d2 : decide ((left' : Int) < 0) = false := by simp
      rw [if_neg hgt] at q1
      simp (disch := omega) only [aC, bC, aIZ, dF, aA, cF, c1, aG, dU, dO, d1, dG, bM, aI5, if_false, bP, aW, d2, aD]
      exact ⟨m, by omega, st', left', ps', _, rfl, q1, by omega, q5, q3, by omega, q6, q7, q8, q9, q10⟩
    by_cases h1 : x = 1
    .subst h1
     have n2 : (((1 : Nat) : Int) - 1 == 0) = true := rfl
     obtain rfl : pq = 0 := by
      have : dC (((1 : Nat) : Int) - 1) = 0 := rfl
      omega
     rw [if_pos rfl] at hr
     simp (disch := omega) only [n2, aF]
     refine (aC7 hf6 hlh (by omega) hl).mono ?_
     rintro r w7 ⟨hv7, x7⟩
     have x17 : aS w w7 (fun y => y = hi ∨ pc <= y) := x16.seq (x7.mono fun y _ h => .inl h)
     have o67 := o66.ext x7 (by omega)
     have oc7 := oc6.ext x7 (by omega)
     have ov7 := ov6.ext x7 (fun b hb h => by omega)
     have z7 := x7.size
     cases hno : noR (bK l) ((bK l).length + 1) st1 with
     | none =>
       rw [hno] at hr hv7
       obtain rfl := hv7
       have n1 : ((10 : Int) != 0) = true := rfl
       simp (disch := omega) only [Bc, A6, aA, fB, n1, aF]
       exact Rc (RR := RR) (e := 10) o67 (hx1 x17) hlp fun w' h => hE _ _ hr.symm h
     | some y =>
       obtain ⟨k, st2⟩ := y
       rw [hno] at hr hv7
       simp only at hr
       obtain ⟨rfl, hf7⟩ := hv7
       obtain ⟨k1, k2, k3⟩ := apY hno
       have n1 : ((0 : Int) != 0) = false := rfl
       by_cases hgt : sym < k
       .have d1 : decide ((sym : Int) < (k : Int)) = true := by simp; omega
        rw [if_pos (by omega)] at hr
        simp (disch := omega) only [Bc, A6, aA, fB, n1, aD, dO, d1, aF]
        exact Rc (RR := RR) (e := 11) o67 (hx1 x17) hlp fun w' h => hE _ _ hr.symm h
       .have d1 : decide ((sym : Int) < (k : Int)) = false := by simp; omega
        have c7 := oc7.cell (off := 1)
        simp only [aI0, aI1] at c7
        simp (disch := omega) only [Bc, A6, aA, fB, n1, aD, dO, d1, c7, aG]
        refine aGt (m := k) ov7 (by omega) (by omega) fun v8 w8 o8 x8 => ?_
        obtain ⟨av8, cv8, rfl⟩ := o8.len
        have z8 := x8.size
        refine VW (oc7.ext x8 (by omega)) rfl (by simp) fun w9 oc9 x9 s9 => ?_
        simp only [aI2, aI3] at oc9
        have z9 := x9.size
        have x79 : aS w7 w9 (fun y => pc <= y) := (x8.mono fun y _ h => by omega).seq (x9.mono fun y _ h => by omega)
        have ov9 := o8.ext x9 (fun b hb h => by omega)
        have hlk : ps.length + 1 + k = (ps ++ 0 :: List.replicate k 0).length := by simp; omega
        have hmk : List.map (Value.int .i64) (ps ++ [((1 : Nat) : Int) - 1]) ++ List.replicate k (Value.int .i64 0) = (ps ++ 0 :: List.replicate k 0).map (Value.int .i64) := by simp
        rw [hmk, hlk] at ov9
        rw [hlk] at hr oc9
        refine tail _ st2 left _ _ w9 hr (by rw [<- hlk]; omega) hleft (by omega) (by omega) (o67.ext x79 (by omega)) oc9 ov9 (hf7.ext x79 (fun b _ _ => by omega) hlh) (x17.seq (x79.mono fun y _ h => .inr h))
    .have n2 : ((x : Int) - 1 == 0) = false := beq_eq_false_iff_ne.2 (by omega)
     rw [if_neg h1] at hr
     simp (disch := omega) only [n2, aD]
     rw [show ps.length + 1 = (ps ++ [(x : Int) - 1]).length from by simp] at hr ov6 oc6
     exact tail _ st1 _ _ _ w6 hr (by simp; omega) (by omega) b1 (by omega) o66 oc6 ov6 hf6 x16
theorem aA2 {bv : aLm} {l : List UInt8} {most : Int} {sym : Nat} {w : aLl} (hb : Bs w bv l) (hl : l.length <= 1000000) (hsym : sym <= 1000000) :
 aR pg Gw #[bv, .int .i64 most, .int .i64 sym] w (fun r w' => adF w' w.heap.size (yU (bK l) most sym) r /\ aS w w' cI) := by
 refine aiF ?_
 obtain ⟨RR, hRR⟩ : ∃ RR : aLm -> aLl -> Prop, RR = fun r w' => adF w' w.heap.size (yU (bK l) most sym) r /\ aS w w' cI := ⟨_, rfl⟩
 rw [<- hRR]
 have hbl := nV l
 unfold akQ I9 H7
 refine kI fun w1 o1 x1 s1 => ?_
 refine (awG (hb.ext x1 (bU _)) (by omega)).mono ?_
 rintro r w2 ⟨hi, rfl, hi1, hi2, hf2, x2⟩
 have z1 := x1.size
 have z2 := x2.size
 simp (disch := omega) only [aC, dF, aA]
 refine (VI (n := 4) hf2 hi1 (by omega) (by omega) hl).mono ?_
 rintro r w3 (⟨hsh, rfl, hf3, x3⟩ | ⟨hsh, rfl, hf3, x3⟩)
 .have n1 : ((10 : Int) != 0) = true := rfl
  have hrl : yU (bK l) most sym = .error 10 := by unfold yU; rw [if_pos (by omega)]
  rw [hrl] at hRR
  simp (disch := omega) only [Bc, A6, aA, fB, n1, aF]
  exact Rc (RR := RR) (e := 10) ((o1.ext x2 (fun h => h)).ext x3 (fun h => h)) ((x1.seq x2).seq x3) (aI9 _) fun w' h => by rw [hRR]; exact ⟨rfl, h⟩
 .have n1 : ((0 : Int) != 0) = false := rfl
  have hnum : wA (((bK l).drop 0).take 4) = kP (bK l) 0 4 := rfl
  have hlt := EU (bK l) 0 4
  have hrl : yU (bK l) most sym = (if most < ((kP (bK l) 0 4 + 5 : Nat) : Int) ∨ 15 < kP (bK l) 0 4 + 5 then .error 12 else match WD (bK l) sym ((bK l).length + 1) 4 (2 ^ (kP (bK l) 0 4 + 5)) [] with
   | .error e => .error e
   | .ok (ps, st) => .ok (kP (bK l) 0 4 + 5, ps, (st + 7) / 8)) := by unfold yU; rw [if_neg (by omega)] <;> rfl
  rw [hrl] at hRR
  rw [hnum]
  generalize kP (bK l) 0 4 = x at *
  have e1 : (x : Int) + 5 = ((x + 5 : Nat) : Int) := by omega
  have x03 : aS w w3 cI := (x1.seq x2).trans x3 fun b hb h => by omega
  have o13 := (o1.ext x2 (fun h => h)).ext x3 (by omega)
  simp (disch := omega) only [Bc, A6, aA, fB, n1, aD, cR, aT, bN, e1, nY]
  refine kI fun w4 o4 x4 s4 => ?_
  refine fN o4 rfl (by simp [one]) (by simp) fun w5 o5 x5 s5 => ?_
  simp only [aV, aI2, aI3] at o5
  have z3 := x3.size
  have z4 := x4.size
  have x05 : aS w w5 cI := (x03.seq x4).new x5 (by omega)
  have x35 : aS w3 w5 cI := x4.new x5 (by omega)
  have o15 := o13.ext x35 (fun h => h)
  have c5 := o5.cell (off := 0)
  simp only [aI0, aI1] at c5
  by_cases hmo : most < ((x + 5 : Nat) : Int)
  .have d1 : decide (most < ((x + 5 : Nat) : Int)) = true := by simpa using hmo
   rw [if_pos (.inl hmo)] at hRR
   simp (disch := omega) only [cP, aA, bZ, c5, aG, dO, d1, jH, bM, if_true, aF, dH]
   exact Rc (RR := RR) (e := 12) o15 x05 (aI9 _) fun w' h => by rw [hRR]; exact ⟨rfl, h⟩
  have d1 : decide (most < ((x + 5 : Nat) : Int)) = false := by simpa using hmo
  by_cases h15 : 15 < x + 5
  .have d2 : decide ((15 : Int) < ((x + 5 : Nat) : Int)) = true := by simp; omega
   rw [if_pos (.inr h15)] at hRR
   simp (disch := omega) only [cP, aA, bZ, c5, aG, dO, d1, dG, bM, aI5, if_false, bP, d2, mO, aIY, aF]
   exact Rc (RR := RR) (e := 12) o15 x05 (aI9 _) fun w' h => by rw [hRR]; exact ⟨rfl, h⟩
  have d2 : decide ((15 : Int) < ((x + 5 : Nat) : Int)) = false := by simp; omega
  rw [if_neg (by omega)] at hRR
  have hsh := awN (n := x + 5) (by omega)
  simp (disch := omega) only [cP, aA, bZ, c5, aG, dO, d1, dG, bM, aI5, if_false, bP, d2, mO, aIY, hsh, aD]
  have hl5 := o5.lt
  refine aCY (l := l) (w0 := w) (log := x + 5) (res := WD (bK l) sym ((bK l).length + 1) 4 (2 ^ (x + 5)) []) (lo := w1.heap.size) hi1 (aI9 _) hl (by omega) (by omega) hsym (by omega) o15 o5 (hf3.ext x35 (fun _ _ _ h => h) hi1) (by omega) x05 rfl ?_ ?_
  .intro e w' he hx
   rw [hRR, he]
   exact ⟨rfl, hx⟩
  .intro ps st v w' he ho hx
   rw [hRR, he]
   exact ⟨⟨v, rfl, ho⟩, hx⟩
end Go.Proofs.YtaggdjhhmbnhoaaDoor
namespace Go.Pu
open Go Go.En
theorem aoM {L : List Bool} {most : Int} {sym log used : Nat} {ps : List Int} (h : yU L most sym = .ok (log, ps, used)) : (ps.length <= 256 -> TO log ps) /\ (log : Int) <= most /\ ps.length <= sym := by
 unfold yU at h
 split at h
 .cases h
 .simp only at h
  split at h
  .cases h
  .rename_i h1 h2
   have hpow : ((2 ^ (kP L 0 4 + 5) : Nat) : Int) = (2 : Int) ^ (kP L 0 4 + 5) := by simp
   have hp := aJv (kP L 0 4 + 5)
   cases hr : WD L sym (L.length + 1) 4 (2 ^ (kP L 0 4 + 5)) [] with
   | error e => rw [hr] at h; cases h
   | ok x =>
     obtain ⟨p, st⟩ := x
     rw [hr] at h
     cases h
     have e0 : tX [] = 0 := rfl
     obtain ⟨q1, q2, q3, q4, q5⟩ := agN (tot := (2 : Int) ^ (kP L 0 4 + 5)) hr (by simp) (by rw [e0, hpow]; omega) (fun h => by omega)
     exact ⟨fun hs => ⟨by omega, by omega, q5, hs, q4, q1, q2⟩, by omega, q3⟩
theorem awX {L : List Bool} {sym : Nat} {e : Int} : ∀ {f st left : Nat} {ps : List Int}, WD L sym f st left ps = .error e -> e = 10 ∨ e = 11
 | 0, st, left, ps, h => by cases h; exact .inl rfl
 | f + 1, st, left, ps, h => by
   rw [WD] at h
   split at h
   .cases h
   .split at h
    .cases h; exact .inl rfl
    .split at h
     .split at h
      .cases h; exact .inl rfl
      .split at h
       .cases h; exact .inr rfl
       .exact awX h
     .split at h
      .cases h; exact .inr rfl
      .exact awX h
theorem agP {L : List Bool} {most : Int} {sym : Nat} {e : Int} (h : yU L most sym = .error e) : e ≠ 0 := by
 unfold yU at h
 split at h
 .cases h; decide
 .simp only at h
  split at h
  .cases h; decide
  .split at h
   .rename_i hr
    cases h
    rcases awX hr with h | h <;> omega
   .cases h
theorem aqK {L : List Bool} {sym : Nat} {out : List Int} {stE : Nat} : ∀ {f st left : Nat} {ps : List Int}, WD L sym f st left ps = .ok (out, stE) -> st <= L.length -> stE <= L.length
 | 0, st, left, ps, h, _ => by cases h
 | f + 1, st, left, ps, h, hst => by
   rw [WD] at h
   split at h
   .cases h; exact hst
   .rename_i h0
    cases hv : Wi L st left with
    | none => rw [hv] at h; cases h
    | some x =>
      obtain ⟨v, st1⟩ := x
      obtain ⟨v1, v2, v3⟩ := VS hv (by omega)
      rw [hv] at h
      simp only at h
      split at h
      .cases hn : noR L (L.length + 1) st1 with
       | none => rw [hn] at h; cases h
       | some y =>
         obtain ⟨k, st2⟩ := y
         rw [hn] at h
         simp only at h
         split at h
         .cases h
         .exact aqK h (apY hn).2.1
      .split at h
       .cases h
       .exact aqK h v2
theorem aqG {L : List Bool} {most : Int} {sym log used : Nat} {ps : List Int} (h : yU L most sym = .ok (log, ps, used)) : 8 * used <= L.length + 7 := by
 unfold yU at h
 split at h
 .cases h
 .simp only at h
  split at h
  .cases h
  .cases hr : WD L sym (L.length + 1) 4 (2 ^ (kP L 0 4 + 5)) [] with
   | error e => rw [hr] at h; cases h
   | ok x =>
     obtain ⟨p, st⟩ := x
     rw [hr] at h
     cases h
     have := aqK hr (by omega)
     omega
end Go.Pu
namespace Go.Proofs.YtaggdjhhmbnhoaaDoor
open Go Go.En Go.Pu
set_option maxRecDepth 4000
def F3 (w : aLl) (base : Nat) (T : Nat × List T3) (v : aLm) : Prop := (T = (0, []) /\ v = .agg #[.int .i64 0, .slice none 0 0]) ∨ ∃ b, Tbl w base b T.1 T.2 v
theorem F3.nil (w : aLl) (base : Nat) : F3 w base (0, []) (.agg #[.int .i64 0, .slice none 0 0]) := .inl ⟨rfl, rfl⟩
theorem F3.form {w : aLl} {base : Nat} {T : Nat × List T3} {v : aLm} (h : F3 w base T v) : ∃ a, v = .agg #[.int .i64 T.1, .slice a T.2.length T.2.length] := by
 rcases h with ⟨rfl, rfl⟩ | ⟨b, rfl, _⟩
 .exact ⟨_, rfl⟩
 .exact ⟨_, rfl⟩
theorem F3.ext {w w' : aLl} {base : Nat} {T : Nat × List T3} {v : aLm} {M : Nat -> Prop} (h : F3 w base T v) (x : aS w w' M) (hM : ∀ b, base <= b -> b < w.heap.size -> ¬ M b) : F3 w' base T v := by
 rcases h with h | ⟨b, h⟩
 .exact .inl h
 .have hb := h.2.1
  have hl := h.2.2.lt
  exact .inr ⟨b, h.ext x (hM b hb hl)⟩
theorem F3.lower {w : aLl} {base base' : Nat} {T : Nat × List T3} {v : aLm} (h : F3 w base T v) (hb : base' <= base) : F3 w base' T v := by
 rcases h with h | ⟨b, h1, h2, h3⟩
 .exact .inl h
 .exact .inr ⟨b, h1, by omega, h3⟩
def aDt (w : aLl) (base : Nat) (o : Except Int ((Nat × List T3) × Nat)) (r : aLm) : Prop := match o with
 | .error e => r = .tuple #[.agg #[.int .i64 0, .slice none 0 0], .int .i64 0, .int .i64 e]
 | .ok (T, n) => ∃ t, r = .tuple #[t, .int .i64 n, .int .i64 0] /\ F3 w base T t
def gY (a mode : Int) (l : List UInt8) (old : Nat × List T3) : Except Int ((Nat × List T3) × Nat) :=
 if a < 0 ∨ 2 < a ∨ mode < 0 ∨ 3 < mode then .error 1
 else if mode = 0 then .ok ((YC a, lQ (YC a) (gvP a)), 0)
 else if mode = 1 then match l with
  | [] => .error 10
  | x :: _ => if pP a < (x.toNat : Int) then .error 11 else .ok ((0, [((x.toNat : Nat), 0, 0)]), 1)
 else if mode = 3 then if old.2 = [] then .error 11 else .ok (old, 0)
 else match yU (bK l) (D1 a) (pP a + 1).toNat with
  | .error e => .error e
  | .ok (lg, ps, u) => .ok ((lg, lQ lg ps), u)
theorem Lp {p : Nat} {w0 w : aLl} {x : Int} {a : Option Addr} {k c : Nat} {n e : aLm} (o : cM w p [.int .i64 0, .slice none 0 0]) (hx : aS w0 w cI) (hp : w0.heap.size <= p) {RR : aLm -> aLl -> Prop}
 (hR : ∀ w', aS w0 w' cI -> aS w w' (fun y => y = p) -> RR (.tuple #[.agg #[.int .i64 x, .slice a k c], n, e]) w') :
 aC pg (aK 27 (.pointer (some ⟨p, 0, none⟩)) (.agg #[.int .i64 x, .slice a k c])) w fun _u w => mW pg 27 (.pointer (some ⟨p, 0, none⟩)) w fun r0 => RR (.tuple #[r0, n, e]) w := by
 refine eL o rfl (by simp [one]) (by simp) fun w6 o6 x6 s6 => ?_
 refine sL o6 (by simp [aV]) ?_
 simp only [aV, aI2, aI3, aI4, aIX, aI6]
 exact hR _ (hx.new x6 hp) x6
theorem MM {a : Int} (h : 0 <= a /\ a <= 2) : 28 <= pP a /\ pP a <= 60 := by
 unfold pP
 split
 .omega
 .split
  .omega
  .rw [if_pos (by omega)]; omega
theorem asE {a : Int} (h : ¬ (0 <= a /\ a <= 2)) : pP a = -1 := by
 unfold pP
 rw [if_neg (by omega), if_neg (by omega), if_neg (by omega)]
theorem aCb {a mode : Int} {bv ov : aLm} {l : List UInt8} {T : Nat × List T3} {base : Nat} {w : aLl} (hg : vW w) (hb : Bs w bv l) (hl : mode = 2 -> l.length <= 1000000) (ho : F3 w base T ov) (hbase : base <= w.heap.size) (hlb : l.length <= 9223372036854775807) (hT : T.2.length <= 1000000) :
 aR pg BI #[.int .i64 a, .int .i64 mode, bv, ov] w (fun r w' => aDt w' base (gY a mode l T) r /\ aS w w' cI) := by
 refine aeW ?_
 obtain ⟨RR, hRR⟩ : ∃ RR : aLm -> aLl -> Prop, RR = fun r w' => aDt w' base (gY a mode l T) r /\ aS w w' cI := ⟨_, rfl⟩
 rw [<- hRR]
 obtain ⟨oa, rfl⟩ := ho.form
 obtain ⟨ba, bc, rfl, _⟩ := hb.len
 rw [aJb] at hb
 rw [aJb]
 unfold akE Lz
 refine gA fun w1 o1 x1 s1 => ?_
 simp only [Value.cells] at o1
 refine kD fun w2 o2 x2 s2 => ?_
 have x12 := x1.seq x2
 have z2 := x12.size
 refine (awH (hg.ext x12)).mono ?_
 rintro r w3 ⟨rfl, x3⟩
 have o1 := (o1.ext x2 (fun h => h)).ext x3 (fun h => h)
 have o2 := o2.ext x3 (fun h => h)
 have x13 := x12.seq x3
 have z3 := x3.size
 have hg3 := hg.ext x13
 have err : ∀ {e : Int} {w' : aLl}, gY a mode l T = .error e -> aS w w' cI -> RR (.tuple #[.agg #[.int .i64 0, .slice none 0 0], .int .i64 0, .int .i64 e]) w' := fun h x => by
  rw [hRR]; refine ⟨?_, x⟩; rw [h] <;> rfl
 have good : ∀ {T' : Nat × List T3} {n : Nat} {w' : aLl} {t : aLm}, gY a mode l T = .ok (T', n) -> F3 w' base T' t -> aS w w' cI -> RR (.tuple #[t, .int .i64 n, .int .i64 0]) w' := fun h ht x => by
  rw [hRR]; refine ⟨?_, x⟩; rw [h]; exact ⟨_, rfl, ht⟩
 by_cases ha : 0 <= a /\ a <= 2
 rotate_left
 .have d1 : decide (pP a < 0) = true := by rw [asE ha] <;> rfl
  have hE : gY a mode l T = .error 1 := by unfold gY; rw [if_pos (by omega)]
  simp (disch := omega) only [aC, aW, d1, eT, aA, cK, fH, bR, aIZ, cW, bN, jH, bM, if_true, aF, dH]
  exact Lp o2 x13 (by omega) fun w' x _ => err hE x
 obtain ⟨hl1, hl2⟩ := MM ha
 have d1 : decide (pP a < 0) = false := by simp; omega
 by_cases hm0 : mode < 0
 .have d2 : decide (mode < 0) = true := by simp; omega
  have hE : gY a mode l T = .error 1 := by unfold gY; rw [if_pos (by omega)]
  simp (disch := omega) only [aC, aW, d1, eT, aA, cK, fH, bR, aIZ, cW, bN, aT, dG, bM, aI5, if_false, bP, d2, jH, if_true, aF, dH]
  exact Lp o2 x13 (by omega) fun w' x _ => err hE x
 have d2 : decide (mode < 0) = false := by simp; omega
 by_cases hm3 : 3 < mode
 .have d3 : decide (3 < mode) = true := by simp; omega
  have hE : gY a mode l T = .error 1 := by unfold gY; rw [if_pos (by omega)]
  simp (disch := omega) only [aC, aW, d1, eT, aA, cK, fH, bR, aIZ, cW, bN, aT, dG, bM, aI5, if_false, bP, d2, dO, d3, aF]
  exact Lp o2 x13 (by omega) fun w' x _ => err hE x
 have d3 : decide (3 < mode) = false := by simp; omega
 have hno : ¬ (a < 0 ∨ 2 < a ∨ mode < 0 ∨ 3 < mode) := by omega
 by_cases m0 : mode = 0
 .subst m0
  have n1 : ((0 : Int) == 0) = true := rfl
  have hE : gY a 0 l T = .ok ((YC a, lQ (YC a) (gvP a)), 0) := by unfold gY; rw [if_neg hno, if_pos rfl]
  simp (disch := omega) only [aC, aW, d1, eT, aA, cK, n1, fH, bR, aIZ, cW, bN, aT, aF, dG, bM, aI5, if_false, bP, d2, dO, d3, aD]
  refine (atJ hg3).mono ?_
  rintro r w4 ⟨t, e, rfl, ht, x4⟩
  unfold Nt wY at ht
  rw [if_pos (by omega)] at ht
  obtain ⟨⟨b, ht, hb1, ob⟩, rfl⟩ := ht
  subst ht
  have z4 := x4.size
  simp (disch := omega) only [Bc, A6, aA]
  refine kD fun w5 o5 x5 s5 => ?_
  refine eL o5 rfl (by simp [one]) (by simp) fun w6 o6 x6 s6 => ?_
  have l1 := fZ (off := 0) o6 (by simp [aV])
  simp only [aV, aI2, aI3, aI4, aIX, aI6] at l1
  have hbl := ob.lt
  simp (disch := omega) only [l1, aA]
  have x46 : aS w3 w6 cI := x4.seq (x5.new x6 (aI9 _))
  refine Lp (o2.ext x46 (fun h => h)) (x13.seq x46) (by omega) fun w' x x7 => good hE (.inr ⟨b, rfl, by omega, ?_⟩) x
  exact ((ob.ext x5 (fun h => h)).ext x6 (by omega)).ext x7 (by omega)
 have n1 : (mode == 0) = false := beq_eq_false_iff_ne.2 m0
 by_cases m1 : mode = 1
 .subst m1
  have n2 : ((1 : Int) == 1) = true := rfl
  cases l with
  | nil =>
    have hE : gY a 1 [] T = .error 10 := by unfold gY; rw [if_neg hno, if_neg (by omega), if_pos rfl]
    have n3 : ((0 : Int) == 0) = true := rfl
    have e0 : ((([] : List UInt8).length : Nat) : Int) = 0 := rfl
    simp (disch := omega) only [aC, aW, d1, eT, aA, cK, n1, n2, fH, e0, n3, aF, bR, aIZ, cW, bN, aT, aD, dG, bM, aI5, if_false, bP, d2, dO, d3]
    exact Lp o2 x13 (by omega) fun w' x _ => err hE x
  | cons y l =>
    have n3 : ((((y :: l).length : Nat) : Int) == 0) = false := by simp; omega
    obtain ⟨b, off, c, hv, _, hcell⟩ := (hb.ext x13 (bU _)).openV (by simp)
    have g1 := hcell 0 (by simp)
    simp only [aKz, aKB, aJV] at g1
    simp only [aJb, Value.slice.injEq] at hv
    obtain ⟨rfl, _, rfl⟩ := hv
    have t0 : (0 : Int).toNat = 0 := rfl
    have g0 : (w3.cell? ⟨b, off, none⟩) = some (.int .u8 (y.toNat : Nat)) := g1
    have hy := y.toNat_lt
    have hpos : (0 : Int) < ((y :: l).length : Nat) := by rw [aJo]; omega
    by_cases hyl : pP a < (y.toNat : Int)
    .have d4 : decide (pP a < (y.toNat : Int)) = true := by simpa using hyl
     have hE : gY a 1 (y :: l) T = .error 11 := by unfold gY; rw [if_neg hno, if_neg (by omega), if_pos rfl]; exact if_pos hyl
     simp (disch := omega) only [aC, aW, d1, eT, aA, cK, n1, n2, fH, mJ, t0, aJV, kJ, n3, aD, bR, aIZ, cW, bN, aT, aF, dG, bM, aI5, if_false, bP, d2, dO, d3, g0, aG, kX, d4]
     exact Lp o2 x13 (by omega) fun w' x _ => err hE x
    .have d4 : decide (pP a < (y.toNat : Int)) = false := by simpa using hyl
     have hE : gY a 1 (y :: l) T = .ok ((0, [((y.toNat : Nat), 0, 0)]), 1) := by unfold gY; rw [if_neg hno, if_neg (by omega), if_pos rfl]; exact if_neg hyl
     simp (disch := omega) only [aC, aW, d1, eT, aA, cK, n1, n2, fH, mJ, t0, aJV, kJ, n3, aD, bR, aIZ, cW, bN, aT, aF, dG, bM, aI5, if_false, bP, d2, dO, d3, g0, aG, kX, d4]
     refine (ayW (y.toNat : Nat) _).mono ?_
     rintro r w4 ⟨b, ⟨rfl, hb1, ob⟩, x4⟩
     have z4 := x4.size
     have hbl := ob.lt
     refine Lp (o2.ext x4 (fun h => h)) (x13.seq x4) (by omega) fun w' x x7 => good hE (.inr ⟨b, rfl, by omega, ?_⟩) x
     exact ob.ext x7 (by omega)
 have n2 : (mode == 1) = false := beq_eq_false_iff_ne.2 m1
 by_cases m3 : mode = 3
 .subst m3
  have n3 : ((3 : Int) == 3) = true := rfl
  have c1 := o1.cell (off := 1)
  simp only [aI0, aI1] at c1
  have l1 := fZ (off := 0) o1 (by simp)
  simp only [aI4, aIX, aI6] at l1
  by_cases h0 : T.2 = []
  .have n4 : (((T.2.length : Nat) : Int) == 0) = true := by rw [h0] <;> rfl
   have hE : gY a 3 l T = .error 11 := by unfold gY; rw [if_neg hno, if_neg (by omega), if_neg (by omega), if_pos rfl, if_pos h0]
   simp (disch := omega) only [aC, aW, d1, eT, aA, cK, n1, n2, fH, n3, bR, aIZ, cW, bN, aT, aF, aD, dG, bM, aI5, if_false, bP, d2, dO, d3, c1, aG, fK, n4]
   exact Lp o2 x13 (by omega) fun w' x _ => err hE x
  .have n4 : (((T.2.length : Nat) : Int) == 0) = false := by
    have := aJR.2 h0
    simp; exact h0
   have hE : gY a 3 l T = .ok (T, 0) := by unfold gY; rw [if_neg hno, if_neg (by omega), if_neg (by omega), if_pos rfl, if_neg h0]
   simp (disch := omega) only [aC, aW, d1, eT, aA, cK, n1, n2, fH, n3, bR, aIZ, cW, bN, aT, aF, aD, dG, bM, aI5, if_false, bP, d2, dO, d3, c1, aG, fK, n4, l1]
   refine Lp o2 x13 (by omega) fun w' x x7 => good hE ?_ x
   rcases ho with ⟨e, _⟩ | ⟨b, e, hb1, ob⟩
   .rw [e] at h0; exact absurd rfl h0
   .have hbl := ob.lt
    exact .inr ⟨b, e, hb1, (ob.ext x13 (fun h => h)).ext x7 (by omega)⟩
 have n3 : (mode == 3) = false := beq_eq_false_iff_ne.2 m3
 have m2 : mode = 2 := by omega
 have hl2 := hl m2
 simp (disch := omega) only [aC, aW, d1, eT, aA, cK, n1, n2, fH, n3, bR, aIZ, cW, bN, aT, aD, dG, bM, aI5, if_false, bP, d2, dO, d3]
 refine (awF a _).mono ?_
 rintro r w4 ⟨rfl, hw⟩
 rw [hw]
 clear hw w4
 have e1 : pP a + 1 = ((pP a + 1).toNat : Int) := by omega
 rw [e1]
 refine (aA2 (hb.ext x13 (bU _)) hl2 (by omega)).mono ?_
 rintro r w4 ⟨hr, x4⟩
 have z4 := x4.size
 have hsym : (pP a + 1).toNat <= 61 := by omega
 have hE0 : gY a mode l T = match yU (bK l) (D1 a) (pP a + 1).toNat with
  | .error e => .error e
  | .ok (lg, ps, u) => .ok ((lg, lQ lg ps), u) := by unfold gY; rw [if_neg hno, if_neg m0, if_neg m1, if_neg m3]
 cases hrl : yU (bK l) (D1 a) (pP a + 1).toNat with
 | error e =>
   rw [hrl] at hr hE0
   have hr : r = _ := hr
   subst hr
   have he := agP hrl
   have n4 : (e != 0) = true := by simpa using he
   have hE : gY a mode l T = .error e := hE0
   simp (disch := omega) only [Kh, Ka, J3, aA, fB]
   refine kI fun w5 o5 x5 s5 => ?_
   refine fN o5 rfl (by simp [one]) (by simp) fun w6 o6 x6 s6 => ?_
   simp (disch := omega) only [n4, aF]
   have x46 : aS w3 w6 cI := x4.seq (x5.new x6 (aI9 _))
   exact Lp (o2.ext x46 (fun h => h)) (x13.seq x46) (by omega) fun w' x _ => err hE x
 | ok y =>
   obtain ⟨lg, ps, u⟩ := y
   rw [hrl] at hr hE0
   obtain ⟨v, rfl, hv⟩ := hr
   obtain ⟨hmay, hlg, hpl⟩ := aoM hrl
   have hm := hmay (by omega)
   have hE : gY a mode l T = .ok ((lg, lQ lg ps), u) := hE0
   obtain ⟨va, vc, rfl⟩ := hv.len
   have hs := hv.sl
   have n4 : ((0 : Int) != 0) = false := rfl
   simp (disch := omega) only [Kh, Ka, J3, aA, fB]
   refine kI fun w5 o5 x5 s5 => ?_
   refine fN o5 rfl (by simp [one]) (by simp) fun w6 o6 x6 s6 => ?_
   have l1 := gX (off := 0) o6 (by simp [aV])
   simp only [aV, aI2, aI3, aI4, aIX, aI6] at l1
   have x46 : aS w4 w6 cI := x5.new x6 (aI9 _)
   have z6 := x46.size
   simp (disch := omega) only [n4, l1, aA, aD]
   refine (aoF hm (hs.ext x46 (bU _))).mono ?_
   rintro r w7 ⟨b, t, rfl, ⟨rfl, hb1, ob⟩, x7⟩
   have z7 := x7.size
   have hbl := ob.lt
   simp (disch := omega) only [Bc, A6, aA, fB]
   refine kD fun w8 o8 x8 s8 => ?_
   refine eL o8 rfl (by simp [one]) (by simp) fun w9 o9 x9 s9 => ?_
   have l2 := fZ (off := 0) o9 (by simp [aV])
   simp only [aV, aI2, aI3, aI4, aIX, aI6] at l2
   simp (disch := omega) only [n4, l2, aA, aD]
   have x49 : aS w3 w9 cI := ((x4.seq x46).seq x7).seq (x8.new x9 (aI9 _))
   refine Lp (o2.ext x49 (fun h => h)) (x13.seq x49) (by omega) fun w' x x10 => good hE (.inr ⟨b, rfl, by omega, ?_⟩) x
   exact ((ob.ext x8 (fun h => h)).ext x9 (by omega)).ext x10 (by omega)
theorem aCN {log k : Nat} (h15 : log <= 15) (hk1 : 1 <= k) (hk2 : k < 2 ^ (log + 1)) {w0 w : aLl} {p1 : Nat} {sv t2 n5 t6 seen i15 : aLm} (o1 : cM w p1 [.int .i64 log, sv])
 {k12 : aLm -> aLm -> aLm -> aLm -> aLm -> aLm -> aLm -> aLm -> aLl -> Prop}
 (hR : k12 (.pointer (some ⟨p1, 0, none⟩)) t2 n5 t6 seen i15 (.int .i64 k) (.int .i64 ((log + 1 - bl k : Nat) : Int)) w) :
 EC k12 (.pointer (some ⟨p1, 0, none⟩)) t2 n5 t6 seen i15 (.int .i64 k) (.int .i64 log) w := by
 have hb1 := HL (k := k) (by omega)
 have hb2 := tR hk2
 have hlt := W9 k
 have hle := Vg (k := k) (by omega)
 have c0 := o1.cell (off := 0)
 simp only [aI0] at c0
 unfold EC
 refine cC.rule (fun m t w' => ∃ q : Nat, m = log - q /\ t = .int .i64 ((log - q : Nat) : Int) /\ q + 1 <= bl k /\ w' = w) log ⟨0, rfl, rfl, by omega, rfl⟩ ?_
 rintro m t w' ⟨q, rfl, rfl, hq, rfl⟩
 have e1 : (log : Int) - ((log - q : Nat) : Int) + 1 = ((q + 1 : Nat) : Int) := by omega
 have hw : IntKind.i64.wrap ((log : Int) - ((log - q : Nat) : Int)) = (log : Int) - ((log - q : Nat) : Int) := aT (by omega) (by omega)
 unfold DP
 simp (disch := omega) only [aC, bW, dZ, aT, aA, bZ, c0, aG, hw, bN, e1]
 refine (VO (q + 1) (by omega) _).mono ?_
 rintro r w1 ⟨rfl, rfl⟩
 have hpw : ((2 ^ (q + 1) : Nat) : Int) = (2 : Int) ^ (q + 1) := by simp
 rw [<- hpw]
 by_cases hc : 2 ^ (q + 1) <= k
 .have d1 : decide (((2 ^ (q + 1) : Nat) : Int) <= (k : Int)) = true := by simp only [decide_eq_true_eq]; omega
  have hq2 : q + 2 <= bl k := by
   rcases aJl (q + 1) (bl k) with h | h
   .exact h
   .have : bl k = q + 1 := by omega
    rw [this] at hlt; omega
  simp (disch := omega) only [ZH, d1, aA, and_true, aF]
  exact ⟨log - (q + 1), by omega, q + 1, rfl, by congr 1; omega, hq2⟩
 .have d1 : decide (((2 ^ (q + 1) : Nat) : Int) <= (k : Int)) = false := by simp only [decide_eq_false_iff_not]; omega
  have : bl k = q + 1 := by
   have := tR (k := k) (n := q + 1) (by omega)
   omega
  rw [this, show log + 1 - (q + 1) = log - q from by omega] at hR
  simp (disch := omega) only [ZH, d1, aA, and_true, aD]
  exact hR
theorem aDL {N high j : Nat} (hN : 0 < N) (hN2 : N <= 32768) (hh : 0 < high) (hhN : high <= N) {w : aLl} {c1 t2 t6 s k : aLm}
 {k8 : aLm -> aLm -> aLm -> aLm -> aLm -> aLm -> aLm -> aLm -> aLl -> Prop}
 (hR : k8 c1 t2 (.int .i64 N) t6 (.int .i64 ((high : Int) - 1)) (.int .i64 (adB N high N (pos N j) : Nat)) s k w) :
 Ca k8 c1 t2 (.int .i64 N) t6 (.int .i64 ((high : Int) - 1)) (.int .i64 (pos N j : Nat)) s k (.int .i64 0) w := by
 obtain ⟨d, h1, h2, h3⟩ := VZ hN hh j
 have hd : d < N := by
  obtain ⟨D, hD, h0⟩ := aB5 N j hN
  rcases aJl d N with h | h
  .exact h
  .have := h1 D (by omega)
   omega
 rw [h3] at hR
 unfold Ca
 refine cC.rule (fun m t w' => ∃ q : Nat, m = d - q /\ t = (.int .i64 (pos N (j + q) : Nat), .int .i64 q) /\ q <= d /\ w' = w) d ⟨0, rfl, rfl, by omega, rfl⟩ ?_
 rintro m t w' ⟨q, rfl, rfl, hq, rfl⟩
 have hp := arB hN (j + q)
 have d1 : decide ((q : Int) < (N : Int)) = true := by simp only [decide_eq_true_eq]; omega
 have e1 : (N : Int).tdiv 2 = ((N / 2 : Nat) : Int) := by rw [aJs (by omega)]; omega
 have e3 : (N : Int).tdiv 8 = ((N / 8 : Nat) : Int) := by rw [aJs (by omega)]; omega
 have e4 : (((pos N (j + q) : Nat) : Int) + ((N / 2 : Nat) : Int) + ((N / 8 : Nat) : Int) + 3).tmod (N : Int) = ((pos N (j + q + 1) : Nat) : Int) := by
  rw [aJt (by omega), <- JS]
  unfold adv
  simp
 unfold Cm
 by_cases hqd : q < d
 .have := h1 q hqd
  have d2 : decide ((high : Int) - 1 < ((pos N (j + q) : Nat) : Int)) = true := by simp only [decide_eq_true_eq]; omega
  simp (disch := omega) only [aC, aW, d1, zX, e1, aT, e3, bN, aA, yV, e4, mU, bM, if_true, bP, dO, d2, and_true, aF]
  exact ⟨d - (q + 1), by omega, q + 1, rfl, rfl, by omega⟩
 .have : q = d := by omega
  subst this
  have d2 : decide ((high : Int) - 1 < ((pos N (j + q) : Nat) : Int)) = false := by simp only [decide_eq_false_iff_not]; omega
  simp (disch := omega) only [aC, aW, d1, zX, aT, bN, aA, yV, mU, bM, if_true, bP, dO, d2, and_true, aD]
  exact hR
theorem atK {k : IntKind} {L : List Int} {rest : List aLm} {i : Nat} (h : i < L.length) (x : Int) : (fe k (m3 L) ++ rest).set (i * 3) (.int k x) = fe k (m3 (L.set i x)) ++ rest := by
 rw [aKx _ _ (by rw [lY]; simp [m3]; omega), aoW h]
theorem aDz {log N high cc p1 p6 b : Nat} {ps : List Int} {sv t2 : aLm} {arr arr' : List Int} {rest : List aLm} {w0 w : aLl} (hm : TO log ps) (hs : Sl w0 sv (ps.map (Value.int .i64))) (hx : aS w0 w cI)
 (hN2 : N <= 32768) (hcc : N <= cc) (harr : arr.length = N) (hng : (uL ps 0).length <= N) (ht : Yu ps 0 N arr = (high, arr')) (hlo : w0.heap.size <= b) (hne : p1 ≠ b /\ p6 ≠ b)
 (o1 : cM w p1 [.int .i64 log, sv]) (o6 : cM w p6 [.int .i64 log, .slice (some ⟨b, 0, none⟩) N cc]) (ob : cM w b (fe .i64 (m3 arr) ++ rest))
 {k2 : aLm -> aLm -> aLm -> aLm -> aLm -> aLl -> Prop}
 (hR : ∀ w', cM w' b (fe .i64 (m3 arr') ++ rest) -> aS w w' (fun y => y = b) -> k2 (.pointer (some ⟨p1, 0, none⟩)) t2 (.int .i64 N) (.pointer (some ⟨p6, 0, none⟩)) (.int .i64 ((high : Int) - 1)) w') :
 Ck k2 (.pointer (some ⟨p1, 0, none⟩)) t2 (.int .i64 N) (.pointer (some ⟨p6, 0, none⟩)) (.int .i64 ((N : Int) - 1)) (.int .i64 0) w := by
 have hlen := hm.len256
 obtain ⟨a, c, rfl, hc⟩ := hs.lenI
 unfold Ck
 refine cC.rule (fun m t w' => ∃ (i hg : Nat) (ar : List Int), m = ps.length - i /\ t = (.int .i64 ((hg : Int) - 1), .int .i64 i) /\ i <= ps.length /\ (uL (ps.drop i) i).length <= hg /\ hg <= N /\ ar.length = N /\ Yu (ps.drop i) i hg ar = (high, arr') /\ cM w' b (fe .i64 (m3 ar) ++ rest) /\ aS w w' (fun y => y = b)) ps.length
  ⟨0, N, arr, rfl, rfl, by omega, by rw [aI4]; exact hng, by omega, harr, by rw [aI4]; exact ht, ob, aS.refl _ _⟩ ?_
 rintro m t w3 ⟨i, hg, ar, rfl, rfl, hi, hng, hgN, harr, htop, o3, x3⟩
 have c1 := (o1.ext x3 hne.1).cell (off := 1)
 have c6 := (o6.ext x3 hne.2).cell (off := 1)
 simp only [aI0, aI1] at c1 c6
 unfold Cq HV
 by_cases hlt : i < ps.length
 .have d1 : decide ((i : Int) < (ps.length : Int)) = true := by simp; omega
  obtain ⟨b', off', c', e, _, hcell⟩ := (hs.ext (hx.new x3 hlo) (bU _)).openI (by omega)
  cases e
  have g1 := hcell i hlt
  have hd : ps.drop i = ps[i] :: ps.drop (i + 1) := aJC hlt
  have hlow := hm.low _ (aJh hlt)
  rw [hd, uL] at hng
  rw [hd, Yu] at htop
  by_cases hp : ps[i] = -1
  .have d2 : decide (ps[i] < 0) = true := by simp; omega
   rw [if_pos hp] at hng htop
   simp only [aJo] at hng
   have e1 : (hg : Int) - 1 = ((hg - 1 : Nat) : Int) := by omega
   have e2 : IntKind.i64.wrap (((hg - 1 : Nat) : Int) - 1) = ((hg - 1 : Nat) : Int) - 1 := aT (by omega) (by omega)
   rw [e1]
   simp (disch := omega) only [aC, aU, aIZ, bF, dZ, aT, aA, bA, cF, c1, aG, dU, aW, d1, dB, aIY, bZ, g1, d2, c6, eB, fA, aF]
   refine vP o3 rfl (by rw [aI8, lY]; simp [m3]; omega) fun w4 o4 x4 s4 => ?_
   rw [atK (by omega)] at o4
   unfold yR
   simp (disch := omega) only [aC, bN, aT, aA]
   exact ⟨ps.length - (i + 1), by omega, i + 1, hg - 1, _, rfl, rfl, by omega, by omega, by omega, by simp [harr], htop, o4, x3.trans x4 (fun _ _ h => h)⟩
  .have d2 : decide (ps[i] < 0) = false := by simp; omega
   rw [if_neg hp] at hng htop
   unfold yR
   simp (disch := omega) only [aC, aU, aIZ, bF, dZ, aT, bN, aA, bA, cF, c1, aG, dU, aW, d1, dB, aIY, bZ, g1, d2, c6, aD, aF]
   exact ⟨ps.length - (i + 1), by omega, i + 1, hg, ar, rfl, rfl, by omega, by omega, by omega, harr, htop, o3, x3⟩
 .have d1 : decide ((i : Int) < (ps.length : Int)) = false := by simp; omega
  rw [aKa (by omega), Yu] at htop
  obtain ⟨rfl, rfl⟩ : hg = high /\ ar = arr' := by simpa using htop
  simp (disch := omega) only [aC, aU, aIZ, bF, dZ, aT, aA, bA, cF, c1, aG, dU, aW, d1, aD]
  exact hR _ o3 x3
theorem aBR {log N high cc p1 p6 b : Nat} {ps : List Int} {sv t2 : aLm} {arr : List Int} {rest : List aLm} {w0 w : aLl} (hm : TO log ps) (hs : Sl w0 sv (ps.map (Value.int .i64))) (hx : aS w0 w cI)
 (hN1 : 32 <= N) (hN2 : N <= 32768) (hcc : N <= cc) (harr : arr.length = N) (hhigh : (rF ps 0).length = high) (hhN : high <= N) (hlo : w0.heap.size <= b) (hne : p1 ≠ b /\ p6 ≠ b)
 (o1 : cM w p1 [.int .i64 log, sv]) (o6 : cM w p6 [.int .i64 log, .slice (some ⟨b, 0, none⟩) N cc]) (ob : cM w b (fe .i64 (m3 arr) ++ rest))
 {k4 : aLm -> aLm -> aLm -> aLm -> aLl -> Prop}
 (hR : ∀ w', cM w' b (fe .i64 (m3 (place N high (rF ps 0) 0 arr)) ++ rest) -> aS w w' (fun y => y = b) -> k4 (.pointer (some ⟨p1, 0, none⟩)) t2 (.int .i64 N) (.pointer (some ⟨p6, 0, none⟩)) w') :
 B0 k4 (.pointer (some ⟨p1, 0, none⟩)) t2 (.int .i64 N) (.pointer (some ⟨p6, 0, none⟩)) (.int .i64 ((high : Int) - 1)) (.int .i64 0) (.int .i64 0) w := by
 have hlen := hm.len256
 obtain ⟨a, c, rfl, hc⟩ := hs.lenI
 unfold B0
 refine cC.rule (fun m t w' => ∃ (s j : Nat) (ar : List Int), m = ps.length - s /\ t = (.int .i64 (pos N j : Nat), .int .i64 s) /\ s <= ps.length /\ ar.length = N /\ place N high (rF (ps.drop s) s) (pos N j) ar = place N high (rF ps 0) 0 arr /\ (rF (ps.drop s) s).length <= high /\ cM w' b (fe .i64 (m3 ar) ++ rest) /\ aS w w' (fun y => y = b)) ps.length
  ⟨0, 0, arr, rfl, by rw [Vs] <;> rfl, by omega, harr, by rw [Vs, aI4], by rw [aI4, hhigh]; exact aI9 _, ob, aS.refl _ _⟩ ?_
 rintro m t w4 ⟨s, j, ar, rfl, rfl, hs4, har, hpl, hrl, o4, x4⟩
 have c1 := (o1.ext x4 hne.1).cell (off := 1)
 simp only [aI0, aI1] at c1
 unfold Cb HS
 by_cases hlt : s < ps.length
 .have d1 : decide ((s : Int) < (ps.length : Int)) = true := by simp; omega
  obtain ⟨q, hq⟩ : ∃ q, q = ps[s].toNat := ⟨_, rfl⟩
  rw [atZ hlt, <- hq] at hpl hrl
  have hqN : q <= N := by simp at hrl; omega
  simp (disch := omega) only [aC, aU, aIZ, aA, cF, c1, aG, dU, aW, d1, aF]
  unfold ID Jd SM Jb HZ HM
  refine cC.rule (fun m t w' => ∃ (k j : Nat) (ar : List Int), m = q - k /\ t = (.int .i64 (pos N j : Nat), .int .i64 k) /\ k <= q /\ ar.length = N /\ place N high (List.replicate (q - k) s ++ rF (ps.drop (s + 1)) (s + 1)) (pos N j) ar = place N high (rF ps 0) 0 arr /\ cM w' b (fe .i64 (m3 ar) ++ rest) /\ aS w w' (fun y => y = b)) q
   ⟨0, j, ar, rfl, rfl, by omega, har, hpl, o4, x4⟩ ?_
  rintro m t w5 ⟨k, j5, ar5, rfl, rfl, hk, har5, hpl5, o5, x5⟩
  have c15 := (o1.ext x5 hne.1).cell (off := 1)
  have c65 := (o6.ext x5 hne.2).cell (off := 1)
  simp only [aI0, aI1] at c15 c65
  obtain ⟨b', off', c', e, _, hcell⟩ := (hs.ext (hx.new x5 hlo) (bU _)).openI (by omega)
  cases e
  have g1 := hcell s hlt
  unfold Co It
  by_cases hkq : k < q
  .have d2 : decide ((k : Int) < ps[s]) = true := by simp; omega
   have hp := arB (n := N) (by omega) j5
   have hhg : 0 < high := by simp at hrl; omega
   simp (disch := omega) only [aC, aU, aIZ, aA, cF, c15, aG, dB, aIY, bZ, g1, aW, d2, aF]
   unfold Jj HO SV IA
   simp (disch := omega) only [aC, bF, aIZ, zX, aA, bN, yV, bA, c65, aG, eB, aIY, fA]
   refine vP o5 rfl (by rw [aI8, lY]; simp [m3]; omega) fun w6 o6' x6 s6 => ?_
   rw [atK (by omega)] at o6'
   have e1 : (N : Int).tdiv 2 = ((N / 2 : Nat) : Int) := by rw [aJs (by omega)]; omega
   have e3 : (N : Int).tdiv 8 = ((N / 8 : Nat) : Int) := by rw [aJs (by omega)]; omega
   have e4 : (((pos N j5 : Nat) : Int) + ((N / 2 : Nat) : Int) + ((N / 8 : Nat) : Int) + 3).tmod (N : Int) = ((pos N (j5 + 1) : Nat) : Int) := by
    rw [aJt (by omega), <- JS]
    unfold adv
    simp
   simp (disch := omega) only [e1, aT, e3, e4]
   unfold Jf
   rw [show q - k = (q - (k + 1)) + 1 from by omega, aJ3, aJ9, arH, JS] at hpl5
   obtain ⟨d, _, hd2, hd3⟩ := VZ (n := N) (high := high) (by omega) hhg (j5 + 1)
   refine aDL (by omega) hN2 hhg hhN ?_
   rw [hd3] at hpl5 ⊢
   unfold BX
   simp (disch := omega) only [aC, bN, aT, aA]
   exact ⟨q - (k + 1), by omega, k + 1, j5 + 1 + d, _, rfl, rfl, by omega, by simp [har5], hpl5, o6', x5.trans x6 (fun _ _ h => h)⟩
  .have d2 : decide ((k : Int) < ps[s]) = false := by simp; omega
   rw [show q - k = 0 from by omega, List.replicate_zero, aJM] at hpl5
   unfold B6
   simp (disch := omega) only [aC, aU, aIZ, bN, aT, aA, cF, c15, aG, dB, aIY, bZ, g1, aW, d2, aD]
   exact ⟨ps.length - (s + 1), by omega, s + 1, j5, ar5, rfl, rfl, by omega, har5, hpl5, by simp at hrl; omega, o5, x5⟩
 .have d1 : decide ((s : Int) < (ps.length : Int)) = false := by simp; omega
  rw [aKa (by omega), rF, place] at hpl
  simp (disch := omega) only [aC, aU, aIZ, aA, cF, c1, aG, dU, aW, d1, aD]
  exact hR _ (by rw [<- hpl]; exact o4) x4
theorem aDF {log N p6 : Nat} {c1 t2 : aLm} {w : aLl} (hN1 : 32 <= N) (hN2 : N <= 32768) (o6 : cM w p6 [.int .i64 log, .slice none 0 0])
 {k0 : aLm -> aLm -> aLm -> aLm -> aLl -> Prop}
 (hR : ∀ w' b cc rest, cM w' p6 [.int .i64 log, .slice (some ⟨b, 0, none⟩) N cc] -> cM w' b (fe .i64 (m3 (List.replicate N (-1))) ++ rest) -> N <= cc -> w.heap.size <= b -> aS w w' (fun y => y = p6 ∨ w.heap.size <= y) -> k0 c1 t2 (.int .i64 N) (.pointer (some ⟨p6, 0, none⟩)) w') :
 Ce k0 c1 t2 (.int .i64 N) (.pointer (some ⟨p6, 0, none⟩)) (.int .i64 0) w := by
 have l6 := o6.lt
 unfold Ce
 refine cC.rule (fun m t w' => ∃ (i : Nat) (v : aLm), m = N - i /\ t = .int .i64 i /\ i <= N /\ cM w' p6 [.int .i64 log, v] /\ uD w' w.heap.size 3 v i (fe .i64 (m3 (List.replicate i (-1)))) /\ aS w w' (fun y => y = p6 ∨ w.heap.size <= y)) N
  ⟨0, _, rfl, rfl, by omega, o6, uD.nil _ _ _, aS.refl _ _⟩ ?_
 rintro m t w1 ⟨i, v, rfl, rfl, hi, o1, os, x1⟩
 have c1' := o1.cell (off := 1)
 simp only [aI0, aI1] at c1'
 unfold Cf
 by_cases hlt : i < N
 .have d1 : decide ((i : Int) < (N : Int)) = true := by simp only [decide_eq_true_eq]; omega
  simp (disch := omega) only [aC, aW, d1, bF, aIZ, jG, bN, aT, aA, bA, c1', aG, aF]
  refine wT (cells := #[.int .i64 (-1), .int .i64 0, .int .i64 0]) (by decide) (by decide) (by kernel_rfl) fun w2 o2 x2 s2 => ?_
  refine oI (os.ext x2 (fun _ _ h => h)) (o2.cl (off := 0) (l := [.int .i64 (-1), .int .i64 0, .int .i64 0]) rfl (fun i hi => by rw [aIZ])) (by simp [one]) (aJ7 x1.size x2.size) (by omega) fun v3 w3 o3 x3 => ?_
  have o13 := (o1.ext x2 (fun h => h)).ext x3 (by omega)
  refine Di o13 ?_ (by simp) fun w4 o4 x4 s4 => ?_
  .obtain ⟨a, c, e⟩ := o3.len
   rw [e] <;> rfl
  simp only [aI2, aI3] at o4
  refine ⟨N - (i + 1), by omega, i + 1, v3, rfl, rfl, by omega, o4, ?_, ?_⟩
  .have e : fe .i64 (m3 (List.replicate (i + 1) (-1))) = fe .i64 (m3 (List.replicate i (-1))) ++ [.int .i64 (-1), .int .i64 0, .int .i64 0] := by
    rw [List.replicate_succ']; unfold m3; rw [aJJ, auK] <;> rfl
   rw [e]
   exact o3.ext x4 (fun b hb h => by omega)
  .exact ((x1.seq (x2.mono fun _ _ h => h.elim)).seq (x3.mono fun _ _ h => .inr h)).seq (x4.mono fun _ _ h => .inl h)
 .have d1 : decide ((i : Int) < (N : Int)) = false := by simp only [decide_eq_false_iff_not]; omega
  have : i = N := by omega
  subst this
  simp (disch := omega) only [aC, aW, d1, bF, aIZ, jG, bN, aT, aA, bA, aD]
  rcases os.2 with ⟨_, h⟩ | ⟨b, c, rest, rfl, h2, h3, h4, h5⟩
  .omega
  .exact hR _ b c rest o1 h3 h5 h2 x1
theorem aDW {k : IntKind} {L : List T3} {rest : List aLm} {i : Nat} (h : i < L.length) (x : Int) : (fe k L ++ rest).set (i * 3 + 1) (.int .i64 x) = fe k (L.set i (L[i].1, x, L[i].2.2)) ++ rest := by
 rw [aKx _ _ (by rw [lY]; omega), (aeE k L i h x).2.1]
theorem aE9 {k : IntKind} {L : List T3} {rest : List aLm} {i : Nat} (h : i < L.length) (x : Int) : (fe k L ++ rest).set (i * 3 + 2) (.int .i64 x) = fe k (L.set i (L[i].1, L[i].2.1, x)) ++ rest := by
 rw [aKx _ _ (by rw [lY]; omega), (aeE k L i h x).2.2]
theorem aDR {log N cc p1 p6 b ns : Nat} {ps S : List Int} {sv t2 : aLm} {rest : List aLm} {w0 w : aLl} (hm : TO log ps) (L : Lay log ps S) (hN : 2 ^ log = N) (hs : Sl w0 sv (ps.map (Value.int .i64))) (hx : aS w0 w cI) (hcc : N <= cc)
 {i : Nat} (hlt : i < N) (hne : p1 ≠ b /\ p6 ≠ b /\ ns ≠ b /\ p1 ≠ ns /\ p6 ≠ ns)
 (o1 : cM w p1 [.int .i64 log, sv]) (o6 : cM w p6 [.int .i64 log, .slice (some ⟨b, 0, none⟩) N cc]) (ob : cM w b (fe .i64 (Es log ps S i) ++ rest)) (os : cM w ns ((cn S i).map (Value.int .i64)))
 {kn : aLm -> aLm -> aLm -> aLm -> aLm -> aLm -> aLl -> Prop} {R : aLm -> aLl -> Prop}
 (hR : ∀ w', cM w' b (fe .i64 (Es log ps S (i + 1)) ++ rest) -> cM w' ns ((cn S (i + 1)).map (Value.int .i64)) -> aS w w' (fun y => y = ns ∨ y = b) →
  kn (.pointer (some ⟨p1, 0, none⟩)) t2 (.int .i64 N) (.pointer (some ⟨p6, 0, none⟩)) (.pointer (some ⟨ns, 0, none⟩)) (.int .i64 ((i + 1 : Nat) : Int)) w') :
 Cp kn R (.pointer (some ⟨p1, 0, none⟩)) t2 (.int .i64 N) (.pointer (some ⟨p6, 0, none⟩)) (.pointer (some ⟨ns, 0, none⟩)) (.int .i64 i) w := by
 have h15 := hm.log15
 have hlen := hm.len256
 have hN2 : 2 ^ log <= 2 ^ 15 := aJa (by omega) h15
 have hSl : S.length = 2 ^ log := L.len
 obtain ⟨a, c, rfl, hc⟩ := hs.lenI
 have c1 := o1.cell (off := 1)
 have c6 := o6.cell (off := 1)
 simp only [aI0, aI1] at c1 c6
 have hltN : i < 2 ^ log := by omega
 obtain ⟨s, hsl, hsS, hp1, hp2, hk', hcnt⟩ := Y7 hm L hltN
 obtain ⟨k, hkk⟩ : ∃ k, k = kAt ps S i := ⟨_, rfl⟩
 rw [<- hkk] at hk'
 have hk2 : k < 2 ^ (log + 1) := by rw [aJp]; omega
 have hel : i < (Es log ps S i).length := by rw [FE]; exact hltN
 have hE0 : (Es log ps S i)[i]'hel = ((s : Int), 0, 0) := by rw [aFC hltN, hsS]
 have g0 := ob.cell (off := i * 3)
 rw [aJd (by rw [lY]; omega), (ajH .i64 (Es log ps S i) i hel).1, hE0] at g0
 simp only at g0
 obtain ⟨b', off', c', e, _, hcell⟩ := (hs.ext hx (bU _)).openI (by omega)
 cases e
 have g1 := hcell s hsl
 have hlow := hm.low _ (aJh hsl)
 have hSi : S[i]'(by omega) = (s : Int) := by rw [<- hsS, aJe, aI7 (by omega)] <;> rfl
 have gs := os.cell (off := s)
 rw [aJq, aI7 (by rw [ajT]; omega), aA5 (by omega)] at gs
 simp only [aJL] at gs
 have hcs := aHb (S := S) (i := i) (s := s) (by omega) (by omega) hSi
 have d1 : decide ((s : Int) < 0) = false := by simp
 have d2 : decide ((ps.length : Int) <= (s : Int)) = false := by simp; omega
 unfold Cp I0 Sw HP
 simp (disch := omega) only [aC, bF, aIZ, aU, aA, cG, bA, c6, aG, eB, aIY, fA, bZ, g0, aW, d1, dG, bM, aI5, if_false, bP, cF, c1, dU, oD, d2, aD]
 have hpn := nL hlow
 have hcl : (S.take i).count (s : Int) <= i := by
  have := aLk (a := (s : Int)) (l := S.take i)
  rw [aJg] at this; omega
 have c10 := o1.cell (off := 0)
 simp only [aI0] at c10
 have ek : (((S.take i).count (s : Int) : Nat) : Int) + dC ps[s] = (k : Int) := by rw [hk']; omega
 have h9 : EP (fun bO t2 fC t6 cH lG w => AI kn bO t2 fC t6 cH lG w) (.pointer (some ⟨p1, 0, none⟩)) t2 (.int .i64 N) (.pointer (some ⟨p6, 0, none⟩)) (.pointer (some ⟨ns, 0, none⟩)) (.int .i64 i) (.int .i64 (s : Int)) (.int .i64 (dC ps[s])) w := by
  unfold EP KU
  simp (disch := omega) only [aC, xN, aIY, aIZ, bW, aA, bZ, gs, aG, bN, ek, aT]
  refine vP os rfl (by rw [aJb, ajT]; omega) fun w2 os2 x2 s2 => ?_
  rw [<- aKD, hcs] at os2
  have o12 := o1.ext x2 (by omega)
  have o62 := o6.ext x2 (by omega)
  have ob2 := ob.ext x2 (by omega)
  have c12 := o12.cell (off := 0)
  have c62 := o62.cell (off := 1)
  simp only [aI0, aI1] at c12 c62
  simp (disch := omega) only [c12, aG, aA]
  unfold Ks Lq
  refine aCN (w0 := w0) h15 (by omega) hk2 o12 ?_
  unfold EM
  obtain ⟨nbits, hnbits⟩ : ∃ x, x = log + 1 - bl k := ⟨_, rfl⟩
  obtain ⟨eb1, eb2, eb3, eb4⟩ := apU (log := log) (k := k) (by omega) hk2
  rw [<- hnbits] at eb1 eb2 ⊢
  have hent : Ht log ps S i = ES log (s : Int) k := by unfold Ht; rw [hsS, <- hkk]
  have hes := aD6 (log := log) (ps := ps) (S := S) (i := i) hltN
  rw [hent] at hes
  simp (disch := omega) only [aC, bF, aIZ, dS, Result.ok.injEq, Next.value.injEq, and_true, true_and, aA, bA, c62, aG, eB, aIY, iE]
  refine vP ob2 rfl (by rw [aI8, lY, FE]; omega) fun w3 ob3 x3 s3 => ?_
  rw [aDW hel, hE0] at ob3
  have o63 := dT (o62.ext x3 (by omega))
  have ob3 := dT ob3
  have c63 := o63.cell (off := 1)
  simp only [aI0, aI1] at c63
  simp (disch := omega) only [c63, aG, aA, eB, aIY, aIZ, iF, true_and]
  refine (VO nbits (by omega) _).mono ?_
  rintro r w4 ⟨rfl, rfl⟩
  have hA := aJ7 (aJ7 (aJH (2 ^ nbits) (show k <= k + 1 by omega)) eb2) (aJa (show 0 < 2 by omega) (show log + 1 <= 16 by omega))
  have hpw : ((2 ^ nbits : Nat) : Int) = (2 : Int) ^ nbits := by simp
  rw [<- hpw]
  have em : (k : Int) * ((2 ^ nbits : Nat) : Int) = ((k * 2 ^ nbits : Nat) : Int) := by simp
  have e5 : (((k * 2 ^ nbits : Nat) : Int) - (N : Int)) = (ES log (s : Int) k).2.2 := by
   unfold ES
   simp only
   rw [<- hnbits, <- hN]
   simp
  have e7 : (ES log (s : Int) k) = ((s : Int), (nbits : Int), (ES log (s : Int) k).2.2) := by unfold ES; rw [hnbits]
  generalize hq : k * 2 ^ nbits = q at *
  have e6 : IntKind.i64.wrap ((q : Int) - (N : Int)) = (q : Int) - (N : Int) := aT (by omega) (by omega)
  have ew : IntKind.i64.wrap (q : Int) = (q : Int) := aT (by omega) (by omega)
  generalize hbase : (ES log (s : Int) k).2.2 = base at *
  rw [e5] at e6
  simp (disch := omega) only [c63, aG, pX, em, ew, aA, dZ, e5, e6, true_and]
  have hel5 : i < ((Es log ps S i).set i ((s : Int), (nbits : Int), 0)).length := by simpa using hel
  refine vP ob3 rfl (by rw [aI8, lY]; simp [FE]; omega) fun w5 ob5 x5 s5 => ?_
  rw [aE9 hel5] at ob5
  simp only [aKS, List.set_set] at ob5
  rw [<- e7, hes] at ob5
  unfold AI
  simp (disch := omega) only [aC, bN, aT, aA]
  refine hR _ ob5 ((dT (os2.ext x3 (by omega))).ext x5 (by omega)) ?_
  exact (((x2.mono fun _ _ h => .inl h : aS w w2 (fun y => y = ns ∨ y = b)).seq (x3.mono fun _ _ h => .inr h)).seq (aS.dr _ _)).seq (x5.mono fun _ _ h => .inr h)
 unfold H8 I5
 by_cases hneg : ps[s] < 0
 .have d3 : decide (ps[s] < 0) = true := by simpa using hneg
  have ep : dC ps[s] = 1 := by unfold dC; rw [if_pos hneg]
  rw [ep] at h9
  simp (disch := omega) only [aC, aU, aIZ, aA, cF, c1, aG, dB, aIY, bZ, g1, aW, d3, aF]
  exact h9
 .have d3 : decide (ps[s] < 0) = false := by simpa using hneg
  have ep : dC ps[s] = ps[s] := by unfold dC; rw [if_neg hneg]
  rw [ep] at h9
  simp (disch := omega) only [aC, aU, aIZ, aA, cF, c1, aG, dB, aIY, bZ, g1, aW, d3, aD]
  exact h9
theorem aCJ {log N cc p1 p2 p6 b : Nat} {ps S : List Int} {sv : aLm} {rest : List aLm} {w0 w : aLl} (hm : TO log ps) (L : Lay log ps S) (hN : 2 ^ log = N) (hs : Sl w0 sv (ps.map (Value.int .i64))) (hx : aS w0 w cI) (hcc : N <= cc)
 (hne : p1 ≠ b /\ p6 ≠ b /\ p2 ≠ b /\ p2 ≠ p6 /\ p1 ≠ p2) (hlo : w0.heap.size <= b /\ w0.heap.size <= p2)
 (o1 : cM w p1 [.int .i64 log, sv]) (o2 : cM w p2 [.int .i64 0, .slice none 0 0]) (o6 : cM w p6 [.int .i64 log, .slice (some ⟨b, 0, none⟩) N cc]) (ob : cM w b (fe .i64 (m3 S) ++ rest)) {R : aLm -> aLl -> Prop}
 (hR : ∀ w', cM w' b (fe .i64 (Es log ps S N) ++ rest) -> aS w0 w' cI -> R (.tuple #[.agg #[.int .i64 log, .slice (some ⟨b, 0, none⟩) N cc], .int .i64 0]) w') :
 B3 R (.pointer (some ⟨p1, 0, none⟩)) (.pointer (some ⟨p2, 0, none⟩)) (.int .i64 N) (.pointer (some ⟨p6, 0, none⟩)) w := by
 have hN2 : 2 ^ log <= 2 ^ 15 := aJa (by omega) hm.log15
 unfold B3 H6
 refine awC fun w1 os x1 s1 => ?_
 obtain ⟨cs, hcs, os⟩ : ∃ cs, cs = List.replicate 256 (Value.int .i64 0) /\ cM w1 w.heap.size cs := ⟨_, by kernel_rfl, os⟩
 rw [hcs] at os
 have os : cM w1 w.heap.size ((cn S 0).map (Value.int .i64)) := by rw [aGo, aK7]; exact os
 have l1 := o1.lt
 have l2 := o2.lt
 have l6 := o6.lt
 have lb := ob.lt
 have hxs := hx.size
 have o1 := o1.ext x1 (fun h => h)
 have o2 := o2.ext x1 (fun h => h)
 have o6 := o6.ext x1 (fun h => h)
 have ob := ob.ext x1 (fun h => h)
 have x01 := hx.seq x1
 generalize w.heap.size = ns at *
 have ob : cM w1 b (fe .i64 (Es log ps S 0) ++ rest) := by rw [aCr L.len]; exact ob
 unfold HQ I7 I4 H3 IT
 refine cC.rule (fun m t w' => ∃ i : Nat, m = N - i /\ t = .int .i64 i /\ i <= N /\ cM w' b (fe .i64 (Es log ps S i) ++ rest) /\ cM w' ns ((cn S i).map (Value.int .i64)) /\ aS w1 w' (fun y => y = ns ∨ y = b)) N ⟨0, rfl, rfl, by omega, ob, os, aS.refl _ _⟩ ?_
 rintro m t w2 ⟨i, rfl, rfl, hi, ob2, os2, x2⟩
 have x02 : aS w0 w2 cI := x01.trans x2 (fun y hy hh => by omega)
 have o62 := o6.ext x2 (by omega)
 unfold BU IN
 by_cases hlt : i < N
 .have d1 : decide ((i : Int) < (N : Int)) = true := by simp only [decide_eq_true_eq]; omega
  simp (disch := omega) only [aC, aW, d1, aA, aF]
  refine aDR hm L hN hs x02 hcc hlt (by omega) (o1.ext x2 (by omega)) o62 ob2 os2 fun w3 ob3 os3 x3 => ?_
  exact ⟨N - (i + 1), by omega, i + 1, rfl, rfl, by omega, ob3, os3, x2.trans x3 (fun _ _ h => h)⟩
 .have d1 : decide ((i : Int) < (N : Int)) = false := by simp only [decide_eq_false_iff_not]; omega
  have : i = N := by omega
  subst this
  have l4 := dD (off := 0) o62 (by simp)
  simp only [aI4, aIX, aI6] at l4
  simp (disch := omega) only [aC, aW, d1, aA, aD]
  unfold D0
  simp (disch := omega) only [aC, l4, aA]
  refine eJ (o2.ext x2 (by omega)) rfl (by simp [one]) (by simp) fun w5 o25 x5 s5 => ?_
  refine pW o25 (by simp [aV]) ?_
  simp only [aV, aI2, aI3, aI4, aIX, aI6]
  exact hR _ (ob2.ext x5 (by omega)) (x02.new x5 hlo.2)
theorem aoN {log : Nat} {sv : aLm} {ps : List Int} {w : aLl} (hm : TO log ps) (hs : Sl w sv (ps.map (Value.int .i64))) :
 aR pg BL #[.agg #[.int .i64 log, sv]] w (fun r w' => ∃ b cc rest, r = .tuple #[.agg #[.int .i64 log, .slice (some ⟨b, 0, none⟩) (2 ^ log) cc], .int .i64 0] /\ w.heap.size <= b /\ cM w' b (fe .i64 (lQ log ps) ++ rest) /\ aS w w' cI) := by
 refine ajN ?_
 have hlen := hm.len256
 have h15 := hm.log15
 have hN2 : 2 ^ log <= 2 ^ 15 := aJa (by omega) h15
 have hN1 : 2 ^ 5 <= 2 ^ log := aJa (by omega) hm.log5
 unfold akD HK HY
 refine gA fun w1 o1 x1 s1 => ?_
 refine gE fun w2 o2 x2 s2 => ?_
 have o1 := o1.ext x2 (fun h => h)
 have l1 := nK (off := 0) o1 (by simp [Value.cells])
 simp only [Value.cells, aI4, aIX, aI6] at l1
 simp (disch := omega) only [aC, l1, cG, aA, bW, bZ]
 refine (aBt (most := 15) ((hs.ext x1 (bU _)).ext x2 (bU _)) (by omega)).mono ?_
 rintro r w3 ⟨rfl, x3⟩
 have hce := aCx (most := 15) hm hm.log15
 rw [show (((15 : Nat) : Int)) = 15 from rfl] at hce
 rw [hce]
 have e0 : ((0 : Int) != 0) = false := rfl
 have o1 := o1.ext x3 (fun h => h)
 have o2 := o2.ext x3 (fun h => h)
 have c0 := o1.cell (off := 0)
 simp only [Value.cells, aI0] at c0
 simp (disch := omega) only [fB, e0, aA, c0, aG, aD]
 refine (VO log (by omega) _).mono ?_
 rintro r w4 ⟨rfl, rfl⟩
 have hpow : ((2 ^ log : Nat) : Int) = (2 : Int) ^ log := by simp
 rw [<- hpow]
 simp (disch := omega) only [c0, aG, aA, jJ]
 refine gE fun w5 o5 x5 s5 => ?_
 refine eJ o5 rfl (by simp [one]) (by simp) fun w6 o6 x6 s6 => ?_
 simp only [aV, aI2, aI3] at o6
 have l1 := o1.lt
 have l2 := o2.lt
 have l6 := o6.lt
 have z1 := x1.size
 have z2 := x2.size
 have z3 := x3.size
 have z5 := x5.size
 have z6 := x6.size
 have o1 := (o1.ext x5 (fun h => h)).ext x6 (by omega)
 have o2 := (o2.ext x5 (fun h => h)).ext x6 (by omega)
 have x06 : aS w w6 cI := ((((x1.seq x2).seq x3).seq x5)).new x6 (by omega)
 have hne : w.heap.size ≠ w1.heap.size /\ w.heap.size ≠ w4.heap.size /\ w1.heap.size ≠ w4.heap.size := by omega
 have hp12 : w.heap.size <= w1.heap.size /\ w1.heap.size <= w4.heap.size := by omega
 obtain ⟨p1, hp1⟩ : ∃ p1, p1 = w.heap.size := ⟨_, rfl⟩
 generalize w1.heap.size = p2 at *
 generalize w4.heap.size = p6 at *
 rw [<- hp1] at o1 ⊢
 obtain ⟨arr, ht, harr, hneg, hsp⟩ := akJ hm (-1)
 have hlay := xJ hm (-1)
 have hEs := aFu log ps
 rw [aDv hm 0 (-1)] at hEs
 rw [hsp] at hlay hEs
 generalize hN : 2 ^ log = N at *
 unfold Iy Ji IK Ix
 refine aDF (by omega) (by omega) o6 fun w7 b cc rest o67 ob hcc hb x7 => ?_
 have o17 := o1.ext x7 (by omega)
 have o27 := o2.ext x7 (by omega)
 have x07 : aS w w7 cI := x06.trans x7 (fun y hy hh => by omega)
 unfold H9 H2
 simp (disch := omega) only [aC, dZ, aT, aA]
 unfold I2 Jk II Ie
 refine aDz hm hs x07 (by omega) hcc (by simp) (by omega) ht (by omega) (by omega) o17 o67 ob fun w8 ob8 x8 => ?_
 have x08 := x07.new x8 (by omega)
 have o18 := o17.ext x8 (by omega)
 have o28 := o27.ext x8 (by omega)
 have o68 := o67.ext x8 (by omega)
 unfold H4 Jg HW HU I6 I1
 refine aBR hm hs x08 (by omega) (by omega) hcc harr rfl (by omega) (by omega) (by omega) o18 o68 ob8 fun w9 ob9 x9 => ?_
 have x09 := x08.new x9 (by omega)
 refine aCJ hm hlay hN hs x09 hcc (by omega) (by omega) (o18.ext x9 (by omega)) (o28.ext x9 (by omega)) (o68.ext x9 (by omega)) ob9 fun w10 ob10 x10 => ?_
 rw [hEs] at ob10
 exact ⟨b, cc, rest, rfl, by omega, ob10, x10⟩
structure yT (k : Nat) (T : Nat × List T3) : Prop where
 lg : T.1 <= 9
 len : T.2.length = 2 ^ T.1
 low : Low T.2
 sym : ∀ e ∈ T.2, ∃ c : Nat, e.1 = (c : Int) /\ c < lI k
 nxt : ∀ e ∈ T.2, e.2.2 + ((2 ^ e.2.1.toNat : Nat) : Int) <= (T.2.length : Int)
theorem azI {k c : Nat} (hc : c < lI k) : yT k (0, [((c : Int), 0, 0)]) := by
 refine ⟨aJW _, rfl, ?_, ?_, ?_⟩
 .intro e he; obtain rfl := aKf.1 he; exact ⟨0, rfl, by omega, Int.le_refl _, show (0 : Int) <= 100000 by decide⟩
 .intro e he; obtain rfl := aKf.1 he; exact ⟨c, rfl, hc⟩
 .intro e he; obtain rfl := aKf.1 he; show (0 : Int) + ((2 ^ (0 : Int).toNat : Nat) : Int) <= ((1 : Nat) : Int); decide
theorem asI {k lg : Nat} {ps : List Int} (hm : TO lg ps) (h9 : lg <= 9) (hl : ps.length <= lI k) : yT k (lg, lQ lg ps) := by
 refine ⟨h9, kN _ _, aBm hm, ?_, ?_⟩
 .intro e he
  obtain ⟨i, hi, rfl⟩ := aJy he
  have h2 : i < 2 ^ lg := by rw [kN] at hi; exact hi
  obtain ⟨s, hs, e, _⟩ := Y7 hm (xJ hm 0) h2
  exact ⟨s, by rw [Yz lg ps h2, e], by omega⟩
 .intro e he
  obtain ⟨i, hi', rfl⟩ := aJy he
  have hi := hi'
  rw [kN] at hi
  have hat := aiG (ps := ps) hi
  rw [aI7 hi'] at hat
  rw [aJj hat]
  have L := xJ hm 0
  obtain ⟨s, hs, hg, hp1, hp2, hk, hc⟩ := Y7 hm L hi
  have hk2 : kAt ps (gZ 0 lg ps) i < 2 ^ (lg + 1) := by rw [aJp]; omega
  obtain ⟨e1, e2, e3, e4⟩ := apU (log := lg) (k := kAt ps (gZ 0 lg ps) i) (by omega) hk2
  have hpow : ((2 ^ lg : Nat) : Int) = (2 : Int) ^ lg := by simp
  show (Ht lg ps (gZ 0 lg ps) i).2.2 + ((2 ^ (Ht lg ps (gZ 0 lg ps) i).2.1.toNat : Nat) : Int) <= ((lQ lg ps).length : Int)
  rw [kN]
  unfold Ht ES
  rw [<- hpow]
  show ((kAt ps (gZ 0 lg ps) i * 2 ^ (lg + 1 - bl (kAt ps (gZ 0 lg ps) i)) : Nat) : Int) - ((2 ^ lg : Nat) : Int) + ((2 ^ (((lg + 1 - bl (kAt ps (gZ 0 lg ps) i) : Nat) : Int)).toNat : Nat) : Int) <= ((2 ^ lg : Nat) : Int)
  rw [aIY]
  rw [aK5, aJp] at e2
  generalize kAt ps (gZ 0 lg ps) i * 2 ^ (lg + 1 - bl (kAt ps (gZ 0 lg ps) i)) = X at *
  generalize 2 ^ (lg + 1 - bl (kAt ps (gZ 0 lg ps) i)) = Y at *
  omega
theorem aGY {k : Nat} (hk : k < 3) : (gvP (k : Int)).length <= lI k := by
 rcases (show k = 0 ∨ k = 1 ∨ k = 2 by omega) with rfl | rfl | rfl <;> decide
theorem aCD {k : Nat} (hk : k < 3) : pP (k : Int) = ((lI k : Nat) : Int) - 1 := by
 rcases (show k = 0 ∨ k = 1 ∨ k = 2 by omega) with rfl | rfl | rfl <;> rfl
theorem abX {k : Nat} (hk : k < 3) : yT k (YC (k : Int), lQ (YC (k : Int)) (gvP (k : Int))) :=
 asI (aoY (by omega)) (by unfold YC; split <;> (try split) <;> omega) (aGY hk)
theorem aoO {k mode n : Nat} {l : List UInt8} {T T' : Nat × List T3} (hk : k < 3) (hT : mode = 3 -> T.2 ≠ [] -> yT k T) (h : gY (k : Int) (mode : Int) l T = .ok (T', n)) : yT k T' /\ n <= l.length := by
 have hc53 : lI k <= 53 := by rcases (show k = 0 ∨ k = 1 ∨ k = 2 by omega) with rfl | rfl | rfl <;> decide
 have hc0 : 0 < lI k := by rcases (show k = 0 ∨ k = 1 ∨ k = 2 by omega) with rfl | rfl | rfl <;> decide
 unfold gY at h
 rw [aCD hk] at h
 split at h
 .cases h
 split at h
 .cases h; exact ⟨abX hk, aJW _⟩
 split at h
 .split at h
  .cases h
  .split at h
   .cases h
   .cases h
    rename_i hx
    exact ⟨azI (by omega), by simp⟩
 split at h
 .split at h
  .cases h
  .cases h
   rename_i hm hne
   exact ⟨hT (by omega) hne, aJW _⟩
 .split at h
  .cases h
  .rename_i lg ps u hr
   cases h
   obtain ⟨h1, h2, h3⟩ := aoM hr
   have h4 := aqG hr
   rw [nV] at h4
   have h5 : D1 (k : Int) <= 9 := by unfold D1; split <;> (try split) <;> omega
   exact ⟨asI (h1 (by omega)) (by omega) (by omega), by omega⟩
theorem AtI.mono {v : aLm} {lo hi lo' hi' : Nat} (h : AtI v lo hi) (h1 : lo' <= lo) (h2 : hi <= hi') : AtI v lo' hi' := fun M hM => h M fun b hb hh => hM b (by omega) (by omega)
theorem aBz {x : ByteArray} {w : aLl} (he : afB (nH x) = none) (hl : x.size <= 1000000) :
 aR pg Hq #[.string x] w (fun r w' => r = .tuple #[.agg #[.slice none 0 0, .int .i64 0], .int .i64 11] /\ aS w w' cI) := by
 refine Vp ?_
 have hll := mM x
 unfold aeI Kj Kk
 refine kV fun w1 o1 x1 s1 => ?_
 rcases aJU x.size with h0 | h0
 .have hx : x = ⟨#[]⟩ := aB7 (aJr.1 (by rw [hll, h0]))
  subst hx
  simp (disch := omega) only [aC, aeS, aGv, jA, aA, jH, bM, if_true, aF, dH]
  refine bY o1 rfl (by simp [one]) (by simp) fun w6 o6 x6 s6 => ?_
  refine iZ o6 (by simp [aV]) ⟨rfl, ?_⟩
  exact x1.new x6 (aI9 _)
 .rw [Km (by omega)] at he
  have hg : (x[x.size - 1]'(by omega)).toNat = 0 := by
   rw [Z3]
   simp only [hll] at he
   split at he
   .assumption
   .cases he
  have e1 : (x.size : Int) - 1 = ((x.size - 1 : Nat) : Int) := by omega
  have d2 : (((0 : Nat) : Int) == 0) = true := rfl
  have hne := aAS h0
  simp (disch := omega) only [aC, aeS, hne, jA, aA, dG, bM, aI5, if_false, bP, pI, dZ, e1, aT, qD, aIY, hg, cK, d2, aF]
  refine bY o1 rfl (by simp [one]) (by simp) fun w6 o6 x6 s6 => ?_
  refine iZ o6 (by simp [aV]) ⟨rfl, ?_⟩
  exact x1.new x6 (aI9 _)
def RB (w : aLl) (lo hi : Nat) (b : aLm) (L : List Bool) (lack : Nat) : Prop := ∃ v, b = .agg #[v, .int .i64 lack] /\ Bl w v L /\ AtI v lo hi
theorem RB.ext {w w' : aLl} {lo hi lack : Nat} {b : aLm} {L : List Bool} {M : Nat -> Prop} (h : RB w lo hi b L lack) (hx : aS w w' M) (hM : ∀ b, lo <= b -> b < hi -> ¬ M b) : RB w' lo hi b L lack := by
 obtain ⟨v, h1, h2, h3⟩ := h
 exact ⟨v, h1, h2.ext hx (h3 M hM), h3⟩
theorem aDp {x : ByteArray} {k : Nat} {w : aLl} (he : afB (nH x) = some k) (hl : x.size <= 1000000) :
 aR pg Hq #[.string x] w (fun r w' => ∃ b hi, r = .tuple #[b, .int .i64 0] /\ hi <= w'.heap.size /\ RB w' w.heap.size hi b ((bK (nH x)).take k) 0 /\ aS w w' cI) := by
 refine Vp ?_
 have hll := mM x
 obtain ⟨h0, hk1, hk2, htop, hoff⟩ := Qm he
 unfold aeI Kj Kk
 refine kV fun w1 o1 x1 s1 => ?_
 rw [Km (by omega)] at he
 have hg : (x[x.size - 1]'(by omega)).toNat ≠ 0 := by
  rw [Z3]
  simp only [hll] at he
  split at he
  .cases he
  .assumption
 have e1 : (x.size : Int) - 1 = ((x.size - 1 : Nat) : Int) := by omega
 have hne := aAS (show 0 < x.size by omega)
 have d2 : (((x[x.size - 1]'(by omega)).toNat : Int) == 0) = false := by simpa using hg
 simp (disch := omega) only [aC, aeS, hne, jA, aA, dG, bM, aI5, if_false, bP, pI, dZ, e1, aT, qD, aIY, cK, d2, aD]
 refine (aoX hl).mono ?_
 rintro r w2 ⟨o2, x2⟩
 have hat := uD.atI o2
 have hs := o2.sl
 have hbl := nV (nH x)
 obtain ⟨a, c, rfl⟩ := o2.len
 have o12 := o1.ext x2 (fun h => h)
 simp (disch := omega) only [nZ, aA, dZ, aT]
 unfold Rf Sg RP
 refine cC.rule (fun m (t : aLm) w' => t = .int .i64 m /\ k <= m /\ m < 8 * x.size /\ w' = w2) (8 * x.size - 1)
  ⟨by have : ((8 * x.size : Nat) : Int) - 1 = ((8 * x.size - 1 : Nat) : Int) := by omega
      rw [this], by omega, by omega, rfl⟩ ?_
 rintro m t w3 ⟨rfl, hm1, hm2, rfl⟩
 unfold J7
 obtain ⟨b, off, c', e, _, hcell⟩ := aEj hs (by omega)
 rw [hbl, hll] at e
 cases e
 have hgm : (bK (nH x))[m]? = some (decide (m = k)) := by
  by_cases h : m = k
  .subst h; simpa using htop
  .rw [hoff m (by omega) (by omega)]; simp [h]
 have g := hcell m (by omega)
 rw [aI7 (by omega)] at hgm
 rw [aJj hgm] at g
 by_cases h : m = k
 .subst h
  have d3 : decide (m = m) = true := by simp
  have hsl := hs.take' (k := m) (by omega)
  have hsub : AtI (.slice (kL (some ⟨b, off, none⟩) c 0 1) (m - 0) (c - 0)) w1.heap.size w3.heap.size := AtI.sub hat (by omega)
  rw [<- aKX] at hsl
  unfold JW
  simp (disch := omega) only [aC, vH, aIY, dZ, aT, aA, sN, lA, GW, g, aG, Bm, and_true]
  refine bY o12 rfl (by simp [one]) (by simp) fun w6 o6 x6 s6 => ?_
  refine iZ o6 (by simp [aV]) ?_
  simp only [aV, aI2, aI3, aI4, aIX, aI6]
  have z1 := x1.size
  have z2 := x2.size
  refine ⟨_, w3.heap.size, rfl, by have := x6.size; omega, ⟨_, rfl, hsl.ext x6 (hsub _ fun b hb hh => by omega), AtI.mono hsub (by omega) (by omega)⟩, ?_⟩
  exact (x1.seq x2).new x6 (by omega)
 .have d3 : decide (m = k) = false := by simpa using h
  have e2 : (m : Int) - 1 = ((m - 1 : Nat) : Int) := by omega
  simp (disch := omega) only [aC, vH, aIY, dZ, e2, aT, aA, GW, g, d3, aG, Bm, aJT, and_true, aF]
  exact ⟨m - 1, by omega, rfl, by omega, by omega⟩
theorem ajK {lo hi lack n : Nat} {b : aLm} {L : List Bool} {w : aLl} (h : RB w lo hi b L lack) (hn : n <= 56) (hL : L.length <= 10000000) (hk : lack <= 1000000000) :
 aR pg yI #[b, .int .i64 n] w (fun r w' => ∃ b', r = .tuple #[b', .int .u64 (vZ L n : Nat)] /\ RB w' lo hi b' (L.take (L.length - min n L.length)) (lack + (n - min n L.length)) /\ aS w w' cI) := by
 refine akX ?_
 obtain ⟨RR, hRR⟩ : ∃ RR : aLm -> aLl -> Prop, RR = fun r w' => ∃ b', r = .tuple #[b', .int .u64 (vZ L n : Nat)] /\ RB w' lo hi b' (L.take (L.length - min n L.length)) (lack + (n - min n L.length)) /\ aS w w' cI := ⟨_, rfl⟩
 rw [<- hRR]
 obtain ⟨v, rfl, hs, hat⟩ := h
 obtain ⟨a, c, rfl, hc⟩ := Nk hs
 unfold aqX Lo Mf
 refine gA fun w1 o1 x1 s1 => ?_
 refine kV fun w2 o2 x2 s2 => ?_
 simp only [Value.cells] at o1
 have o1 := o1.ext x2 (fun h => h)
 have c0 := o1.cell (off := 0)
 simp only [aI0, aI1] at c0
 have x02 : aS w w2 cI := x1.seq x2
 have hne : w.heap.size ≠ w1.heap.size := by omega
 obtain ⟨p1, hp1⟩ : ∃ p1, p1 = w.heap.size := ⟨_, rfl⟩
 obtain ⟨p2, hp2⟩ : ∃ p2, p2 = w1.heap.size := ⟨_, rfl⟩
 rw [<- hp1, <- hp2] at hne
 rw [<- hp1] at o1 c0 ⊢
 rw [<- hp2] at o2 ⊢
 have hw1 : w.heap.size <= p1 := by omega
 have hw2 : w.heap.size <= p2 := by omega
 have fin : ∀ (v : aLm) (l : Nat) (w' : aLl) (xx : Nat), cM w' p1 [v, .int .i64 l] -> one v = true -> cM w' p2 [.slice none 0 0, .int .i64 0] -> aS w w' cI →
     (∀ w'', aS w w'' cI -> RR (.tuple #[.agg #[v, .int .i64 l], .int .u64 xx]) w'') -> aC pg (aI 82 (.pointer (some ⟨p1, 0, none⟩))) w' fun t15 w => aC pg (aK 82 (.pointer (some ⟨p2, 0, none⟩)) t15) w fun _u w => mW pg 82 (.pointer (some ⟨p2, 0, none⟩)) w fun r0 => RR (.tuple #[r0, .int .u64 xx]) w := by
  intro v l w' xx q1 qv q2 qx qk
  have l1 := dE (off := 0) q1 (by simp)
  simp only [aI4, aIX, aI6] at l1
  simp (disch := omega) only [aC, l1, aA]
  refine bY q2 rfl (by simp [one]; exact qv) (by simp) fun w6 o6 x6 s6 => ?_
  refine iZ o6 (by simp [aV]) ?_
  simp only [aV, aI2, aI3, aI4, aIX, aI6]
  exact qk _ (qx.new x6 hw2)
 by_cases hn0 : n = 0
 .subst hn0
  have d1 : decide (((0 : Nat) : Int) < 1) = true := rfl
  simp (disch := omega) only [aC, aW, d1, fJ, aA, pF, jH, bM, if_true, aF, dH]
  refine fin _ lack w2 0 o1 rfl o2 x02 fun w' x => ?_
  rw [hRR]
  refine ⟨.agg #[.slice a L.length c, .int .i64 lack], ?_, ⟨_, rfl, ?_, hat⟩, x⟩
  .have h0 : vZ L 0 = 0 := by
    have := Eg L 0
    rw [Nat.pow_zero] at this; omega
   rw [h0]
  .have : L.take (L.length - min 0 L.length) = L := aJw (by omega)
   rw [this]
   exact hs.ext x (bU _)
 have d1 : decide ((n : Int) < 1) = false := by simp; omega
 have d2 : decide ((56 : Int) < (n : Int)) = false := by simp; omega
 have hlt := Eg L n
 have hp : 2 ^ n <= 2 ^ 56 := aJa (by omega) hn
 have tail : ∀ k : Nat, k = min n L.length -> Hd RR
     (.int .i64 n) (.pointer (some ⟨p1, 0, none⟩)) (.pointer (some ⟨p2, 0, none⟩)) (.int .i64 k) w2 := by
  intro k hk0
  rw [<- hk0] at hRR
  have hsd := (hs.ext x02 (bU _)).drop' (k := L.length - k) (by omega)
  rw [<- aLf] at hsd
  have hval : vZ L n = wA (L.drop (L.length - k)) * 2 ^ (n - k) := by unfold vZ; rw [<- hk0]
  have e1 : (L.length : Int) - (k : Int) = ((L.length - k : Nat) : Int) := by omega
  unfold Hd OB
  simp (disch := omega) only [aC, fJ, aA, pF, c0, aG, nZ, dZ, e1, aT, vO, aIY]
  refine (akA hsd (by rw [aJu]; omega)).mono ?_
  rintro r w3 ⟨rfl, rfl⟩
  generalize wA (L.drop (L.length - k)) = x0 at *
  unfold OQ OV OT Ou NV
  refine cC.rule (fun m (t : aLm × aLm) w' => ∃ i : Nat, m = n - i /\ t = (.int .u64 (x0 * 2 ^ (i - k) : Nat), .int .i64 i) /\ k <= i /\ i <= n /\ cM w' p1 [.slice a L.length c, .int .i64 (lack + (i - k) : Nat)] /\ aS w3 w' (fun y => y = p1)) (n - k)
   ⟨k, rfl, by simp, by omega, by omega, by simpa using o1, aS.refl _ _⟩ ?_
  rintro m t w4 ⟨i, rfl, rfl, hi1, hi2, o4, x4⟩
  have c14 := o4.cell (off := 1)
  have c04 := o4.cell (off := 0)
  simp only [aI0, aI1] at c14 c04
  unfold GA
  by_cases hlt2 : i < n
  .have d3 : decide ((i : Int) < (n : Int)) = true := by simp; omega
   have hle : x0 * 2 ^ (i + 1 - k) <= vZ L n := by
    rw [hval]; exact Nat.mul_le_mul_left _ (aJa (by omega) (by omega))
   have hsu : x0 * 2 ^ (i + 1 - k) = x0 * 2 ^ (i - k) * 2 := by rw [show i + 1 - k = i - k + 1 from by omega, aJp, Nat.mul_assoc]
   generalize x0 * 2 ^ (i - k) = y at *
   have e2 : ((lack + (i - k) : Nat) : Int) + 1 = ((lack + (i + 1 - k) : Nat) : Int) := by omega
   have e3 : (y : Int) * 2 = ((y * 2 : Nat) : Int) := by omega
   simp (disch := omega) only [aC, aW, d3, pX, e3, iI, gH, aIZ, bN, aT, aA, bZ, c14, aG, e2, aF]
   refine vP o4 rfl (by simp) fun w5 o5 x5 s5 => ?_
   simp only [aI2, aI3] at o5
   exact ⟨n - (i + 1), by omega, i + 1, by omega, by rw [hsu]; simp, by omega, by omega, o5, x4.seq x5⟩
  .have d3 : decide ((i : Int) < (n : Int)) = false := by simp; omega
   obtain rfl : i = n := by omega
   rw [<- hval]
   unfold GP
   simp (disch := omega) only [aC, aW, d3, pX, iI, gH, aIZ, bN, aT, aA, bZ, fJ, pF, c04, aG, nZ, dZ, e1, sN, aIY, aD]
   refine aAW o4 rfl (by simp) fun w5 o5 x5 s5 => ?_
   simp only [aI2, aI3] at o5
   have x35 := x4.seq x5
   refine fin _ _ w5 _ o5 rfl (o2.ext x35 (by omega)) (x02.new x35 hw1) fun w' x => ?_
   rw [hRR]
   refine ⟨_, rfl, ⟨_, rfl, ?_, AtI.sub hat (by omega)⟩, x⟩
   have hst := hs.take' (k := L.length - k) (by omega)
   rw [<- aKX] at hst
   exact hst.ext x (bU _)
 by_cases hgt : L.length < n
 .have d3 : decide ((L.length : Int) < (n : Int)) = true := by simp; omega
  simp (disch := omega) only [aC, aW, d1, fJ, aA, pF, dG, bM, aI5, if_false, bP, dO, d2, c0, aG, nZ, d3, aF, aD]
  exact tail _ (by omega)
 .have d3 : decide ((L.length : Int) < (n : Int)) = false := by simp; omega
  simp (disch := omega) only [aC, aW, d1, fJ, aA, pF, dG, bM, aI5, if_false, bP, dO, d2, c0, aG, nZ, d3, aD]
  exact tail _ (by omega)
theorem aC0 {lo hi lack : Nat} {b : aLm} {L : List Bool} {w : aLl} (h : RB w lo hi b L lack) (hL : L.length <= 10000000) (hk : lack <= 1000000000) :
 aR pg Ef #[b] w (fun r w' => r = .int .i64 ((L.length : Int) - lack) /\ aS w w' cI) := by
 refine alL ?_
 obtain ⟨v, rfl, hs, hat⟩ := h
 obtain ⟨a, c, rfl, hc⟩ := Nk hs
 unfold aqQ Pm
 refine gA fun w1 o1 x1 s1 => ?_
 simp only [Value.cells] at o1
 have c0 := o1.cell (off := 0)
 have c1 := o1.cell (off := 1)
 simp only [aI0, aI1] at c0 c1
 simp (disch := omega) only [aC, fJ, gH, aIZ, aA, bZ, pF, c0, aG, nZ, c1, dZ, aT, true_and]
 exact x1
theorem aHx {x : Nat} (hx : x < 256) (w : aLl) : aR pg Bb #[.int .u8 x] w (fun r w' => r = .int .i64 (bl x : Nat) /\ w' = w) := by
 refine WE ?_
 have hg := arE x hx
 have hs := Qr
 have hb : bl x <= 8 := tR (n := 8) (by omega)
 unfold Vc DI
 change aC pg (IM 9 (.string axI) _) w _
 simp (disch := omega) only [aC, qD, aIY, hg, aA, kX, aT, and_true]
def Ze (w : aLl) (lo hi : Nat) (l : List UInt8) (left : Int) : Prop := ∃ v, cM w hi [v, .int .i64 left] /\ Bs w v l /\ AtI v lo hi
theorem Ze.ext {w w' : aLl} {lo hi : Nat} {left : Int} {l : List UInt8} {M : Nat -> Prop} (h : Ze w lo hi l left) (hx : aS w w' M) (hM : ∀ b, lo <= b -> b <= hi -> ¬ M b) (hlh : lo <= hi) : Ze w' lo hi l left := by
 obtain ⟨v, h1, h2, h3⟩ := h
 exact ⟨v, h1.ext hx (hM _ hlh (aI9 _)), h2.ext hx (h3 M fun b hb hh => hM b hb (by omega)), h3⟩
theorem alS {v : aLm} {l : List UInt8} {w : aLl} (h : Bs w v l) (he : afB l = none) (hl : l.length <= 1000000) :
 aR pg tQ #[v] w (fun r w' => r = .tuple #[.pointer none, .int .i64 11] /\ w' = w) := by
 refine Fs ?_
 unfold F8 wC
 rcases aJU l.length with h0 | h0
 .obtain ⟨a, n, c, rfl, hn, hc, hh⟩ := h
  rw [aJb, h0] at hn
  subst hn
  have d1 : (((0 : Nat) : Int) == 0) = true := rfl
  simp (disch := omega) only [aC, fH, true_and, dS, Result.ok.injEq, Next.value.injEq, and_true, aA, dZ, aT, pX, cK, d1, jH, bM, if_true, aF, dH]
 .obtain ⟨b, off, c, rfl, hc, hcell⟩ := aEf h h0
  rw [Km h0] at he
  have g := hcell (l.length - 1) (by omega)
  generalize (l[l.length - 1]'(by omega)) = x at *
  have hx0 : x.toNat = 0 := by
   rcases aJU x.toNat with h | h
   .exact h
   .rw [if_neg (by omega)] at he; cases he
  rw [hx0] at g
  have d1 : ((l.length : Int) == 0) = false := by simp; intro h; subst h; simp at h0
  have e1 : (l.length : Int) - 1 = ((l.length - 1 : Nat) : Int) := by omega
  have d2 : (((0 : Nat) : Int) == 0) = true := rfl
  simp (disch := omega) only [aC, fH, true_and, dS, Result.ok.injEq, Next.value.injEq, and_true, aA, dZ, e1, aT, mJ, aIY, kJ, pX, cK, d1, dG, bM, aI5, if_false, bP, g, aG, d2, aF]
theorem aqL {v : aLm} {l : List UInt8} {k : Nat} {w : aLl} (h : Bs w v l) (he : afB l = some k) (hl : l.length <= 1000000) :
 aR pg tQ #[v] w (fun r w' => ∃ hi, r = .tuple #[.pointer (some ⟨hi, 0, none⟩), .int .i64 0] /\ w.heap.size <= hi /\ hi < w'.heap.size /\ Ze w' w.heap.size hi l k /\ aS w w' cI) := by
 refine Fs ?_
 unfold F8 wC
 have h0 := (Qm he).1
 obtain ⟨b, off, c, rfl, hc, hcell⟩ := aEf h h0
 rw [Km h0] at he
 have g := hcell (l.length - 1) (by omega)
 generalize (l[l.length - 1]'(by omega)) = x at *
 have hx : x.toNat < 256 := aJz x
 have hx0 : x.toNat ≠ 0 := by
  intro h; rw [if_pos h] at he; cases he
 rw [if_neg hx0] at he
 have he := aJj he
 have hb1 := HL hx0
 have hb2 : bl x.toNat <= 8 := tR (n := 8) (by omega)
 have d1 : ((l.length : Int) == 0) = false := by simp; intro h; subst h; simp at h0
 have e1 : (l.length : Int) - 1 = ((l.length - 1 : Nat) : Int) := by omega
 have d2 : ((x.toNat : Int) == 0) = false := by simpa using hx0
 simp (disch := omega) only [aC, fH, dS, Result.ok.injEq, Next.value.injEq, and_true, true_and, aA, dZ, e1, aT, mJ, aIY, kJ, pX, cK, d1, dG, bM, aI5, if_false, bP, g, aG, d2, aD]
 refine (VP (h.ext (aS.dr _ cI) (bU _)) (by omega)).mono ?_
 rintro r w1 ⟨o1, x1⟩
 have x01 : aS w w1 cI := (aS.dr w cI).seq x1
 have g1 := Ut g x01 (fun h => h)
 have hat := uD.atI o1
 have hs := o1.sl
 obtain ⟨a, c', rfl⟩ := o1.len
 have gd : (dr w).cell? ⟨b, off + (l.length - 1), none⟩ = some (.int .u8 (x.toNat : Nat)) := g
 simp (disch := omega) only [g1, aG, gd, Result.ok.injEq, Next.value.injEq, and_true, aA, true_and]
 refine (aHx hx _).mono ?_
 rintro r w2 ⟨rfl, rfl⟩
 have e2 : 8 * ((l.length - 1 : Nat) : Int) + (bl x.toNat : Nat) - 1 = (k : Int) := by omega
 simp (disch := omega) only [bN, aT, aA, dZ, e2, mE, true_and]
 refine gA fun w3 o3 x3 s3 => ?_
 simp only [Value.cells] at o3
 exact ⟨_, rfl, x01.size, by omega, ⟨_, o3, hs.ext x3 (bU _), hat⟩, x01.seq x3⟩
theorem atS {l : List UInt8} {lo hi : Nat} {left : Int} {w : aLl} (h : Ze w lo hi l left) :
 aR pg rB #[.pointer (some ⟨hi, 0, none⟩)] w (fun r w' => r = .int .i64 left /\ w' = w) := by
 refine PO ?_
 obtain ⟨v, o, hs, hat⟩ := h
 have c1 := o.cell (off := 1)
 simp only [aI0, aI1] at c1
 unfold MQ zJ
 simp (disch := omega) only [aC, jO, aJm, rI, aA, iY, aIZ, bZ, and_true, c1, aG, aD]
theorem aeK {l : List UInt8} {lo hi n : Nat} {left : Int} {w : aLl} (h : Ze w lo hi l left) (hlh : lo <= hi) (hn : n <= 56) (h1 : left <= 8 * l.length) (h2 : -1000000000 <= left) (hl : l.length <= 1000000) :
 aR pg oJ #[.pointer (some ⟨hi, 0, none⟩), .int .i64 n] w (fun r w' =>
  r = .int .u64 (vZ ((bK l).take left.toNat) n) /\ Ze w' lo hi l (left - n) /\ aS w w' (fun y => y = hi)) := by
 refine QH ?_
 unfold Le zK
 by_cases hn0 : n = 0
 .subst hn0
  have d1 : decide (((0 : Nat) : Int) < 1) = true := rfl
  simp (disch := omega) only [aC, jO, aJm, rI, dS, and_true, aA, iY, aIZ, bZ, true_and, mC, fS, dG, bM, aI5, if_false, bP, aW, d1, jH, if_true, aF, dH]
  have h0 : vZ ((bK l).take left.toNat) 0 = 0 := by
   have := Eg ((bK l).take left.toNat) 0
   rw [Nat.pow_zero] at this; omega
  exact ⟨by rw [h0] <;> rfl, by simpa using h, aS.refl _ _⟩
 obtain ⟨v, o, hs, hat⟩ := h
 have c0 := o.cell (off := 0)
 have c1 := o.cell (off := 1)
 have od := dT o
 have c0d := od.cell (off := 0)
 have c1d := od.cell (off := 1)
 simp only [aI0, aI1] at c0 c1 c0d c1d
 have d1 : decide ((n : Int) < 1) = false := by simp; omega
 have d2 : decide ((56 : Int) < (n : Int)) = false := by simp; omega
 obtain ⟨k0, hk0⟩ : ∃ k0, k0 = left.toNat := ⟨_, rfl⟩
 obtain ⟨th, hth⟩ : ∃ th, th = min n k0 := ⟨_, rfl⟩
 have e1 : (if (0 : Int) > left then 0 else left) = (k0 : Int) := by split <;> omega
 have e2 : (if (n : Int) < (k0 : Int) then (n : Int) else (k0 : Int)) = (th : Int) := by split <;> omega
 have e3 : (k0 : Int) - (th : Int) = ((k0 - th : Nat) : Int) := by omega
 have e4 : (n : Int) - (th : Int) = ((n - th : Nat) : Int) := by omega
 rw [<- hk0]
 have hlen : ((bK l).take k0).length = k0 := by rw [aJg, nV]; omega
 have hlast : vZ ((bK l).take k0) n = wA (((bK l).drop (k0 - th)).take th) * 2 ^ (n - th) := by
  unfold vZ
  rw [hlen, <- hth, List.drop_take, show k0 - (k0 - th) = th from by omega]
 have hlt := Eg ((bK l).take k0) n
 have hp : 2 ^ n <= 2 ^ 56 := aJa (by omega) hn
 have e5 : IntKind.u64.wrap (((wA (((bK l).drop (k0 - th)).take th) : Nat) : Int) * 2 ^ (min (n - th) IntKind.u64.bits)) = ((vZ ((bK l).take k0) n : Nat) : Int) := by
  rw [show min (n - th) IntKind.u64.bits = n - th from aJS (by have h64 : IntKind.u64.bits = 64 := rfl; omega), hlast]
  have e : ((wA (((bK l).drop (k0 - th)).take th) : Nat) : Int) * 2 ^ (n - th) = ((wA (((bK l).drop (k0 - th)).take th) * 2 ^ (n - th) : Nat) : Int) := by simp
  rw [e]
  rw [hlast] at hlt
  exact iI (by omega) (by omega)
 simp (disch := omega) only [aC, jO, aJm, rI, dS, and_true, aA, iY, aIZ, bZ, true_and, mC, fS, dG, bM, aI5, if_false, bP, aW, d1, dO, d2, c1, aG, Vf, e1, aoT, e2, c0d, c1d, dZ, e4, aT, Result.ok.injEq, Next.value.injEq, jB, iI, e3, aD]
 refine (aFb (l := l) (st := k0 - th) (n := th) (hs.ext (aS.dr _ cI) (bU _)) (by omega) (by omega) (by omega)).mono ?_
 rintro r w1 ⟨rfl, rfl⟩
 simp (disch := omega) only [mO, aIY, e5, c1d, aG, aA, dZ, aT, true_and]
 refine vP od rfl (by simp) fun w2 o2 x2 s2 => ?_
 simp only [aI2, aI3] at o2
 have x02 : aS w w2 (fun y => y = hi) := (aS.dr _ _).seq x2
 exact ⟨⟨_, o2, hs.ext x02 (hat _ fun b hb hh => by omega), hat⟩, x02⟩
def qY (L : List T3) (s : Int) : Nat := if 0 <= s then (match L[s.toNat]? with | some e => e.2.1.toNat | none => 0) else 0
def AO (L : List T3) (s : Int) (x : Nat) : Int := if 0 <= s then (match L[s.toNat]? with | some e => e.2.2 + x | none => 0) else 0
theorem aA8 {log lo hi : Nat} {a : Option Addr} {k c : Nat} {l : List UInt8} {left : Int} {w : aLl} (h : Ze w lo hi l left) (hlh : lo <= hi) (hhi : hi < w.heap.size) (hn : log <= 20) (h1 : left <= 8 * l.length) (h2 : -100000000 <= left) (hl : l.length <= 1000000) :
 aR pg Nh #[.agg #[.int .i64 log, .slice a k c], .pointer (some ⟨hi, 0, none⟩)] w (fun r w' => r = .int .i64 (vZ ((bK l).take left.toNat) log : Nat) /\ Ze w' lo hi l (left - log) /\ aS w w' (fun y => y = hi)) := by
 refine arS ?_
 unfold auD Rx
 refine gA fun w1 o1 x1 s1 => ?_
 simp only [Value.cells] at o1
 have c0 := o1.cell (off := 0)
 simp only [aI0, aI1] at c0
 simp (disch := omega) only [aC, mV, aA, bZ, c0, aG]
 refine (aeK (h.ext x1 (fun _ _ _ h => h) hlh) hlh (by omega) h1 (by omega) hl).mono ?_
 rintro r w2 ⟨rfl, b2, x2⟩
 have hlt := Eg ((bK l).take left.toNat) log
 have hp : 2 ^ log <= 2 ^ 20 := aJa (by omega) hn
 generalize vZ ((bK l).take left.toNat) log = x at *
 simp (disch := omega) only [cR, aT, aA, true_and]
 exact ⟨b2, (x1.mono fun _ _ h => h.elim).seq x2⟩
theorem aDB {log base b lo hi : Nat} {L : List T3} {v : aLm} {s : Int} {l : List UInt8} {left : Int} {w : aLl} (ht : Tbl w base b log L v) (hL : Low L) (hlen : L.length <= 1000000) (h : Ze w lo hi l left) (hlh : lo <= hi) (hhi : hi < w.heap.size) (hb : b ≠ hi) (h1 : left <= 8 * l.length) (h2 : -100000000 <= left) (hl : l.length <= 1000000) :
 aR pg Q6 #[v, .int .i64 s, .pointer (some ⟨hi, 0, none⟩)] w (fun r w' => r = .int .i64 (AO L s (vZ ((bK l).take left.toNat) (qY L s))) /\ Ze w' lo hi l (left - qY L s) /\ aS w w' (fun y => y = hi)) := by
 refine asZ ?_
 obtain ⟨rfl, hb0, ob⟩ := ht
 unfold ayQ U9
 refine gA fun w1 o1 x1 s1 => ?_
 simp only [Value.cells] at o1
 have c1 := o1.cell (off := 1)
 simp only [aI0, aI1] at c1
 have hbw := h.ext x1 (fun _ _ _ h => h) hlh
 by_cases hs0 : s < 0
 .have d1 : decide (s < 0) = true := by simpa using hs0
  have e1 : qY L s = 0 := by unfold qY; rw [if_neg (by omega)]
  have e2 : ∀ x, AO L s x = 0 := fun x => by unfold AO; rw [if_neg (by omega)]
  rw [e1]
  simp (disch := omega) only [aC, aW, d1, bR, aIZ, aA, dS, and_true, true_and, cW, jH, bM, if_true, aF, dH]
  exact ⟨by rw [e2], by simpa using hbw, x1.mono fun _ _ h => h.elim⟩
 have d1 : decide (s < 0) = false := by simpa using hs0
 obtain ⟨i, rfl⟩ : ∃ i : Nat, s = i := ⟨s.toNat, by omega⟩
 by_cases hge : L.length <= i
 .have d2 : decide ((L.length : Int) <= (i : Int)) = true := by simp; omega
  have hnone : L[i]? = none := aJk hge
  have e1 : qY L i = 0 := by unfold qY; simp [hnone]
  have e2 : ∀ x, AO L i x = 0 := fun x => by unfold AO; simp [hnone]
  rw [e1]
  simp (disch := omega) only [aC, aW, d1, bR, aIZ, aA, dS, and_true, true_and, cW, dG, bM, aI5, if_false, bP, c1, aG, fK, oD, d2, aF]
  exact ⟨by rw [e2], by simpa using hbw, x1.mono fun _ _ h => h.elim⟩
 have d2 : decide ((L.length : Int) <= (i : Int)) = false := by simp; omega
 have hlt : i < L.length := by omega
 have l1 := GD (off := i * 3) (ob.ext x1 (fun h => h)) (by rw [lY]; omega)
 rw [aoA hlt] at l1
 obtain ⟨n, hn, hn2, hb0', hb1⟩ := hL _ (aJh hlt)
 have hsome : L[i]? = some L[i] := aI7 hlt
 have e1 : qY L i = n := by unfold qY; simp [hsome, hn]
 have e2 : ∀ x : Nat, AO L i x = L[i].2.2 + x := fun x => by unfold AO; simp [hsome]
 generalize L[i] = e at *
 obtain ⟨e0, en, eb⟩ := e
 simp only at hn hb0' hb1 l1 e2
 subst hn
 rw [e1, e2]
 simp (disch := omega) only [aC, aW, d1, bR, aIZ, aA, dS, and_true, true_and, cW, dG, bM, aI5, if_false, bP, c1, aG, fK, oD, d2, iU, aIY, l1, aD]
 refine Kf fun w3 o3 x3 s3 => ?_
 refine Gx o3 rfl (by simp [one]) (by simp) fun w4 o4 x4 s4 => ?_
 simp only [aV, aI2, aI3] at o4
 have x14 : aS w1 w4 cI := x3.new x4 (by omega)
 have od := dT o4
 have k1 := o4.cell (off := 1)
 have k2 := o4.cell (off := 2)
 have k1d := od.cell (off := 1)
 have k2d := od.cell (off := 2)
 simp only [aI0, aI1] at k1 k2 k1d k2d
 simp (disch := omega) only [gV, aIZ, gJ, Result.ok.injEq, Next.value.injEq, and_true, aA, bZ, k1d, aG, true_and, k2d]
 have z3 := x3.size
 refine (aeK ((hbw.ext x14 (fun _ _ _ h => h) hlh).ext (aS.dr _ cI) (fun _ _ _ h => h) hlh) hlh (by omega) h1 (by omega) hl).mono ?_
 rintro r w5 ⟨rfl, b5, x5⟩
 have x45 : aS w4 w5 (fun y => y = hi) := (aS.dr _ _).seq x5
 have k2e := (o4.ext x45 (by omega)).cell (off := 2)
 simp only [aI0, aI1] at k2e
 have hlt := Eg ((bK l).take left.toNat) n
 have hp : 2 ^ n <= 2 ^ 20 := aJa (by omega) hn2
 generalize vZ ((bK l).take left.toNat) n = x at *
 simp (disch := omega) only [k2e, aG, cR, aT, aA, bN, true_and]
 exact ⟨b5, ((x1.seq x14).mono fun _ _ h => h.elim).seq x45⟩
theorem awW {a b : Nat} (ha : a < 2 ^ 62) (hb : b < 2 ^ 62) : orI .i64 (a : Int) (b : Int) = ((a ||| b : Nat) : Int) := by
 have h := Nat.or_lt_two_pow ha hb
 unfold orI
 have e : IntKind.i64.bits = 64 := rfl
 rw [e, BitVec.ofInt_natCast, BitVec.ofInt_natCast, BitVec.toNat_or, BitVec.toNat_ofNat, BitVec.toNat_ofNat, aJA (by omega), aJA (by omega)]
 exact aT (by omega) (by have : ((a ||| b : Nat) : Int) < ((2 ^ 62 : Nat) : Int) := by exact_mod_cast h
                         omega)
def avQ (w' : aLl) (lo hi p : Nat) (l : List UInt8) (r : aLm) : Prop := match Vr l with
 | .ok (n, rest) => r = .int .i64 n /\ Rdr w' lo hi p rest 0
 | .error e => e ≠ 0 /\ ∃ (n : Nat) (l' : List UInt8), r = .int .i64 n /\ Rdr w' lo hi p l' e
theorem YV (n : Nat) (hn : 1 <= n) : Kl [] 0 n = ([], [], 10) := by
 unfold Kl; rw [if_neg (by decide), if_pos (by simp; omega)]
theorem aiK (c : UInt8) (r : List UInt8) : Kl (c :: r) 0 1 = ([c], r, 0) := by
 unfold Kl; rw [if_neg (by decide), if_neg (by simp)] <;> rfl
theorem aEi (c d : UInt8) (r : List UInt8) : Kl (c :: d :: r) 0 2 = ([c, d], r, 0) := by
 unfold Kl; rw [if_neg (by decide), if_neg (by simp)] <;> rfl
theorem avI (c : UInt8) : Kl [c] 0 2 = ([], [c], 10) := by
 unfold Kl; rw [if_neg (by decide), if_pos (by simp)]
theorem ayR {lo hi p : Nat} {l : List UInt8} {w : aLl} (h : Rdr w lo hi p l 0) (hl : l.length <= 1000000000) :
 aR pg xQ #[.pointer (some ⟨p, 0, none⟩)] w (fun r w' => avQ w' lo hi p l r /\ aS w w' (fun y => y = p)) := by
 refine TB ?_
 obtain ⟨RR, hRR⟩ : ∃ RR : aLm -> aLl -> Prop, RR = fun r w' => avQ w' lo hi p l r /\ aS w w' (fun y => y = p) := ⟨_, rfl⟩
 rw [<- hRR]
 unfold Qt BD
 refine (R2 (n := 1) h hl (by omega)).mono ?_
 rintro r w1 ⟨rfl, h1, x1⟩
 cases l with
 | nil =>
   rw [YV 1 (by omega)] at h1 ⊢
   have d1 : decide ((0 : Int) < 128) = true := rfl
   have e0 : ((uB ([] : List UInt8) : Nat) : Int) = 0 := rfl
   simp (disch := omega) only [aC, e0, cR, aT, aA, aW, d1, dZ, mO, aF]
   rw [hRR]
   exact ⟨⟨by decide, 0, [], rfl, h1⟩, x1⟩
 | cons f r =>
   rw [aiK] at h1 ⊢
   have hf : uB [f] = f.toNat := by simp [uB]
   have hf8 : f.toNat < 256 := aJz f
   rw [hf]
   have hN : Vr (f :: r) = if f.toNat < 128 then .ok (f.toNat, r) else if f.toNat < 255 then aEN f.toNat r else aE0 r := rfl
   generalize f.toNat = x at *
   have ew : IntKind.i64.wrap (x : Int) = x := aT (by omega) (by omega)
   have hl' : r.length <= 1000000000 := by simp at hl; omega
   by_cases h128 : x < 128
   .have d1 : decide ((x : Int) < 128) = true := by simp; omega
    simp (disch := omega) only [aC, cR, ew, aA, aW, d1, dZ, aT, mO, aF]
    rw [hRR]
    refine ⟨?_, x1⟩
    unfold avQ
    rw [hN, if_pos h128]
    exact ⟨rfl, h1⟩
   have d1 : decide ((x : Int) < 128) = false := by simp; omega
   by_cases h255 : x < 255
   .have d2 : decide ((x : Int) < 255) = true := by simp; omega
    obtain ⟨m, hm⟩ : ∃ m, m = x - 128 := ⟨_, rfl⟩
    have e1 : (x : Int) - 128 = (m : Int) := by omega
    have e2 : IntKind.i64.wrap ((m : Int) * 2 ^ (min (8 : Int).toNat IntKind.i64.bits)) = ((m * 256 : Nat) : Int) := by
     rw [show min (8 : Int).toNat IntKind.i64.bits = 8 from rfl, show (m : Int) * 2 ^ 8 = ((m * 256 : Nat) : Int) by omega]
     exact aT (by omega) (by omega)
    simp (disch := omega) only [aC, cR, ew, aA, aW, d1, d2, dZ, e1, aT, mO, e2, aF, aD]
    refine (R2 (n := 1) h1 hl' (by omega)).mono ?_
    rintro v w2 ⟨rfl, h2, x2⟩
    have x12 := x1.seq x2
    cases r with
    | nil =>
      rw [YV 1 (by omega)] at h2 ⊢
      have e0 : ((uB ([] : List UInt8) : Nat) : Int) = ((0 : Nat) : Int) := rfl
      have e3 := awW (a := m * 256) (b := 0) (by omega) (by omega)
      have e4 : IntKind.i64.wrap ((0 : Nat) : Int) = ((0 : Nat) : Int) := rfl
      simp (disch := omega) only [e0, cR, e4, aA, ahI, e3]
      rw [hRR]
      refine ⟨?_, x12⟩
      unfold avQ
      rw [hN, if_neg h128, if_pos h255]
      exact ⟨by decide, m * 256, [], by simp, h2⟩
    | cons g s =>
      rw [aiK] at h2 ⊢
      have hg : uB [g] = g.toNat := by simp [uB]
      have hg8 : g.toNat < 256 := aJz g
      rw [hg]
      have hN2 : aEN x (g :: s) = .ok ((x - 128) * 256 + g.toNat, s) := rfl
      generalize g.toNat = y at *
      have ew2 : IntKind.i64.wrap (y : Int) = y := aT (by omega) (by omega)
      have e3 := awW (a := m * 256) (b := y) (by omega) (by omega)
      have e4 : (m * 256) ||| y = m * 256 + y := by
       rw [Nat.or_comm, show m * 256 = m * 2 ^ 8 from rfl, aBp (by omega)]; omega
      rw [e4] at e3
      simp (disch := omega) only [cR, ew2, aA, ahI, e3]
      rw [hRR]
      refine ⟨?_, x12⟩
      unfold avQ
      rw [hN, if_neg h128, if_pos h255, hN2, <- hm]
      exact ⟨rfl, h2⟩
   .have d2 : decide ((x : Int) < 255) = false := by simp; omega
    simp (disch := omega) only [aC, cR, ew, aA, aW, d1, d2, dZ, aT, mO, aD]
    refine (R2 (n := 2) h1 hl' (by omega)).mono ?_
    rintro v w2 ⟨rfl, h2, x2⟩
    have x12 := x1.seq x2
    rw [if_neg h128, if_neg h255] at hN
    cases r with
    | nil =>
      rw [YV 2 (by omega)] at h2 ⊢
      have e0 : ((uB ([] : List UInt8) : Nat) : Int) = ((0 : Nat) : Int) := rfl
      have e4 : IntKind.i64.wrap ((0 : Nat) : Int) = ((0 : Nat) : Int) := rfl
      have e5 : IntKind.i64.wrap (((0 : Nat) : Int) + 32512) = ((32512 : Nat) : Int) := rfl
      simp (disch := omega) only [e0, cR, e4, aA, bN, e5]
      rw [hRR]
      refine ⟨?_, x12⟩
      unfold avQ
      rw [hN]
      exact ⟨by decide, 32512, [], rfl, h2⟩
    | cons g s =>
      cases s with
      | nil =>
        rw [avI] at h2 ⊢
        have e0 : ((uB ([] : List UInt8) : Nat) : Int) = ((0 : Nat) : Int) := rfl
        have e4 : IntKind.i64.wrap ((0 : Nat) : Int) = ((0 : Nat) : Int) := rfl
        have e5 : IntKind.i64.wrap (((0 : Nat) : Int) + 32512) = ((32512 : Nat) : Int) := rfl
        simp (disch := omega) only [e0, cR, e4, aA, bN, e5]
        rw [hRR]
        refine ⟨?_, x12⟩
        unfold avQ
        rw [hN]
        exact ⟨by decide, 32512, [g], rfl, h2⟩
      | cons k s =>
        rw [aEi] at h2 ⊢
        have hg : uB [g, k] = g.toNat + 256 * k.toNat := by simp [uB]
        have hg8 : g.toNat < 256 := aJz g
        have hk8 : k.toNat < 256 := aJz k
        have hN3 : aE0 (g :: k :: s) = .ok (g.toNat + 256 * k.toNat + 32512, s) := rfl
        rw [hg]
        have hy : g.toNat + 256 * k.toNat < 65536 := by omega
        generalize g.toNat + 256 * k.toNat = y at *
        have ew2 : IntKind.i64.wrap (y : Int) = y := aT (by omega) (by omega)
        obtain ⟨z, hz⟩ : ∃ z, z = y + 32512 := ⟨_, rfl⟩
        have e5 : (y : Int) + 32512 = (z : Int) := by omega
        rw [<- hz] at hN3
        simp (disch := omega) only [cR, ew2, aA, bN, e5, aT]
        rw [hRR]
        refine ⟨?_, x12⟩
        unfold avQ
        rw [hN, hN3]
        exact ⟨rfl, h2⟩
abbrev TT := Nat × List T3
def TP (m k : Nat) : Nat := m / 2 ^ (6 - 2 * k) % 4
def QU (t : Nat -> TT) (k : Nat) (x : TT) : Nat -> TT := fun i => if i = k then x else t i
def EX (m : Nat) (o : Nat -> TT) : Nat -> (Nat -> TT) -> List UInt8 -> Except Int ((Nat -> TT) × List UInt8)
 | 0, t, l => .ok (t, l)
 | j + 1, t, l => match gY ((2 - j : Nat) : Int) ((TP m (2 - j) : Nat) : Int) l (o (2 - j)) with
   | .error e => .error e
   | .ok (x, n) => EX m o j (QU t (2 - j) x) (l.drop n)
def runT (t : Nat -> TT) (B : List Bool) (n : Nat) (k : Int) : List Sq × Int :=
 sqR (t 0).2 (t 1).2 (t 2).2 B n (rdL B k (t 0).1 : Nat) (rdL B (k - (t 0).1) (t 1).1 : Nat) (rdL B (k - (t 0).1 - (t 1).1) (t 2).1 : Nat) (k - (t 0).1 - (t 1).1 - (t 2).1)
def Fp (t : Nat -> TT) (n : Nat) (l : List UInt8) : Except Int (List Sq × (Nat -> TT)) := match afB l with
 | none => .error 11
 | some k => if (runT t (bK l) n k).2 < 0 then .error 11 else if 0 < (runT t (bK l) n k).2 then .error 15 else .ok ((runT t (bK l) n k).1, t)
def auW (o : Nat -> TT) (n : Nat) : List UInt8 -> Except Int (List Sq × (Nat -> TT))
 | [] => .error 10
 | m :: l => if m.toNat % 4 ≠ 0 then .error 11 else match EX m.toNat o 3 o l with
   | .error e => .error e
   | .ok (t, r) => Fp t n r
def BM (l : List UInt8) (o : Nat -> TT) : Except Int (List Sq × (Nat -> TT)) := match Vr l with
 | .error e => .error e
 | .ok (n, r) => if n = 0 then (if r = [] then .ok ([], o) else .error 15) else auW o n r
def Nl (o : Nat -> TT) : Prop := ∀ k, k < 3 -> (o k).2 ≠ [] -> yT k (o k)
theorem apF (m k : Nat) : TP m k < 4 := aKj _ (by omega)
theorem auA {m : Nat} {o : Nat -> TT} (ho : Nl o) : ∀ {j : Nat} {t t' : Nat -> TT} {l l' : List UInt8}, j <= 3 -> (∀ k, k + j < 3 -> yT k (t k)) -> EX m o j t l = .ok (t', l') -> (∀ k, k < 3 -> yT k (t' k)) /\ l'.length <= l.length
 | 0, t, t', l, l', _, hg, h => by cases h; exact ⟨fun k hk => hg k hk, aI9 _⟩
 | j + 1, t, t', l, l', hj, hg, h => by
   unfold EX at h
   split at h
   .cases h
   .rename_i x n hr
    obtain ⟨h1, h2⟩ := aoO (k := 2 - j) (by omega) (fun _ hne => ho (2 - j) (by omega) hne) hr
    obtain ⟨h3, h4⟩ := auA ho (by omega) (fun k hk => by
     unfold QU
     split
     .rename_i he; rw [he]; exact h1
     .exact hg k (by omega)) h
    exact ⟨h3, by rw [aJu] at h4; omega⟩
theorem Zw {k : Nat} {T : TT} (h : yT k T) {s : Nat} (hs : s < T.2.length) : ∃ e c : Nat × Nat, T.2[s]? = some ((e.1 : Int), (e.2 : Int), (c.1 : Int)) /\ e.1 < lI k /\ e.2 <= 20 /\ c.1 <= 100000 /\ c.1 + 2 ^ e.2 <= T.2.length := by
 have hm := aJh hs
 obtain ⟨n, h1, h2, h3, h4⟩ := h.low _ hm
 obtain ⟨c, h5, h6⟩ := h.sym _ hm
 have h7 := h.nxt _ hm
 have he : T.2[s]? = some T.2[s] := aI7 hs
 generalize T.2[s] = e at *
 obtain ⟨a, b, d⟩ := e
 simp only at h1 h2 h3 h4 h5 h6 h7
 obtain ⟨y, rfl⟩ : ∃ y : Nat, d = y := ⟨d.toNat, by omega⟩
 subst h1 h5
 rw [aIY] at h7
 refine ⟨(c, n), (y, 0), he, h6, h2, by simp only; omega, ?_⟩
 simp only
 generalize 2 ^ n = z at *
 omega
theorem XZ (B : List Bool) (left : Int) (n : Nat) : rdL B left n < 2 ^ n := Eg _ _
theorem aBg {L : List T3} {s : Nat} {c : Nat} {x y : Int} (h : L[s]? = some ((c : Int), x, y)) : sAt L s = c := by
 unfold sAt; rw [if_pos (by omega), aIY, h] <;> rfl
theorem RU {k : Nat} {T : TT} (h : yT k T) {s : Nat} (hs : s < T.2.length) (B : List Bool) (left : Int) : ∃ s' : Nat, (nR T.2 s B left).1 = s' /\ s' < T.2.length /\ left - 20 <= (nR T.2 s B left).2 /\ (nR T.2 s B left).2 <= left := by
 obtain ⟨e, c, h1, h2, h3, h4, h5⟩ := Zw h hs
 have hb : bAt T.2 s = e.2 := by unfold bAt; rw [if_pos (by omega), aIY, h1] <;> rfl
 have hr := XZ B left e.2
 refine ⟨c.1 + rdL B left e.2, ?_, by omega, ?_, ?_⟩
 .unfold nR nAt
  rw [hb, if_pos (by omega), aIY, h1]
  rfl
 .unfold nR; simp only; rw [hb]; omega
 .unfold nR; simp only; rw [hb]; omega
theorem Kd {k : Nat} (hk : k < 3) {T : TT} (h : yT k T) {s : Nat} (hs : s < T.2.length) (B : List Bool) (left : Int) : (vR k T.2 s B left).1 < 4294967296 /\ left - 31 <= (vR k T.2 s B left).2 /\ (vR k T.2 s B left).2 <= left := by
 obtain ⟨e, c, h1, h2, h3, h4, h5⟩ := Zw h hs
 have ha := VK hk e.1
 have he := aEl hk e.1 h2
 have hr := XZ B left ((lR k).getD e.1 0)
 unfold vR
 rw [aBg h1]
 simp only
 refine ⟨by omega, by omega, by omega⟩
theorem XG {k base lo hi b : Nat} {T : TT} {v : aLm} {s : Nat} {l : List UInt8} {left : Int} {w : aLl} (hg : vW w) (hk : k < 3) (ht : Tbl w base b T.1 T.2 v) (hG : yT k T) (hs : s < T.2.length) (h : Ze w lo hi l left) (hlh : lo <= hi) (hhi : hi < w.heap.size) (h1 : left <= 8 * l.length) (h2 : -100000000 <= left) (hl : l.length <= 1000000) :
 aR pg rH #[.int .i64 k, v, .int .i64 s, .pointer (some ⟨hi, 0, none⟩)] w (fun r w' => r = .int .u32 ((vR k T.2 s (bK l) left).1 : Nat) /\ Ze w' lo hi l (vR k T.2 s (bK l) left).2 /\ aS w w' (fun y => y = hi)) := by
 refine Um ?_
 obtain ⟨RR, hRR⟩ : ∃ RR : aLm -> aLl -> Prop, RR = fun r w' => r = .int .u32 ((vR k T.2 s (bK l) left).1 : Nat) /\ Ze w' lo hi l (vR k T.2 s (bK l) left).2 /\ aS w w' (fun y => y = hi) := ⟨_, rfl⟩
 rw [<- hRR]
 have hlen9 : T.2.length <= 512 := by rw [hG.len]; exact aJa (by omega) hG.lg
 obtain ⟨rfl, hb0, ob⟩ := ht
 unfold Ss Cv
 refine gA fun w1 o1 x1 s1 => ?_
 simp only [Value.cells] at o1
 have c1 := o1.cell (off := 1)
 simp only [aI0, aI1] at c1
 have hbw := h.ext x1 (fun _ _ _ h => h) hlh
 have d1 : decide ((s : Int) < 0) = false := by simp
 have d2 : decide ((T.2.length : Int) <= (s : Int)) = false := by simp; omega
 obtain ⟨e, c, e1, e2, e3, e4, e5⟩ := Zw hG hs
 have k0 := (ob.ext x1 (fun h => h)).cell (off := s * 3)
 rw [(Q7 e1).1] at k0
 have hc53 : lI k <= 53 := by rcases (show k = 0 ∨ k = 1 ∨ k = 2 by omega) with rfl | rfl | rfl <;> decide
 have ew : IntKind.i64.wrap (e.1 : Int) = (e.1 : Int) := aT (by omega) (by omega)
 simp (disch := omega) only [aC, aW, d1, bR, aIZ, aA, cW, dG, bM, aI5, if_false, bP, c1, aG, fK, oD, d2, iU, aIY, eH, kJ, k0, kX, ew, aD]
 refine (aEt (hg.ext x1) hk e2).mono ?_
 rintro r w2 ⟨rfl, x2⟩
 have ha := VK hk e.1
 have he := aEl hk e.1 e2
 have hr := XZ (bK l) left ((lR k).getD e.1 0)
 have hv : vR k T.2 s (bK l) left = ((sG k).getD e.1 0 + rdL (bK l) left ((lR k).getD e.1 0), left - (lR k).getD e.1 0) := by unfold vR; rw [aBg e1]
 rw [hv] at hRR
 simp (disch := omega) only [Kh, Ka, J3, aA]
 refine (aeK (hbw.ext x2 (fun _ _ _ h => h) hlh) hlh (by omega) h1 (by omega) hl).mono ?_
 rintro r w3 ⟨rfl, b3, x3⟩
 have hr' : vZ ((bK l).take left.toNat) ((lR k).getD e.1 0) = rdL (bK l) left ((lR k).getD e.1 0) := rfl
 rw [hr'] at *
 generalize rdL (bK l) left ((lR k).getD e.1 0) = x at *
 generalize (lR k).getD e.1 0 = n at *
 generalize (sG k).getD e.1 0 = y at *
 generalize 2 ^ n = z at *
 have ew2 : IntKind.u32.wrap (x : Int) = (x : Int) := w32 (by omega) (by omega)
 have ew3 : IntKind.u32.wrap ((y : Int) + (x : Int)) = ((y + x : Nat) : Int) := by rw [w32 (by omega) (by omega)]; omega
 simp (disch := omega) only [oQ, ew2, aA, bN, ew3]
 rw [hRR]
 exact ⟨rfl, b3, ((x1.seq x2).mono fun _ _ h => h.elim).seq x3⟩
theorem VT {w : aLl} {b : Nat} {cs cs' : List aLm} (h : cM w b cs) (h' : cM w b cs') : cs = cs' := by
 obtain ⟨T, lo, hi, h1, _⟩ := h
 obtain ⟨T', lo', hi', h2, _⟩ := h'
 rw [h1] at h2
 have h3 := aJj h2
 injection h3 with h4
 simpa using congrArg Array.toList h4
theorem F3.own {w w' : aLl} {base p : Nat} {T : TT} {v : aLm} {cs : List aLm} (h : F3 w base T v) (o : cM w p cs) (h0 : 0 < cs.length) (hc : ∀ u, cs[0]? ≠ some (.int .u8 u)) (x : aS w w' (fun y => y = p)) : F3 w' base T v := by
 rcases h with h | ⟨b, h1, h2, h3⟩
 .exact .inl h
 .refine .inr ⟨b, h1, h2, h3.ext x ?_⟩
  rintro rfl
  have e := VT h3 o
  subst e
  cases hT : T.2 with
  | nil => rw [hT] at h0; simp [fe] at h0
  | cons a r =>
    have := (Q7 (k := .u8) (L := T.2) (i := 0) (e := a) (by rw [hT] <;> rfl)).1
    exact hc _ this
def tvL (T : TT) (a : Option Addr) : aLm := .agg #[.int .i64 T.1, .slice a T.2.length T.2.length]
def c6 (o : Nat -> TT) (a : Nat -> Option Addr) : List aLm := [.int .i64 (o 0).1, .slice (a 0) (o 0).2.length (o 0).2.length, .int .i64 (o 1).1, .slice (a 1) (o 1).2.length (o 1).2.length, .int .i64 (o 2).1, .slice (a 2) (o 2).2.length (o 2).2.length]
def JV (w : aLl) (o : Nat -> TT) (a : Nat -> Option Addr) : Prop := ∀ k, k < 3 -> F3 w 0 (o k) (tvL (o k) (a k))
theorem JV.ext {w w' : aLl} {o : Nat -> TT} {a : Nat -> Option Addr} (h : JV w o a) (x : aS w w' cI) : JV w' o a := fun k hk => (h k hk).ext x fun _ _ _ h => h
theorem JV.own {w w' : aLl} {o : Nat -> TT} {a : Nat -> Option Addr} {p : Nat} {cs : List aLm} (h : JV w o a) (ho : cM w p cs) (h0 : 0 < cs.length) (hc : ∀ u, cs[0]? ≠ some (.int .u8 u)) (x : aS w w' (fun y => y = p)) : JV w' o a := fun k hk => (h k hk).own ho h0 hc x
theorem JV.rdr {w w' : aLl} {o : Nat -> TT} {a : Nat -> Option Addr} {lo hi p : Nat} {l : List UInt8} {e : Int} (h : JV w o a) (hr : Rdr w lo hi p l e) (x : aS w w' (fun y => y = p)) : JV w' o a := by
 obtain ⟨_, _, v, ho, hb, _⟩ := hr
 obtain ⟨va, vc, rfl, _⟩ := hb.len
 exact h.own ho (by simp) (fun u => by simp) x
def upA (a : Nat -> Option Addr) (k : Nat) (x : Option Addr) : Nat -> Option Addr := fun i => if i = k then x else a i
theorem JV.up {w : aLl} {o : Nat -> TT} {a : Nat -> Option Addr} {k : Nat} {T : TT} {x : Option Addr} (h : JV w o a) (hx : F3 w 0 T (tvL T x)) : JV w (QU o k T) (upA a k x) := fun i hi => by
 unfold QU upA
 split
 .exact hx
 .exact h i hi
def P2 (o : Nat -> TT) : List UInt8 -> Except Int ((Nat -> TT) × List UInt8)
 | [] => .error 10
 | m :: l => if m.toNat % 4 ≠ 0 then .error 11 else EX m.toNat o 3 o l
def Ho : aLm := .agg #[(.int .i64 0), (.slice none 0 0), (.int .i64 0), (.slice none 0 0), (.int .i64 0), (.slice none 0 0)]
def aCn (w : aLl) (lo p : Nat) (x : Except Int ((Nat -> TT) × List UInt8)) (r : aLm) : Prop := match x with
 | .error e => r = .tuple #[Ho, .int .i64 e] /\ e ≠ 0
 | .ok (t, l) => ∃ a, r = .tuple #[.agg (c6 t a).toArray, .int .i64 0] /\ JV w t a /\ Rdr w lo w.heap.size p l 0
theorem Qo {a mode : Int} {l : List UInt8} {T : TT} {e : Int} (h : gY a mode l T = .error e) : e ≠ 0 := by
 unfold gY at h
 split at h
 .cases h; decide
 split at h
 .cases h
 split at h
 .split at h
  .cases h; decide
  .split at h
   .cases h; decide
   .cases h
 split at h
 .split at h
  .cases h; decide
  .cases h
 .split at h
  .rename_i e' he
   cases h
   exact agP he
  .cases h
theorem aCI {o : Nat -> TT} {l : List UInt8} {e : Int} (h : P2 o l = .error e) : e ≠ 0 := by
 have ht : ∀ {m j : Nat} {t : Nat -> TT} {l : List UInt8}, EX m o j t l = .error e -> e ≠ 0 := by
  intro m j
  induction j with
  | zero => intro t l h; cases h
  | succ j ih =>
    intro t l h
    unfold EX at h
    split at h
    .rename_i e' he
     cases h
     exact Qo he
    .exact ih h
 cases l with
 | nil => cases h; decide
 | cons m l =>
   have hh : P2 o (m :: l) = if m.toNat % 4 ≠ 0 then .error 11 else EX m.toNat o 3 o l := rfl
   rw [hh] at h
   by_cases hm : m.toNat % 4 ≠ 0
   .rw [if_pos hm] at h; cases h; decide
   .rw [if_neg hm] at h; exact ht h
theorem aAE {x : Nat} (h : x < 256) : aeC .i64 (x : Int) 3 = ((x % 4 : Nat) : Int) := by
 have : ∀ k : Fin 256, aeC .i64 (k.val : Int) 3 = ((k.val % 4 : Nat) : Int) := by decide +kernel
 exact this ⟨x, h⟩
theorem abG (o : Nat -> TT) (a : Nat -> Option Addr) {k : Nat} (h : k < 3) : ((c6 o a).drop (k * 2)).take 2 = [.int .i64 (o k).1, .slice (a k) (o k).2.length (o k).2.length] := by
 rcases (show k = 0 ∨ k = 1 ∨ k = 2 by omega) with rfl | rfl | rfl <;> rfl
theorem awA (o : Nat -> TT) (a : Nat -> Option Addr) {k : Nat} (h : k < 3) (T : TT) (x : Option Addr) : aV (c6 o a) (k * 2) [.int .i64 T.1, .slice x T.2.length T.2.length] = c6 (QU o k T) (upA a k x) := by
 rcases (show k = 0 ∨ k = 1 ∨ k = 2 by omega) with rfl | rfl | rfl <;> rfl
theorem aF0 {x k : Nat} (hx : x < 256) (h : k < 3) : aeC .i64 ((x : Int).fdiv (2 ^ min (6 - 2 * k) IntKind.i64.bits)) 3 = ((TP x k : Nat) : Int) := by
 have h64 : IntKind.i64.bits = 64 := rfl
 have hf : (x : Int).fdiv (2 ^ min (6 - 2 * k) IntKind.i64.bits) = ((x / 2 ^ (6 - 2 * k) : Nat) : Int) := by
  rw [h64, aJS (by omega), show (2 : Int) ^ (6 - 2 * k) = ((2 ^ (6 - 2 * k) : Nat) : Int) by simp, aKF _ (Int.natCast_nonneg _)]
  rfl
 rw [hf, aAE (Nat.lt_of_le_of_lt (aK1 _ _) hx)]
 rfl
theorem RD {a mode : Int} {n : Nat} {l : List UInt8} {T T' : TT} (h : gY a mode l T = .ok (T', n)) : n <= l.length := by
 unfold gY at h
 split at h
 .cases h
 split at h
 .cases h; exact aJW _
 split at h
 .split at h
  .cases h
  .split at h
   .cases h
   .cases h; simp
 split at h
 .split at h
  .cases h
  .cases h; exact aJW _
 .split at h
  .cases h
  .rename_i lg ps u hr
   cases h
   have h4 := aqG hr
   rw [nV] at h4
   omega
theorem azW {p : Nat} {w : aLl} {x0 x1 x2 : Int} {a0 a1 a2 : Option Addr} {n0 n1 n2 : Nat} {c : List aLm} {e : aLm} (o : cM w p c) (hc : c.length = 6) {RR : aLm -> aLl -> Prop}
 (hR : ∀ w', aS w w' (fun y => y = p) -> RR (.tuple #[.agg #[.int .i64 x0, .slice a0 n0 n0, .int .i64 x1, .slice a1 n1 n1, .int .i64 x2, .slice a2 n2 n2], e]) w') :
 aC pg (aK 29 (.pointer (some ⟨p, 0, none⟩)) (.agg #[.int .i64 x0, .slice a0 n0 n0, .int .i64 x1, .slice a1 n1 n1, .int .i64 x2, .slice a2 n2 n2])) w fun _u w => mW pg 29 (.pointer (some ⟨p, 0, none⟩)) w fun r0 => RR (.tuple #[r0, e]) w := by
 match c, hc with
 | [c0, c1, c2, c3, c4, c5], _ =>
   refine jK o rfl (by simp [one]) (by simp) fun w6 o6 x6 s6 => ?_
   refine Aq o6 (by simp [aV]) ?_
   simp only [aV, aI2, aI3, aI4, aIX, aI6]
   exact hR _ x6
theorem aHr {w0 w : aLl} {lo hi p : Nat} {l : List UInt8} {o : Nat -> TT} {a : Nat -> Option Addr} (hg : vW w0) (x0 : aS w0 w cI) (hp : w0.heap.size <= p) (h : Rdr w lo hi p l 0) (hhi : hi <= w.heap.size) (hl : l.length <= 1000000) (hT : JV w o a) (hO : ∀ k, k < 3 -> (o k).2.length <= 1000000) :
 aR pg wS #[.pointer (some ⟨p, 0, none⟩), .agg (c6 o a).toArray] w (fun r w' => aCn w' lo p (P2 o l) r /\ aS w w' (fun y => y = p)) := by
 refine WQ ?_
 obtain ⟨RR, hRR⟩ : ∃ RR : aLm -> aLl -> Prop, RR = fun r w' => aCn w' lo p (P2 o l) r /\ aS w w' (fun y => y = p) := ⟨_, rfl⟩
 rw [<- hRR]
 have hpl := h.lt
 have err : ∀ {e : Int} {w' : aLl}, P2 o l = .error e -> aS w w' (fun y => y = p) -> RR (.tuple #[Ho, .int .i64 e]) w' := fun h x => by
  rw [hRR]; unfold aCn; rw [h]; exact ⟨⟨rfl, aCI h⟩, x⟩
 unfold U5 C0 CA
 refine gA fun w1 o1 x1 s1 => ?_
 have o1 : cM w1 w.heap.size (c6 o a) := o1
 refine iH fun w2 o2 x2 s2 => ?_
 have x12 := x1.seq x2
 have o1 := o1.ext x2 (fun h => h)
 have h2 := h.ext x12 (fun _ _ _ h => h)
 have hT2 := hT.ext x12
 refine (R2 (n := 1) h2 (by omega) (by omega)).mono ?_
 rintro r w3 ⟨rfl, h3, x3⟩
 have hT3 := hT2.rdr h2 x3
 have o1 := o1.ext x3 (by omega)
 have o2 := o2.ext x3 (by omega)
 have x13 : aS w w3 (fun y => y = p) := (x12.mono fun _ _ h => h.elim).seq x3
 cases l with
 | nil =>
   rw [YV 1 (by omega)] at h3 ⊢
   have e0 : ((uB ([] : List UInt8) : Nat) : Int) = 0 := rfl
   have e1 : IntKind.i64.wrap (0 : Int) = 0 := rfl
   have n1 : ((10 : Int) != 0) = true := rfl
   simp (disch := omega) only [aC, e0, cR, e1, dK, aA, EN, fB]
   refine (VM h3).mono ?_
   rintro r w4 ⟨rfl, hw⟩
   rw [hw]; clear hw w4
   simp (disch := omega) only [fB, n1, aA, aF]
   refine (VM h3).mono ?_
   rintro r w4 ⟨rfl, hw⟩
   rw [hw]; clear hw w4
   exact azW o2 rfl fun w' x => err rfl (x13.trans x fun b hb h => by omega)
 | cons m l =>
   rw [aiK] at h3 ⊢
   have h3 : Rdr w3 lo hi p l 0 := h3
   have hm8 : m.toNat < 256 := aJz m
   have hm1 : uB [m] = m.toNat := by simp [uB]
   have ew : IntKind.i64.wrap (m.toNat : Int) = (m.toNat : Int) := aT (by omega) (by omega)
   have ea := aAE hm8
   have n0 : ((0 : Int) != 0) = false := rfl
   have hH : P2 o (m :: l) = if m.toNat % 4 ≠ 0 then .error 11 else EX m.toNat o 3 o l := rfl
   rw [hm1]
   have hl' : l.length <= 1000000 := by simp at hl; omega
   generalize m.toNat = x at *
   simp (disch := omega) only [aC, cR, ew, dK, aA, EN, fB]
   refine (VM h3).mono ?_
   rintro r w4 ⟨rfl, hw⟩
   rw [hw]; clear hw w4
   by_cases h4 : x % 4 ≠ 0
   .have n1 : (((x % 4 : Nat) : Int) != 0) = true := by simp; omega
    rw [if_pos h4] at hH
    simp (disch := omega) only [fB, n0, ea, n1, aF, aA, aD]
    exact azW o2 rfl fun w' x => err hH (x13.trans x fun b hb h => by omega)
   rw [if_neg h4] at hH
   have n1 : (((x % 4 : Nat) : Int) != 0) = false := by simp; omega
   simp (disch := omega) only [fB, n0, ea, n1, aD, aA]
   refine (arX h3).mono ?_
   rintro r w4 ⟨rfl, hw⟩
   rw [hw]; clear hw w4
   refine (avG h3 (by omega) (by omega)).mono ?_
   rintro bv w4 ⟨hb4, hat4, h4r, x4⟩
   have htk : Kl l 0 l.length = (l, [], 0) := by unfold Kl; rw [if_neg (by decide), if_neg (by omega), aKA, List.drop_length]
   rw [htk] at hb4 h4r
   simp only at hb4 h4r
   have o1 := o1.ext x4 (by omega)
   have o2 := o2.ext x4 (by omega)
   have hT4 := hT3.rdr h3 x4
   have x14 := x13.seq x4
   have l1 := kT (off := 0) o1 (by simp [c6])
   simp only [c6, aI4, aIX, aI6] at l1
   simp (disch := omega) only [l1, aA]
   refine iH fun w5 o5 x5 s5 => ?_
   refine jK o5 rfl (by simp [one]) (by simp) fun w6 o6 x6 s6 => ?_
   have o6 : cM w6 w4.heap.size (c6 o a) := o6
   have x46 : aS w4 w6 cI := x5.new x6 (aI9 _)
   have o1 := o1.ext x46 (fun h => h)
   have o2 := o2.ext x46 (fun h => h)
   have hT6 := hT4.ext x46
   have h6 := h4r.ext x46 (fun _ _ _ h => h)
   have hb6 := hb4.ext x46 (bU _)
   have x16 := x14.more x46
   have z3 := x3.size
   have z4 := x4.size
   have z6 := x46.size
   unfold CS C9 CY Ct Cu
   obtain ⟨p8, hp8⟩ : ∃ p8, p8 = w4.heap.size := ⟨_, rfl⟩
   obtain ⟨p3, hp3⟩ : ∃ p3, p3 = w.heap.size := ⟨_, rfl⟩
   obtain ⟨p4, hp4⟩ : ∃ p4, p4 = w1.heap.size := ⟨_, rfl⟩
   rw [<- hp8] at o6 ⊢
   rw [<- hp3] at o1 ⊢
   rw [<- hp4] at o2 ⊢
   refine cC.rule (fun n (t : aLm × aLm) w' => ∃ (j : Nat) (b : aLm) (l' : List UInt8) (t' : Nat -> TT) (a' : Nat -> Option Addr), n = j /\ j <= 3 /\ t = (b, .int .i64 (3 - j : Nat)) /\ Bs w' b l' /\ AtS b (fun b => lo <= b /\ b < hi /\ b ≠ p) /\ l'.length <= l.length /\ cM w' p8 (c6 t' a') /\ JV w' t' a' /\ EX x o 3 o l = EX x o j t' l' /\ aS w6 w' (fun y => y = p8)) 3
    ⟨3, bv, l, o, a, rfl, aI9 _, rfl, hb6, hat4, aI9 _, o6, hT6, rfl, aS.refl _ _⟩ ?_
   rintro j t w7 ⟨n, bb, l', t', a', rfl, hj, rfl, hb7, hat7, hl7, o8, hT7, hE, x7⟩
   unfold zP EL EI D4 Ng D6
   have o17 := o1.ext x7 (by omega)
   have o27 := o2.ext x7 (by omega)
   have x07 : aS w0 w7 cI := by
    have : aS w w7 (fun y => y = p ∨ y = p8) := (x16.mono fun _ _ h => .inl h).seq (x7.mono fun _ _ h => .inr h)
    have z0 := x0.size
    exact x0.trans this fun b hb h => by omega
   have hg7 := hg.ext x07
   have hTo : JV w7 o a := fun k hk => (hT6 k hk).own o6 (by simp [c6]) (fun u => by simp [c6]) x7
   obtain ⟨ba, bc, rfl, hbc⟩ := hb7.len
   rw [aJb] at hb7 hat7 hbc ⊢
   have err7 : ∀ {e : Int} {w' : aLl}, EX x o j t' l' = .error e -> aS w7 w' (fun y => y = p4) -> RR (.tuple #[Ho, .int .i64 e]) w' := fun h x => by
    refine err (by rw [hH, hE, h]) ?_
    have x6' : aS w6 w7 (fun y => y = p ∨ y = p3 ∨ y = p4 ∨ y = p8) := x7.mono fun _ _ h => .inr (.inr (.inr h))
    exact (((x16.mono fun _ _ h => .inl h).seq x6').seq (x.mono fun _ _ h => .inr (.inr (.inl h)))).mono fun b hb h => by omega
   rcases j with _ | n
   .have d1 : decide (((3 - 0 : Nat) : Int) < 3) = false := rfl
    simp (disch := omega) only [aC, aW, d1, pX, aT, dS, and_true, true_and, aA, dZ, vY, EN, Result.ok.injEq, Next.value.injEq, aD]
    unfold zU
    refine (akN hb7 (by omega)).mono ?_
    rintro r w8 ⟨q, rfl, h8, x8⟩
    have o8' := o8.ext x8 (fun h => h)
    have hT8 := hT7.ext x8
    have hq1 := h8.1
    have hq2 := h8.2.1
    have hq8 := h8
    obtain ⟨_, _, qv, oq, hbq, hatq⟩ := h8
    obtain ⟨qa, qc, rfl, hqc⟩ := hbq.len
    rw [aJb] at hbq oq hqc hatq
    have lq := aaG (off := 0) oq (by simp)
    simp only [aI4, aIX, aI6] at lq
    simp (disch := omega) only [aC, rI, aA, lq]
    have hp7 : Rdr w7 lo hi p [] 0 := h6.ext x7 (fun b h1 h2 => by omega)
    have hp8 := hp7.ext x8 (fun _ _ _ h => h)
    obtain ⟨hpl1, hpl2, pv, op, _, _⟩ := hp8
    refine Zp op rfl (by simp [one]) (by simp) fun w9 o9 x9 s9 => ?_
    simp only [aV, aI2, aI3] at o9
    have z8 := x8.size
    have hT9 := hT8.own op (by simp) (fun u => by
     obtain ⟨pa, pn, pc, rfl, _⟩ : ∃ pa pn pc, pv = .slice pa pn pc /\ True := by
      rename_i hbp _
      obtain ⟨pa, pc, rfl, _⟩ := hbp.len
      exact ⟨_, _, _, rfl, trivial⟩
     simp) x9
    have z7 := x7.size
    have l8 := kT (off := 0) (o8'.ext x9 (by omega)) (by simp [c6])
    simp only [c6, aI4, aIX, aI6] at l8
    simp (disch := omega) only [l8, aA]
    refine azW ((o27.ext x8 (fun h => h)).ext x9 (by omega)) rfl fun w' x => ?_
    rw [hRR]
    unfold aCn
    rw [hH, hE]
    have hz' := x.size
    have hT' := fun (w9 w' : aLl) (h : JV w9 t' a') (o2 : cM w9 p4 [Value.int IntKind.i64 0, Value.slice none 0 0, Value.int IntKind.i64 0, Value.slice none 0 0, Value.int IntKind.i64 0, Value.slice none 0 0]) (x : aS w9 w' (fun y => y = p4)) => h.own o2 (by simp) (fun u => by simp) x
    refine ⟨⟨a', rfl, hT' _ _ hT9 ((o27.ext x8 (fun h => h)).ext x9 (by omega)) x, ?_⟩, ?_⟩
    .have hbq' := (hbq.ext x9 (hatq _ fun b hb => by omega)).ext x (hatq _ fun b hb => by omega)
     exact ⟨hpl1, by omega, _, o9.ext x (by omega), hbq', hatq.mono fun b hb => by omega⟩
    .have y1 : aS w w8 (fun y => y = p ∨ y = p4 ∨ y = p8) := ((x16.mono fun _ _ h => .inl h).seq (x7.mono fun _ _ h => .inr (.inr h))).seq (x8.mono fun _ _ h => h.elim)
     exact ((y1.seq (x9.mono fun _ _ h => .inl h)).seq (x.mono fun _ _ h => .inr (.inl h))).mono fun b hb h => by omega
   .obtain ⟨k, hk⟩ : ∃ k, k = 2 - n := ⟨_, rfl⟩
    have hk3 : k < 3 := by omega
    have ek : ((3 - (n + 1) : Nat) : Int) = (k : Int) := by omega
    have d1 : decide ((k : Int) < 3) = true := by simp; omega
    have e2 : (2 : Int) * (k : Int) = ((2 * k : Nat) : Int) := by omega
    have e6 : (6 : Int) - ((2 * k : Nat) : Int) = ((6 - 2 * k : Nat) : Int) := by omega
    have em := aF0 (x := x) (k := k) hm8 hk3
    have hS : EX x o (n + 1) t' l' = match gY (k : Int) ((TP x k : Nat) : Int) l' (o k) with
     | .error e => .error e
     | .ok (y, u) => EX x o n (QU t' k y) (l'.drop u) := by rw [hk] <;> rfl
    have hm4 := apF x k
    have l2 := fZ (off := k * 2) (dT o17) (by simp [c6]; omega)
    rw [abG _ _ hk3] at l2
    rw [ek]
    simp (disch := omega) only [aC, aW, d1, pX, e2, aT, cL, aIY, aIZ, dS, and_true, true_and, aA, dZ, e6, vY, EN, em, Result.ok.injEq, Next.value.injEq, l2, aF]
    have hl8 : l'.length <= 1000000 := by omega
    have hgd : vW (dr w7) := hg7.ext (aS.dr _ cI)
    have hbd : Bs (dr w7) (.slice ba l'.length bc) l' := hb7.ext (aS.dr _ cI) (bU _)
    have hTd : JV (dr w7) o a := hTo.ext (aS.dr _ cI)
    have z7 := x7.size
    refine Ek ?_ ?_
    .refine (aCb hgd hbd (fun _ => hl8) (hTd k hk3) (aJW _) (by omega) (hO k hk3)).mono ?_
     rintro r w8 ⟨hR, x8⟩
     have x78 : aS w7 w8 cI := (aS.dr _ _).seq x8
     have z8 := x78.size
     cases hE' : gY (k : Int) ((TP x k : Nat) : Int) l' (o k) with
     | error e =>
       rw [hE'] at hR hS
       have ne := Qo hE'
       have n1 : (e != 0) = true := by simpa using ne
       unfold aDt at hR
       subst hR
       simp (disch := omega) only [Kh, Ka, J3, Result.ok.injEq, Next.value.injEq, and_true, aA, true_and]
       refine kD fun w9 o9 x9 s9 => ?_
       refine eL o9 rfl (by simp [one]) (by simp) fun w10 o10 x10 s10 => ?_
       unfold pE
       simp (disch := omega) only [aC, fB, n1, dK, aA, mF, cL, aIY, aIZ, dS, Result.ok.injEq, Next.value.injEq, and_true, true_and, aF]
       have x710 : aS w7 w10 cI := x78.seq (x9.new x10 (aI9 _))
       exact azW (o27.ext x710 (fun h => h)) rfl fun w' x => err7 hS ((x710.mono fun _ _ h => h.elim).seq x)
     | ok yu =>
       obtain ⟨T, u⟩ := yu
       rw [hE'] at hR hS
       have hu := RD hE'
       unfold aDt at hR
       obtain ⟨t, rfl, hV⟩ := hR
       obtain ⟨ta, rfl⟩ := hV.form
       simp (disch := omega) only [Kh, Ka, J3, Result.ok.injEq, Next.value.injEq, and_true, aA, true_and]
       refine kD fun w9 o9 x9 s9 => ?_
       refine eL o9 rfl (by simp [one]) (by simp) fun w10 o10 x10 s10 => ?_
       have o10 : cM w10 w8.heap.size [.int .i64 T.1, .slice ta T.2.length T.2.length] := o10
       have x810 : aS w8 w10 cI := x9.new x10 (aI9 _)
       have x710 := x78.seq x810
       have l10 := fZ (off := 0) (dT o10) (by simp)
       simp only [aI4, aIX, aI6] at l10
       unfold pE
       simp (disch := omega) only [aC, fB, n0, dK, aA, mF, aIY, cL, aIZ, dS, Result.ok.injEq, Next.value.injEq, and_true, true_and, l10, aD]
       have x710 : aS w7 (dr w10) cI := x710.seq (aS.dr _ _)
       refine eL (o8.ext x710 (fun h => h)) rfl (by simp [one]) (by simp [c6]; omega) fun w11 o11 x11 s11 => ?_
       have x8N : aS w8 (dr w10) cI := x810.seq (aS.dr _ _)
       have o11 : cM w11 p8 (c6 (QU t' k T) (upA a' k ta)) := by rw [<- awA _ _ hk3]; exact o11
       have hbn : Bs w7 (.slice (kL ba bc u 1) (l'.length - u) (bc - u)) (l'.drop u) := by
        have := hb7.drop' (k := u) (by omega)
        rwa [<- aLf] at this
       have han := hat7.sub (mx := bc) (k := u) (sz := 1) (m := l'.length - u) (c' := bc - u) (by omega)
       have hV11 : F3 w11 0 T (tvL T ta) := (hV.ext x8N (fun _ _ _ h => h)).own (o8.ext x710 (fun h => h)) (by simp [c6]) (fun u => by simp [c6]) x11
       have hT11 : JV w11 t' a' := (hT7.ext x710).own (o8.ext x710 (fun h => h)) (by simp [c6]) (fun u => by simp [c6]) x11
       have hbn11 := (hbn.ext x710 (bU _)).ext x11 (han _ fun b hb => by omega)
       have hld : (l'.drop u).length <= l.length := by rw [aJu]; omega
       have e3 : ((k : Int) + 1) = ((3 - n : Nat) : Int) := by omega
       unfold uQ
       simp (disch := omega) only [aC, bN, e3, aT, aA]
       exact ⟨n, by omega, _, _, _, _, _, rfl, by omega, rfl, hbn11, han, hld, o11, hT11.up hV11, by rw [hE, hS], x7.seq ((x710.mono fun _ _ h => h.elim).seq x11)⟩
    .refine kD fun w9 o9 x9 s9 => ?_
     have l9 := fZ (off := k * 2) (o17.ext ((aS.dr _ cI).seq x9) (fun h => h)) (by simp [c6]; omega)
     rw [abG _ _ hk3] at l9
     simp (disch := omega) only [l9, true_and]
     refine (aCb (hgd.ext x9) (hbd.ext x9 (bU _)) (fun _ => hl8) (hTd.ext x9 k hk3) (aJW _) (by omega) (hO k hk3)).mono ?_
     rintro r w8 ⟨hR, x8⟩
     have x78 : aS w7 w8 cI := ((aS.dr _ _).seq x9).seq x8
     have z8 := x78.size
     have z88 := x8.size
     have hz7 : (dr w7).heap.size = w7.heap.size := rfl
     have o9 := o9.ext x8 (fun h => h)
     cases hE' : gY (k : Int) ((TP x k : Nat) : Int) l' (o k) with
     | error e =>
       rw [hE'] at hR hS
       have ne := Qo hE'
       have n1 : (e != 0) = true := by simpa using ne
       unfold aDt at hR
       subst hR
       simp (disch := omega) only [Kh, Ka, J3, Result.ok.injEq, Next.value.injEq, and_true, aA, true_and]
       refine eL o9 rfl (by simp [one]) (by simp) fun w10 o10 x10 s10 => ?_
       unfold pE
       simp (disch := omega) only [aC, fB, n1, dK, aA, mF, cL, aIY, aIZ, dS, Result.ok.injEq, Next.value.injEq, and_true, true_and, aF]
       have x710 : aS w7 w10 cI := x78.new x10 (by omega)
       exact azW (o27.ext x710 (fun h => h)) rfl fun w' x => err7 hS ((x710.mono fun _ _ h => h.elim).seq x)
     | ok yu =>
       obtain ⟨T, u⟩ := yu
       rw [hE'] at hR hS
       have hu := RD hE'
       unfold aDt at hR
       obtain ⟨t, rfl, hV⟩ := hR
       obtain ⟨ta, rfl⟩ := hV.form
       simp (disch := omega) only [Kh, Ka, J3, Result.ok.injEq, Next.value.injEq, and_true, aA, true_and]
       have hV8 := fun (w' : aLl) (x : aS w8 w' (fun y => y = (dr w7).heap.size)) => hV.own (base := 0) (p := (dr w7).heap.size) o9 (by simp) (fun u => by simp) x
       refine eL o9 rfl (by simp [one]) (by simp) fun w10 o10 x10 s10 => ?_
       have hV10 := hV8 w10 x10
       have o10 : cM w10 (dr w7).heap.size [.int .i64 T.1, .slice ta T.2.length T.2.length] := o10
       have x710 : aS w7 w10 cI := x78.new x10 (by omega)
       have l10 := fZ (off := 0) (dT o10) (by simp)
       simp only [aI4, aIX, aI6] at l10
       unfold pE
       simp (disch := omega) only [aC, fB, n0, dK, aA, mF, aIY, cL, aIZ, dS, Result.ok.injEq, Next.value.injEq, and_true, true_and, l10, aD]
       have x710 : aS w7 (dr w10) cI := x710.seq (aS.dr _ _)
       refine eL (o8.ext x710 (fun h => h)) rfl (by simp [one]) (by simp [c6]; omega) fun w11 o11 x11 s11 => ?_
       have o11 : cM w11 p8 (c6 (QU t' k T) (upA a' k ta)) := by rw [<- awA _ _ hk3]; exact o11
       have hbn : Bs w7 (.slice (kL ba bc u 1) (l'.length - u) (bc - u)) (l'.drop u) := by
        have := hb7.drop' (k := u) (by omega)
        rwa [<- aLf] at this
       have han := hat7.sub (mx := bc) (k := u) (sz := 1) (m := l'.length - u) (c' := bc - u) (by omega)
       have hV11 : F3 w11 0 T (tvL T ta) := (hV10.ext (aS.dr w10 cI) (fun _ _ _ h => h)).own (o8.ext x710 (fun h => h)) (by simp [c6]) (fun u => by simp [c6]) x11
       have hT11 : JV w11 t' a' := (hT7.ext x710).own (o8.ext x710 (fun h => h)) (by simp [c6]) (fun u => by simp [c6]) x11
       have hbn11 := (hbn.ext x710 (bU _)).ext x11 (han _ fun b hb => by omega)
       have hld : (l'.drop u).length <= l.length := by rw [aJu]; omega
       have e3 : ((k : Int) + 1) = ((3 - n : Nat) : Int) := by omega
       unfold uQ
       simp (disch := omega) only [aC, bN, e3, aT, aA]
       exact ⟨n, by omega, _, _, _, _, _, rfl, by omega, rfl, hbn11, han, hld, o11, hT11.up hV11, by rw [hE, hS], x7.seq ((x710.mono fun _ _ h => h.elim).seq x11)⟩
def upS (st : Nat -> Nat) (k x : Nat) : Nat -> Nat := fun i => if i = k then x else st i
def KP (r : Nat) : Nat := if r = 0 then 0 else if r = 1 then 2 else 1
theorem abC (r : Nat) : KP r < 3 := by unfold KP; split <;> (try split) <;> omega
def nxs (t : Nat -> TT) (B : List Bool) : Nat -> (Nat -> Nat) -> Int -> (Nat -> Nat) × Int
 | 0, st, left => (st, left)
 | j + 1, st, left => nxs t B j (upS st (KP (2 - j)) (nR (t (KP (2 - j))).2 (st (KP (2 - j)) : Nat) B left).1.toNat) (nR (t (KP (2 - j))).2 (st (KP (2 - j)) : Nat) B left).2
def sts (t : Nat -> TT) (B : List Bool) : Nat -> (Nat -> Nat) -> Int -> (Nat -> Nat) × Int
 | 0, st, left => (st, left)
 | j + 1, st, left => sts t B j (upS st (2 - j) (rdL B left (t (2 - j)).1)) (left - (t (2 - j)).1)
def sqF (t : Nat -> TT) (B : List Bool) (n : Nat) (st : Nat -> Nat) (left : Int) : List Sq × Int := sqR (t 0).2 (t 1).2 (t 2).2 B n (st 0 : Nat) (st 1 : Nat) (st 2 : Nat) left
def v3 (t : Nat -> TT) (B : List Bool) (st : Nat -> Nat) (left : Int) : Sq × Int :=
 let o := vR 1 (t 1).2 (st 1 : Nat) B left
 let m := vR 2 (t 2).2 (st 2 : Nat) B o.2
 let l := vR 0 (t 0).2 (st 0 : Nat) B m.2
 (⟨l.1, m.1, o.1⟩, l.2)
theorem aAr (t : Nat -> TT) (B : List Bool) (n : Nat) (k : Int) : runT t B n k = sqF t B n (sts t B 3 (fun _ => 0) k).1 (sts t B 3 (fun _ => 0) k).2 := rfl
theorem axJ (t : Nat -> TT) (B : List Bool) (st : Nat -> Nat) (left : Int) : sqF t B 1 st left = ([(v3 t B st left).1], (v3 t B st left).2) := rfl
def Sy (t : Nat -> TT) (st : Nat -> Nat) : Prop := ∀ k, k < 3 -> yT k (t k) /\ st k < (t k).2.length
theorem arC {t : Nat -> TT} {st : Nat -> Nat} (h : Sy t st) (B : List Bool) (m : Nat) (left : Int) :
 sqF t B (m + 2) st left = ((v3 t B st left).1 :: (sqF t B (m + 1) (nxs t B 3 st (v3 t B st left).2).1 (nxs t B 3 st (v3 t B st left).2).2).1, (sqF t B (m + 1) (nxs t B 3 st (v3 t B st left).2).1 (nxs t B 3 st (v3 t B st left).2).2).2) := by
 have hn : ∀ k, k < 3 -> ∀ x : Int, (((nR (t k).2 (st k : Nat) B x).1.toNat : Nat) : Int) = (nR (t k).2 (st k : Nat) B x).1 := fun k hk x => by
  obtain ⟨s', h1, _⟩ := RU (h k hk).1 (h k hk).2 B x
  rw [h1] <;> rfl
 unfold sqF
 rw [sqR, if_neg (by omega)]
 show ((v3 t B st left).1 :: _, _) = _
 have h0 := hn 0 (by omega) (v3 t B st left).2
 have h2 := hn 2 (by omega) (nR (t 0).2 (st 0 : Nat) B (v3 t B st left).2).2
 have h1 := hn 1 (by omega) (nR (t 2).2 (st 2 : Nat) B (nR (t 0).2 (st 0 : Nat) B (v3 t B st left).2).2).2
 have e0 : (nxs t B 3 st (v3 t B st left).2).1 0 = (nR (t 0).2 (st 0 : Nat) B (v3 t B st left).2).1.toNat := rfl
 have e2 : (nxs t B 3 st (v3 t B st left).2).1 2 = (nR (t 2).2 (st 2 : Nat) B (nR (t 0).2 (st 0 : Nat) B (v3 t B st left).2).2).1.toNat := rfl
 have e1 : (nxs t B 3 st (v3 t B st left).2).1 1 = (nR (t 1).2 (st 1 : Nat) B (nR (t 2).2 (st 2 : Nat) B (nR (t 0).2 (st 0 : Nat) B (v3 t B st left).2).2).2).1.toNat := rfl
 have e3 : (nxs t B 3 st (v3 t B st left).2).2 = (nR (t 1).2 (st 1 : Nat) B (nR (t 2).2 (st 2 : Nat) B (nR (t 0).2 (st 0 : Nat) B (v3 t B st left).2).2).2).2 := rfl
 rw [e0, e1, e2, e3, h0, h1, h2]
 rfl
theorem abB {t : Nat -> TT} {B : List Bool} : ∀ {j : Nat} {st : Nat -> Nat} {left : Int}, Sy t st -> Sy t (nxs t B j st left).1 /\ left - 20 * j <= (nxs t B j st left).2 /\ (nxs t B j st left).2 <= left
 | 0, st, left, h => ⟨h, by unfold nxs; simp, by unfold nxs; simp⟩
 | j + 1, st, left, h => by
   obtain ⟨s', h1, h2, h3, h4⟩ := RU (h _ (abC (2 - j))).1 (h _ (abC (2 - j))).2 B left
   rw [nxs]
   obtain ⟨g1, g2, g3⟩ := abB (B := B) (j := j) (st := upS st (KP (2 - j)) (nR (t (KP (2 - j))).2 (st (KP (2 - j)) : Nat) B left).1.toNat) (left := (nR (t (KP (2 - j))).2 (st (KP (2 - j)) : Nat) B left).2) (fun k hk => by
    unfold upS
    split
    .rename_i he; rw [he, h1]; exact ⟨(h _ (abC _)).1, h2⟩
    .exact h k hk)
   exact ⟨g1, by omega, by omega⟩
theorem aB8 {t : Nat -> TT} {st : Nat -> Nat} (h : Sy t st) (B : List Bool) (left : Int) : left - 93 <= (v3 t B st left).2 /\ (v3 t B st left).2 <= left := by
 obtain ⟨_, a1, a2⟩ := Kd (by omega) (h 1 (by omega)).1 (h 1 (by omega)).2 B left
 obtain ⟨_, b1, b2⟩ := Kd (by omega) (h 2 (by omega)).1 (h 2 (by omega)).2 B (vR 1 (t 1).2 (st 1 : Nat) B left).2
 obtain ⟨_, c1, c2⟩ := Kd (by omega) (h 0 (by omega)).1 (h 0 (by omega)).2 B (vR 2 (t 2).2 (st 2 : Nat) B (vR 1 (t 1).2 (st 1 : Nat) B left).2).2
 have e : (v3 t B st left).2 = (vR 0 (t 0).2 (st 0 : Nat) B (vR 2 (t 2).2 (st 2 : Nat) B (vR 1 (t 1).2 (st 1 : Nat) B left).2).2).2 := rfl
 rw [e]; omega
theorem awV {t : Nat -> TT} {B : List Bool} : ∀ {n : Nat} {st : Nat -> Nat} {left : Int}, Sy t st -> left - 160 * n <= (sqF t B n st left).2 /\ (sqF t B n st left).2 <= left /\ (sqF t B n st left).1.length = n
 | 0, st, left, h => ⟨by unfold sqF sqR; simp, by unfold sqF sqR; simp, rfl⟩
 | 1, st, left, h => by
   rw [axJ]
   have := aB8 h B left
   exact ⟨by simp only; omega, by simp only; omega, rfl⟩
 | n + 2, st, left, h => by
   rw [arC h]
   have h1 := aB8 h B left
   obtain ⟨g1, g2, g3⟩ := abB (B := B) (j := 3) (left := (v3 t B st left).2) h
   obtain ⟨k1, k2, k3⟩ := awV (B := B) (n := n + 1) (left := (nxs t B 3 st (v3 t B st left).2).2) g1
   exact ⟨by simp only; omega, by simp only; omega, by simp only [aJo]; omega⟩
theorem F3.tbl {w : aLl} {base : Nat} {T : TT} {v : aLm} (h : F3 w base T v) (h0 : 0 < T.2.length) : ∃ b, Tbl w base b T.1 T.2 v := by
 rcases h with ⟨e, _⟩ | h
 .rw [e] at h0; simp at h0
 .exact h
theorem aHc {w : aLl} {base b log p : Nat} {L : List T3} {v : aLm} {cs : List aLm} (h : Tbl w base b log L v) (hL : 0 < L.length) (o : cM w p cs) (hc : ∀ u, cs[0]? ≠ some (.int .u8 u)) : b ≠ p := by
 rintro rfl
 have e := VT h.2.2 o
 subst e
 cases hT : L with
 | nil => rw [hT] at hL; simp at hL
 | cons a r =>
   have := (Q7 (k := .u8) (L := L) (i := 0) (e := a) (by rw [hT] <;> rfl)).1
   exact hc _ this
def s3L (st : Nat -> Nat) : List aLm := [.int .i64 (st 0 : Nat), .int .i64 (st 1 : Nat), .int .i64 (st 2 : Nat)]
theorem atN (st : Nat -> Nat) {k : Nat} (h : k < 3) : (s3L st)[k]? = some (.int .i64 (st k : Nat)) := by
 rcases (show k = 0 ∨ k = 1 ∨ k = 2 by omega) with rfl | rfl | rfl <;> rfl
theorem axF (st : Nat -> Nat) {k : Nat} (h : k < 3) (x : Nat) : (s3L st).set k (.int .i64 (x : Nat)) = s3L (upS st k x) := by
 rcases (show k = 0 ∨ k = 1 ∨ k = 2 by omega) with rfl | rfl | rfl <;> rfl
theorem Ze.hd {w : aLl} {lo hi : Nat} {l : List UInt8} {left : Int} (h : Ze w lo hi l left) : ∃ cs, cM w hi cs /\ ∀ u, cs[0]? ≠ some (.int .u8 u) := by
 obtain ⟨v, h1, h2, h3⟩ := h
 obtain ⟨va, vc, rfl, _⟩ := h2.len
 exact ⟨_, h1, fun u => by simp⟩
theorem aAI {k5 : K8} {t5 n8 out t76 t77 : aLm} {pt ps lo hi : Nat} {t : Nat -> TT} {a : Nat -> Option Addr} {st : Nat -> Nat} {l : List UInt8} {left : Int} {w : aLl} (oT : cM w pt (c6 t a)) (hT : JV w t a) (oS : cM w ps (s3L st)) (hB : Ze w lo hi l left)
 (h1 : pt < lo) (h2 : lo <= hi) (h3 : hi < ps) (hG : Sy t st) (hl : l.length <= 1000000) (hb1 : left <= 8 * l.length) (hb2 : -90000000 <= left)
 (hk : ∀ w', cM w' ps (s3L (nxs t (bK l) 3 st left).1) -> Ze w' lo hi l (nxs t (bK l) 3 st left).2 -> aS w w' (fun y => y = hi ∨ y = ps) -> k5 t5 n8 (.pointer (some ⟨pt, 0, none⟩)) (.pointer (some ⟨hi, 0, none⟩)) (.pointer (some ⟨ps, 0, none⟩)) out t76 t77 w') :
 Ac k5 t5 n8 (.pointer (some ⟨pt, 0, none⟩)) (.pointer (some ⟨hi, 0, none⟩)) (.pointer (some ⟨ps, 0, none⟩)) out t76 t77 (.agg #[.int .i64 0, .int .i64 2, .int .i64 1]) (.int .i64 0) w := by
 have hps := oS.lt
 unfold Ac
 refine cC.rule (fun n (v : aLm) w' => ∃ (j : Nat) (st' : Nat -> Nat) (left' : Int), n = j /\ j <= 3 /\ v = .int .i64 (3 - j : Nat) /\ cM w' ps (s3L st') /\ Ze w' lo hi l left' /\ Sy t st' /\ JV w' t a /\ nxs t (bK l) 3 st left = nxs t (bK l) j st' left' /\ left - 20 * (3 - j : Nat) <= left' /\ left' <= left /\ aS w w' (fun y => y = hi ∨ y = ps)) 3
  ⟨3, st, left, rfl, aI9 _, rfl, oS, hB, hG, hT, rfl, by simp, Int.le_refl _, aS.refl _ _⟩ ?_
 rintro j v w1 ⟨n, st', left', rfl, hj, rfl, oS1, hB1, hG1, hT1, hE, hc1, hc2, x1⟩
 unfold zZ
 rcases j with _ | j
 .have d1 : decide (((3 - 0 : Nat) : Int) < 3) = false := rfl
  simp (disch := omega) only [aC, aW, d1, bN, aT, aA, true_and, aD]
  rw [hE] at hk
  exact hk _ oS1 hB1 x1
 .obtain ⟨r, hr⟩ : ∃ r, r = 2 - j := ⟨_, rfl⟩
  have hr3 : r < 3 := by omega
  have ek : ((3 - (j + 1) : Nat) : Int) = (r : Int) := by omega
  have d1 : decide ((r : Int) < 3) = true := by simp; omega
  rw [ek]
  have hN : nxs t (bK l) (j + 1) st' left' = nxs t (bK l) j (upS st' (KP r) (nR (t (KP r)).2 (st' (KP r) : Nat) (bK l) left').1.toNat) (nR (t (KP r)).2 (st' (KP r) : Nat) (bK l) left').2 := by rw [hr] <;> rfl
  have hx : (#[Value.int .i64 0, .int .i64 2, .int .i64 1] : Array aLm)[r]? = some (.int .i64 (KP r : Nat)) := by
   rcases (show r = 0 ∨ r = 1 ∨ r = 2 by omega) with rfl | rfl | rfl <;> rfl
  have hk3 := abC r
  obtain ⟨k, hkk⟩ : ∃ k, k = KP r := ⟨_, rfl⟩
  rw [<- hkk] at hx hk3 hN
  obtain ⟨hGk, hsk⟩ := hG1 k hk3
  have oT1 := oT.ext x1 (by omega)
  have l2 := fZ (off := k * 2) (dT oT1) (by simp [c6]; omega)
  rw [abG _ _ hk3] at l2
  have c2 := (dT oS1).cell (off := k)
  rw [atN _ hk3] at c2
  simp (disch := omega) only [aC, aW, d1, tL, aIY, hx, aG, bN, aT, aA, true_and, cL, aIZ, rS, bZ, l2, c2, aF]
  obtain ⟨b, htb⟩ := (hT1.ext (aS.dr w1 cI) k hk3).tbl (by omega)
  have hB1d : Ze (dr w1) lo hi l left' := hB1.ext (aS.dr _ cI) (fun _ _ _ h => h) h2
  obtain ⟨cs, oc, hcs⟩ := hB1d.hd
  have hne := aHc htb (by omega) oc hcs
  have hlt512 : (t k).2.length <= 512 := by rw [hGk.len]; exact aJa (by omega) hGk.lg
  have hbl := oc.lt
  refine (aDB htb hGk.low (by omega) hB1d h2 hbl hne (by omega) (by omega) hl).mono ?_
  rintro v w2 ⟨rfl, hB2, x2⟩
  obtain ⟨s', g1, g2, g3, g4⟩ := RU hGk hsk (bK l) left'
  have q1 : AO (t k).2 (st' k : Nat) (vZ ((bK l).take left'.toNat) (qY (t k).2 (st' k : Nat))) = (nR (t k).2 (st' k : Nat) (bK l) left').1 := rfl
  have q2 : left' - (qY (t k).2 (st' k : Nat) : Nat) = (nR (t k).2 (st' k : Nat) (bK l) left').2 := rfl
  rw [q1, g1]
  rw [q2] at hB2
  rw [g1, aIY] at hN
  have x12 : aS w1 w2 (fun y => y = hi) := (aS.dr _ _).seq x2
  have hTd : JV (dr w1) t a := hT1.ext (aS.dr w1 cI)
  have hT2 : JV w2 t a := hTd.own oc (by
   rcases hcl : cs with _ | ⟨c0, cr⟩
   .obtain ⟨v, hv, _⟩ := hB1d
    have := VT oc hv
    rw [hcl] at this; cases this
   .simp) hcs x2
  have oS2 := oS1.ext x12 (by omega)
  refine vP oS2 rfl (by simp [s3L]; omega) fun w3 o3 x3 s3 => ?_
  rw [axF _ hk3] at o3
  have hT3 := hT2.own oS2 (by simp [s3L]) (fun u => by simp [s3L]) x3
  have e1 : (r : Int) + 1 = ((3 - j : Nat) : Int) := by omega
  simp (disch := omega) only [e1]
  refine ⟨j, by omega, _, _, _, rfl, by omega, rfl, o3, hB2.ext x3 (fun b _ _ => by omega) h2, fun i hi => ?_, hT3, by rw [hE, hN], by omega, by omega, (x1.seq (x12.mono fun _ _ h => .inl h)).seq (x3.mono fun _ _ h => .inr h)⟩
  unfold upS
  split
  .rename_i he; rw [he]; exact ⟨hGk, g2⟩
  .exact hG1 i hi
end Go.Proofs.YtaggdjhhmbnhoaaDoor
namespace Go.En
open Go
theorem OSS.ext {w w' : aLl} {S M : Nat -> Prop} {sz n : Nat} {v : aLm} {l : List aLm} (h : OSS w S sz v n l) (hx : aS w w' M) (hM : ∀ b, S b -> ¬ M b) : OSS w' S sz v n l := by
 refine ⟨h.1, ?_⟩
 rcases h.2 with h2 | ⟨b, c, rest, h1, h2, h3, h4, h5⟩
 .exact .inl h2
 .exact .inr ⟨b, c, rest, h1, h2, h3.ext hx (hM b h2), h4, h5⟩
theorem uD.ne {w : aLl} {base p sz n : Nat} {v : aLm} {l : List aLm} (h : uD w base sz v n l) (hp : w.heap.size <= p) : OSS w (fun b => base <= b /\ b ≠ p) sz v n l := by
 refine ⟨h.1, ?_⟩
 rcases h.2 with h2 | ⟨b, c, rest, h1, h2, h3, h4, h5⟩
 .exact .inl h2
 .have := h3.lt
  exact .inr ⟨b, c, rest, h1, ⟨h2, by omega⟩, h3, h4, h5⟩
theorem OSS.osl {w : aLl} {base p sz n : Nat} {v : aLm} {l : List aLm} (h : OSS w (fun b => base <= b /\ b ≠ p) sz v n l) : uD w base sz v n l := by
 refine ⟨h.1, ?_⟩
 rcases h.2 with h2 | ⟨b, c, rest, h1, h2, h3, h4, h5⟩
 .exact .inl h2
 .exact .inr ⟨b, c, rest, h1, h2.1, h3, h4, h5⟩
theorem OSS.len {w : aLl} {S : Nat -> Prop} {sz n : Nat} {v : aLm} {l : List aLm} (h : OSS w S sz v n l) : ∃ a c, v = .slice a n c := by
 rcases h.2 with ⟨h1, rfl⟩ | ⟨b, c, rest, h1, _⟩
 .exact ⟨_, _, h1⟩
 .exact ⟨_, _, h1⟩
end Go.En
namespace Go.Proofs.YtaggdjhhmbnhoaaDoor
open Go Go.En Go.Pu
set_option maxRecDepth 4000
def TQ (q : Sq) : List aLm := [.int .u32 q.ll, .int .u32 q.ml, .int .u32 q.of]
def TR (l : List Sq) : List aLm := l.flatMap TQ
theorem arG (l : List Sq) (q : Sq) : TR (l ++ [q]) = TR l ++ TQ q := by unfold TR; rw [List.flatMap_append]; simp
theorem Ze.hd0 {w : aLl} {lo hi : Nat} {l : List UInt8} {left : Int} {cs : List aLm} (h : Ze w lo hi l left) (o : cM w hi cs) : 0 < cs.length := by
 obtain ⟨v, h1, _⟩ := h
 rw [VT o h1]; simp
theorem JV.ownM {w w' : aLl} {o : Nat -> TT} {a : Nat -> Option Addr} {M : Nat -> Prop} (h : JV w o a) (hM : ∀ b, M b -> ∃ cs, cM w b cs /\ 0 < cs.length /\ ∀ u, cs[0]? ≠ some (.int .u8 u)) (x : aS w w' M) : JV w' o a := fun k hk => by
 rcases h k hk with h | ⟨b, h1, h2, h3⟩
 .exact .inl h
 .refine .inr ⟨b, h1, h2, h3.ext x fun hb => ?_⟩
  obtain ⟨cs, hc1, hc2, hc3⟩ := hM b hb
  have e := VT h3 hc1
  subst e
  cases hT : (o k).2 with
  | nil => rw [hT] at hc2; simp [fe] at hc2
  | cons y r =>
    have := (Q7 (k := .u8) (L := (o k).2) (i := 0) (e := y) (by rw [hT] <;> rfl)).1
    exact hc3 _ this
theorem aAX {k3 : K4} {t5 : aLm} {n pt ps lo hi : Nat} {t : Nat -> TT} {a : Nat -> Option Addr} {st : Nat -> Nat} {l : List UInt8} {left : Int} {w0 w : aLl} (hn : 1 <= n /\ n <= 98047) (hg : vW w0) (x0 : aS w0 w cI) (oT : cM w pt (c6 t a)) (hT : JV w t a) (oS : cM w ps (s3L st)) (hB : Ze w lo hi l left)
 (h0 : w0.heap.size <= pt) (h1 : pt < lo) (h2 : lo <= hi) (h3 : hi < ps) (hG : Sy t st) (hl : l.length <= 1000000) (hb1 : left <= 8 * l.length) (hb2 : -1000 <= left)
 (hk : ∀ w' out, uD w' w.heap.size 3 out n (TR (sqF t (bK l) n st left).1) -> Ze w' lo hi l (sqF t (bK l) n st left).2 -> cM w' pt (c6 t a) -> JV w' t a -> aS w w' (fun y => y = hi ∨ y = ps) -> k3 t5 (.pointer (some ⟨pt, 0, none⟩)) (.pointer (some ⟨hi, 0, none⟩)) out w') :
 yN k3 t5 (.int .i64 n) (.pointer (some ⟨pt, 0, none⟩)) (.pointer (some ⟨hi, 0, none⟩)) (.pointer (some ⟨ps, 0, none⟩)) (.slice none 0 0) (.int .i64 n) (.int .i64 0) w := by
 have hps := oS.lt
 have z0 := x0.size
 have hTx : ∀ {w' : aLl}, aS w w' (fun y => y = hi ∨ y = ps) -> JV w' t a := fun x => by
  obtain ⟨cs, oc, hcs⟩ := hB.hd
  refine hT.ownM (fun b hb => ?_) x
  rcases hb with rfl | rfl
  .exact ⟨cs, oc, hB.hd0 oc, hcs⟩
  .exact ⟨_, oS, by simp [s3L], fun u => by simp [s3L]⟩
 unfold yN
 refine cC.rule (fun m (v : aLm × aLm) w' => ∃ (i : Nat) (out : aLm) (qs : List Sq) (st' : Nat -> Nat) (left' : Int), m = n - i /\ i < n /\ v = (out, .int .i64 i) /\ qs.length = i /\ uD w' w.heap.size 3 out i (TR qs) /\ cM w' ps (s3L st') /\ Ze w' lo hi l left' /\ Sy t st' /\ JV w' t a /\
  sqF t (bK l) n st left = (qs ++ (sqF t (bK l) (n - i) st' left').1, (sqF t (bK l) (n - i) st' left').2) /\ left - 160 * i <= left' /\ left' <= left /\ aS w w' (fun y => y = hi ∨ y = ps)) n
  ⟨0, _, [], st, left, rfl, by omega, rfl, rfl, uD.nil _ _ _, oS, hB, hG, hT, rfl, by simp, Int.le_refl _, aS.refl _ _⟩ ?_
 rintro m v w1 ⟨i, out, qs, st', left', rfl, hin, rfl, hqs, os1, oS1, hB1, hG1, hT1, hE, hc1, hc2, x1⟩
 have d1 : decide ((i : Int) < (n : Int)) = true := by simp; omega
 unfold yD C5
 simp (disch := omega) only [aC, aW, d1, aA, aF]
 unfold DN Eb Nf DF
 refine Je fun w2 o2 x2 s2 => ?_
 obtain ⟨hG0, hs0⟩ := hG1 0 (by omega)
 obtain ⟨hGo, hso⟩ := hG1 1 (by omega)
 obtain ⟨hGm, hsm⟩ := hG1 2 (by omega)
 have z1 := x1.size
 have oT2 := (oT.ext x1 (by omega)).ext x2 (fun h => h)
 have oS2 := oS1.ext x2 (fun h => h)
 have hB2 := hB1.ext x2 (fun _ _ _ h => h) h2
 have hT2 := hT1.ext x2
 have os2 := (os1.ne (aI9 w1.heap.size)).ext x2 (fun b _ h => h)
 have x02 : aS w0 w2 cI := x0.trans (x1.seq (x2.mono fun _ _ h => h.elim)) fun b hb h => by omega
 have t1 : (1 : Int).toNat = 1 := rfl
 have t2 : (2 : Int).toNat = 2 := rfl
 have t0 : (0 : Int).toNat = 0 := rfl
 obtain ⟨pq, hpq⟩ : ∃ pq, pq = w1.heap.size := ⟨_, rfl⟩
 rw [<- hpq] at o2 os2 ⊢
 have hpq2 : ps < pq := by have := oS1.lt; omega
 have hpw : w.heap.size <= pq := by omega
 have hnb : ∀ (w' : aLl), Ze w' lo hi l left -> True := fun _ _ => trivial
 have xx2 : aS w1 w2 (fun y => y = hi ∨ y = pq) := x2.mono fun _ _ h => h.elim
 have hc3 : -90000000 <= left' - 200 := by omega
 have l2 := fZ (off := 2) oT2 (by simp [c6])
 have c2 := oS2.cell (off := 1)
 rw [atN _ (by omega)] at c2
 simp only [c6, aJK, aI4, aIX, aI6] at l2
 simp (disch := omega) only [aC, cL, t1, aIZ, rS, fI, t2, fY, t0, eP, dZ, aT, lL, aA, cK, bZ, l2, c2, aG]
 obtain ⟨b2, ht2⟩ := (hT2 1 (by omega)).tbl (by omega)
 obtain ⟨cs2, oc2, hcs2⟩ := hB2.hd
 have hhi2 := oc2.lt
 refine (XG (k := 1) (T := t 1) (s := st' 1) (hg.ext x02) (by omega) ht2 hGo hso hB2 h2 hhi2 (by omega) (by omega) hl).mono ?_
 rintro r u2 ⟨rfl, hBv2, xv2⟩
 obtain ⟨hv2, hw21, hw22⟩ := Kd (k := 1) (by omega) hGo hso (bK l) left'
 have oTv2 := oT2.ext xv2 (by omega)
 have oSv2 := oS2.ext xv2 (by omega)
 have hTv2 := hT2.own oc2 (hB2.hd0 oc2) hcs2 xv2
 have osv2 := os2.ext xv2 (fun b h e => by omega)
 have oqv2 := o2.ext xv2 (by omega)
 have x0v2 : aS w0 u2 cI := x02.trans xv2 fun b hb h => by omega
 refine FT oqv2 rfl (by simp) fun w3 o3 x3 s3 => ?_
 simp only [aI2, aI3] at o3
 have oT3 := oTv2.ext x3 (by omega)
 have oS3 := oSv2.ext x3 (by omega)
 have hT3 := hTv2.own oqv2 (by simp) (fun u => by simp) x3
 have os3 := osv2.ext x3 (fun b h e => h.2 e)
 have hB3 := hBv2.ext x3 (fun b _ _ => by omega) h2
 have x03 : aS w0 w3 cI := x0v2.trans x3 fun b hb h => by omega
 have xx3 : aS w1 w3 (fun y => y = hi ∨ y = pq) := (xx2.seq (xv2.mono fun _ _ h => .inl h)).seq (x3.mono fun _ _ h => .inr h)
 have l3 := fZ (off := 4) oT3 (by simp [c6])
 have c3 := oS3.cell (off := 2)
 rw [atN _ (by omega)] at c3
 simp only [c6, aJK, aI4, aIX, aI6] at l3
 simp (disch := omega) only [l3, aA, c3, aG]
 obtain ⟨b3, ht3⟩ := (hT3 2 (by omega)).tbl (by omega)
 obtain ⟨cs3, oc3, hcs3⟩ := hB3.hd
 have hhi3 := oc3.lt
 refine (XG (k := 2) (T := t 2) (s := st' 2) (hg.ext x03) (by omega) ht3 hGm hsm hB3 h2 hhi3 (by omega) (by omega) hl).mono ?_
 rintro r u3 ⟨rfl, hBv3, xv3⟩
 obtain ⟨hv3, hw31, hw32⟩ := Kd (k := 2) (by omega) hGm hsm (bK l) (vR 1 (t 1).2 (st' 1 : Nat) (bK l) left').2
 have oTv3 := oT3.ext xv3 (by omega)
 have oSv3 := oS3.ext xv3 (by omega)
 have hTv3 := hT3.own oc3 (hB3.hd0 oc3) hcs3 xv3
 have osv3 := os3.ext xv3 (fun b h e => by omega)
 have oqv3 := o3.ext xv3 (by omega)
 have x0v3 : aS w0 u3 cI := x03.trans xv3 fun b hb h => by omega
 refine FT oqv3 rfl (by simp) fun w4 o4 x4 s4 => ?_
 simp only [aI2, aI3] at o4
 have oT4 := oTv3.ext x4 (by omega)
 have oS4 := oSv3.ext x4 (by omega)
 have hT4 := hTv3.own oqv3 (by simp) (fun u => by simp) x4
 have os4 := osv3.ext x4 (fun b h e => h.2 e)
 have hB4 := hBv3.ext x4 (fun b _ _ => by omega) h2
 have x04 : aS w0 w4 cI := x0v3.trans x4 fun b hb h => by omega
 have xx4 : aS w1 w4 (fun y => y = hi ∨ y = pq) := (xx3.seq (xv3.mono fun _ _ h => .inl h)).seq (x4.mono fun _ _ h => .inr h)
 have l4 := fZ (off := 0) oT4 (by simp [c6])
 have c4 := oS4.cell (off := 0)
 rw [atN _ (by omega)] at c4
 simp only [c6, aJK, aI4, aIX, aI6] at l4
 simp (disch := omega) only [l4, aA, c4, aG]
 obtain ⟨b4, ht4⟩ := (hT4 0 (by omega)).tbl (by omega)
 obtain ⟨cs4, oc4, hcs4⟩ := hB4.hd
 have hhi4 := oc4.lt
 refine (XG (k := 0) (T := t 0) (s := st' 0) (hg.ext x04) (by omega) ht4 hG0 hs0 hB4 h2 hhi4 (by omega) (by omega) hl).mono ?_
 rintro r u4 ⟨rfl, hBv4, xv4⟩
 obtain ⟨hv4, hw41, hw42⟩ := Kd (k := 0) (by omega) hG0 hs0 (bK l) (vR 2 (t 2).2 (st' 2 : Nat) (bK l) (vR 1 (t 1).2 (st' 1 : Nat) (bK l) left').2).2
 have oTv4 := oT4.ext xv4 (by omega)
 have oSv4 := oS4.ext xv4 (by omega)
 have hTv4 := hT4.own oc4 (hB4.hd0 oc4) hcs4 xv4
 have osv4 := os4.ext xv4 (fun b h e => by omega)
 have oqv4 := o4.ext xv4 (by omega)
 have x0v4 : aS w0 u4 cI := x04.trans xv4 fun b hb h => by omega
 refine FT oqv4 rfl (by simp) fun w5 o5 x5 s5 => ?_
 simp only [aI2, aI3] at o5
 have oT5 := oTv4.ext x5 (by omega)
 have oS5 := oSv4.ext x5 (by omega)
 have hT5 := hTv4.own oqv4 (by simp) (fun u => by simp) x5
 have os5 := osv4.ext x5 (fun b h e => h.2 e)
 have hB5 := hBv4.ext x5 (fun b _ _ => by omega) h2
 have x05 : aS w0 w5 cI := x0v4.trans x5 fun b hb h => by omega
 have xx5 : aS w1 w5 (fun y => y = hi ∨ y = pq) := (xx4.seq (xv4.mono fun _ _ h => .inl h)).seq (x5.mono fun _ _ h => .inr h)
 obtain ⟨q, lf, hq⟩ : ∃ q lf, v3 t (bK l) st' left' = (q, lf) := ⟨_, _, rfl⟩
 have hq1 : (v3 t (bK l) st' left').1 = q := by rw [hq]
 have hq2 : (v3 t (bK l) st' left').2 = lf := by rw [hq]
 have hlf := aB8 hG1 (bK l) left'
 rw [hq2] at hlf
 have o5 : cM w5 pq (TQ (v3 t (bK l) st' left').1) := o5
 have hB5 : Ze w5 lo hi l (v3 t (bK l) st' left').2 := hB5
 rw [hq1] at o5
 rw [hq2] at hB5
 have l5 := F4 (off := 0) o5 (by simp [TQ])
 simp only [TQ, aI4, aIX, aI6] at l5
 simp (disch := omega) only [l5, aA]
 refine yF (cells := #[.int .u32 q.ll, .int .u32 q.ml, .int .u32 q.of]) (by decide) (by decide) (by kernel_rfl) fun w6 o6 x6 s6 => ?_
 have os6 := (os5.ext x6 (fun b _ h => h)).osl
 have z5 := xx5.size
 have z6 := x6.size
 refine nX (m := 1) (news := TQ q) os6 (o6.cl (off := 0) (l := TQ q) (n := 1) rfl (fun i hi => by rw [aIZ] <;> rfl)) (by simp [TQ, one]) (by omega) (by omega) fun v7 w7 o7 x7 => ?_
 rw [<- arG] at o7
 have oT7 := (oT5.ext x6 (fun h => h)).ext x7 (by omega)
 have oS7 := (oS5.ext x6 (fun h => h)).ext x7 (by omega)
 have hw6 : aS w1 w6 (fun y => y = hi ∨ y = ps) := (xx5.mono fun b hb h => by omega : aS w1 w5 (fun y => y = hi ∨ y = ps)).more x6
 have hw7 : aS w w7 (fun y => y = hi ∨ y = ps) := (x1.seq hw6).trans x7 fun b hb h => by omega
 have hB7 := (hB5.ext x6 (fun _ _ _ h => h) h2).ext x7 (fun b _ _ => by omega) h2
 have hT6 := hT5.ext x6
 have hT7 : JV w7 t a := hTx hw7
 by_cases hlast : i + 1 = n
 .have n1 : ((i : Int) == (n : Int) - 1) = true := by simp; omega
  simp (disch := omega) only [n1, aF]
  have h1 : n - i = 1 := by omega
  rw [h1, axJ, hq] at hE
  rw [hE] at hk
  rw [hlast] at o7
  exact hk _ _ o7 hB7 oT7 hT7 hw7
 .have n1 : ((i : Int) == (n : Int) - 1) = false := by simp; omega
  simp (disch := omega) only [n1, aD]
  unfold EB
  obtain ⟨m, hm⟩ : ∃ m, n - i = m + 2 := ⟨n - i - 2, by omega⟩
  have hm1 : n - (i + 1) = m + 1 := by omega
  have hE2 := arC hG1 (bK l) m left'
  rw [hq] at hE2
  simp only at hE2
  obtain ⟨g1, g2, g3⟩ := abB (B := bK l) (j := 3) (left := lf) hG1
  refine aAI oT7 hT7 oS7 hB7 h1 h2 h3 hG1 hl (by omega) (by omega) fun w8 oS8 hB8 x8 => ?_
  unfold zS
  have e1 : (i : Int) + 1 = ((i + 1 : Nat) : Int) := by omega
  simp (disch := omega) only [aC, bN, e1, aT, aA]
  have hT8 : JV w8 t a := hTx (hw7.seq x8)
  refine ⟨n - (i + 1), by omega, i + 1, _, qs ++ [q], _, _, rfl, by omega, rfl, by rw [aI8, hqs] <;> rfl, o7.ext x8 (fun b hb h => by omega), oS8, hB8, g1, hT8, ?_, by omega, by omega, hw7.seq x8⟩
  rw [hE, hm, hE2, hm1, aJc]
  rfl
def kv (q : Sq) (k : Nat) : Nat := if k = 0 then q.ll else if k = 1 then q.of else q.ml
def kvL (q : Sq) : List aLm := [.int .u32 (kv q 0 : Nat), .int .u32 (kv q 1 : Nat), .int .u32 (kv q 2 : Nat)]
theorem aHo (q : Sq) {k : Nat} (h : k < 3) : (kvL q).toArray[k]? = some (.int .u32 (kv q k : Nat)) := by
 rcases (show k = 0 ∨ k = 1 ∨ k = 2 by omega) with rfl | rfl | rfl <;> rfl
theorem aAH (q : Sq) (w : aLl) : aR pg tN #[.agg (TQ q).toArray] w (fun r w' => r = .agg (kvL q).toArray /\ aS w w' cI) := by
 refine TD ?_
 unfold P3 Bq
 refine gA fun w1 o1 x1 s1 => ?_
 have o1 : cM w1 w.heap.size (TQ q) := o1
 refine WY fun w2 o2 x2 s2 => ?_
 have o1 := o1.ext x2 (fun h => h)
 have z1 := x1.size
 have c0 := o1.cell (off := 0)
 have c1 := o1.cell (off := 1)
 have c2 := o1.cell (off := 2)
 simp only [TQ, aI0, aI1] at c0 c1 c2
 simp (disch := omega) only [aC, eP, fI, aIZ, fY, aA, mB, c0, aG, c2, c1, mZ]
 refine VE o2 rfl (by simp [one]) (by simp) fun w3 o3 x3 s3 => ?_
 refine apB o3 (by simp [aV]) ?_
 simp only [aV, aI2, aI3, aI4, aIX, aI6]
 exact ⟨rfl, (x1.seq x2).new x3 (by omega)⟩
theorem zI {w w' : aLl} {sz n : Nat} {v : aLm} {l : List aLm} {M : Nat -> Prop} (h : Cl w sz v n l) (x : aS w w' M) (hM : ¬ inB v M) (hs : 0 < sz) : Cl w' sz v n l := by
 obtain ⟨a, c, rfl, h1, h2⟩ := h
 refine ⟨a, c, rfl, h1, fun h0 => ?_⟩
 obtain ⟨b, off, rfl, h3⟩ := h2 h0
 refine ⟨b, off, rfl, fun i hi => ?_⟩
 have h4 := h3 i hi
 rw [aI7 hi] at h4 ⊢
 refine Ut h4 x fun hb => hM ?_
 obtain ⟨n, rfl⟩ : ∃ m, n = m + 1 := ⟨n - 1, by omega⟩
 exact hb
theorem aCE {l : List Sq} {i : Nat} {q : Sq} (h : l[i]? = some q) : ((TR l).drop (i * 3)).take 3 = TQ q := by
 induction l generalizing i with
 | nil => simp at h
 | cons a l ih =>
   have e : TR (a :: l) = TQ a ++ TR l := rfl
   rw [e]
   cases i with
   | zero =>
     simp only [aI0, Option.some.injEq] at h
     subst h
     simp [TQ]
   | succ i =>
     simp only [aI1] at h
     have hl : (TQ a).length = 3 := rfl
     rw [show (i + 1) * 3 = 3 + i * 3 by omega, List.drop_append, hl, show 3 + i * 3 - 3 = i * 3 by omega, aKa (by omega), aJM]
     exact ih h
theorem aoE {l : List Sq} {v : aLm} {w : aLl} (h : Cl w 3 v l.length (TR l)) {i : Nat} {q : Sq} (hq : l[i]? = some q) : ∃ b off c, v = .slice (some ⟨b, off, none⟩) l.length c /\
 (∀ w', (∀ x, w'.cell? x = w.cell? x) -> (aI 47 (.pointer (some ⟨b, off + i * 3, none⟩))).run pg w' = .ok (.value (.agg (TQ q).toArray)) w') := by
 obtain ⟨a, c, rfl, h1, h2⟩ := h
 have hi : i < l.length := by
  rcases aJl i l.length with h | h
  .exact h
  .rw [aJk h] at hq; cases hq
 obtain ⟨b, off, rfl, h3⟩ := h2 (by omega)
 refine ⟨b, off, c, rfl, fun w' hw => afN (l := TQ q) rfl fun j hj => ?_⟩
 have hj3 : j < 3 := hj
 have h4 := h3 (i * 3 + j) (by rw [h1]; omega)
 rw [hw, aKn, h4, <- aCE hq, aJF hj3, aKe]
structure C3 (w : aLl) (base : Nat) (L : Nat -> List Nat) (v : Nat -> aLm) (D : Nat -> Nat -> Prop) : Prop where
 row : ∀ k, k < 3 -> OSS w (D k) 1 (v k) (L k).length ((L k).map fun (n : Nat) => Value.int .i64 n)
 bd : ∀ k, k < 3 -> ∀ b, D k b -> base <= b /\ b < w.heap.size
 sep : ∀ j, j < 3 -> ∀ k, k < 3 -> j ≠ k -> ∀ b, D j b -> ¬ D k b
theorem C3.ext {w w' : aLl} {base : Nat} {L : Nat -> List Nat} {v : Nat -> aLm} {D : Nat -> Nat -> Prop} {M : Nat -> Prop} (h : C3 w base L v D) (x : aS w w' M) (hM : ∀ b, base <= b -> b < w.heap.size -> ¬ M b) : C3 w' base L v D :=
 ⟨fun k hk => (h.row k hk).ext x fun b hb => hM b (h.bd k hk b hb).1 (h.bd k hk b hb).2, fun k hk b hb => ⟨(h.bd k hk b hb).1, by have := (h.bd k hk b hb).2; have := x.size; omega⟩, h.sep⟩
def upL (L : Nat -> List Nat) (k : Nat) (x : List Nat) : Nat -> List Nat := fun i => if i = k then x else L i
def upV (v : Nat -> aLm) (k : Nat) (x : aLm) : Nat -> aLm := fun i => if i = k then x else v i
theorem C3.app {w w' : aLl} {base k : Nat} {L : Nat -> List Nat} {v : Nat -> aLm} {D : Nat -> Nat -> Prop} {x : aLm} {c : List Nat} (h : C3 w base L v D) (hk : k < 3) (hb : base <= w.heap.size)
 (o : OSS w' (fun b => D k b ∨ w.heap.size <= b) 1 x c.length (c.map fun (n : Nat) => Value.int .i64 n)) (y : aS w w' (fun b => D k b ∨ w.heap.size <= b)) : C3 w' base (upL L k c) (upV v k x) (fun j b => if j = k then (D k b ∨ w.heap.size <= b) /\ b < w'.heap.size else D j b) := by
 have hz := y.size
 refine ⟨fun j hj => ?_, fun j hj b hb' => ?_, fun i hi j hj hij b hbi hbj => ?_⟩
 .by_cases he : j = k
  .subst he
   have e1 : upL L j c j = c := by unfold upL; rw [if_pos rfl]
   have e2 : upV v j x j = x := by unfold upV; rw [if_pos rfl]
   rw [e1, e2]
   simp only [if_true]
   refine ⟨o.1, ?_⟩
   rcases o.2 with h2 | ⟨b, cc, rest, h1, h2, h3, h4, h5⟩
   .exact .inl h2
   .exact .inr ⟨b, cc, rest, h1, ⟨h2, h3.lt⟩, h3, h4, h5⟩
  .have e1 : upL L k c j = L j := by unfold upL; rw [if_neg he]
   have e2 : upV v k x j = v j := by unfold upV; rw [if_neg he]
   rw [e1, e2]
   simp only [if_neg he]
   refine (h.row j hj).ext y fun b hb hb2 => ?_
   rcases hb2 with hb2 | hb2
   .exact h.sep j hj k hk he b hb hb2
   .have := (h.bd j hj b hb).2; omega
 .by_cases he : j = k
  .simp only [if_pos he] at hb'
   rcases hb'.1 with h1 | h1
   .exact ⟨(h.bd k hk b h1).1, hb'.2⟩
   .exact ⟨by omega, hb'.2⟩
  .simp only [if_neg he] at hb'
   have := h.bd j hj b hb'
   exact ⟨this.1, by omega⟩
 .by_cases he : i = k
  .have hj' : j ≠ k := fun h => hij (by rw [he, h])
   simp only [if_pos he, if_neg hj'] at hbi hbj
   rcases hbi.1 with h1 | h1
   .exact h.sep j hj k hk hj' b hbj h1
   .have := (h.bd j hj b hbj).2; omega
  .simp only [if_neg he] at hbi
   by_cases hj' : j = k
   .simp only [if_pos hj'] at hbj
    rcases hbj.1 with h1 | h1
    .exact h.sep i hi k hk he b hbi h1
    .have := (h.bd i hi b hbi).2; omega
   .simp only [if_neg hj'] at hbj
    exact h.sep i hi j hj hij b hbi hbj
def Y3 (k : Nat) (l : List Sq) (L : List Nat) : Prop := L.length = l.length /\ ∀ (i : Nat) (q : Sq) (c : Nat), l[i]? = some q -> L[i]? = some c -> sV k (kv q k) c
theorem Y3.snoc {k : Nat} {l : List Sq} {L : List Nat} {q : Sq} {c : Nat} (h : Y3 k l L) (hc : sV k (kv q k) c) : Y3 k (l ++ [q]) (L ++ [c]) := by
 refine ⟨by rw [aI8, aI8, h.1] <;> rfl, fun i p d hp hd => ?_⟩
 rcases aJl i l.length with hi | hi
 .rw [aJd hi] at hp
  rw [aJd (by rw [h.1]; exact hi)] at hd
  exact h.2 i p d hp hd
 .rw [aJG hi] at hp
  rw [aJG (by rw [h.1]; exact hi), h.1] at hd
  rcases aJU (i - l.length) with h0 | h0
  .rw [h0] at hp hd
   cases hp; cases hd; exact hc
  .rw [aJk (by simp; omega)] at hp; cases hp
def vL (v : Nat -> aLm) : List aLm := [v 0, v 1, v 2]
theorem aBZ (v : Nat -> aLm) {k : Nat} (h : k < 3) : (vL v)[k]? = some (v k) := by
 rcases (show k = 0 ∨ k = 1 ∨ k = 2 by omega) with rfl | rfl | rfl <;> rfl
theorem aHl (v : Nat -> aLm) {k : Nat} (h : k < 3) (x : aLm) : (vL v).set k x = vL (upV v k x) := by
 rcases (show k = 0 ∨ k = 1 ∨ k = 2 by omega) with rfl | rfl | rfl <;> rfl
def aDZ (w : aLl) (base : Nat) (l : List Sq) (r : aLm) : Prop :=
 (∃ v D L, r = .tuple #[.agg (vL v).toArray, .int .i64 0] /\ C3 w base L v D /\ ∀ k, k < 3 -> Y3 k l (L k)) ∨
 ((∃ q ∈ l, ∃ k, k < 3 /\ ∀ c, ¬ sV k (kv q k) c) /\ ∃ x y z : Option Addr × Nat × Nat, r = .tuple #[.agg #[.slice x.1 x.2.1 x.2.2, .slice y.1 y.2.1 y.2.2, .slice z.1 z.2.1 z.2.2], .int .i64 1])
theorem C3.lower {w : aLl} {base base' : Nat} {L : Nat -> List Nat} {v : Nat -> aLm} {D : Nat -> Nat -> Prop} (h : C3 w base L v D) (hb : base' <= base) : C3 w base' L v D :=
 ⟨h.row, fun k hk b hd => ⟨by have := (h.bd k hk b hd).1; omega, (h.bd k hk b hd).2⟩, h.sep⟩
theorem C3.ones {w : aLl} {base : Nat} {L : Nat -> List Nat} {v : Nat -> aLm} {D : Nat -> Nat -> Prop} (h : C3 w base L v D) : ∀ x ∈ vL v, one x = true := by
 intro x hx
 have : ∀ k, k < 3 -> one (v k) = true := fun k hk => by
  obtain ⟨a, c, e⟩ := (h.row k hk).len
  rw [e] <;> rfl
 rcases aJQ.1 hx with rfl | hx
 .exact this 0 (by omega)
 rcases aJQ.1 hx with rfl | hx
 .exact this 1 (by omega)
 rcases aJQ.1 hx with rfl | hx
 .exact this 2 (by omega)
 .cases hx
theorem C3.form {w : aLl} {base : Nat} {L : Nat -> List Nat} {v : Nat -> aLm} {D : Nat -> Nat -> Prop} (h : C3 w base L v D) : ∃ x y z : Option Addr × Nat × Nat, v 0 = .slice x.1 x.2.1 x.2.2 /\ v 1 = .slice y.1 y.2.1 y.2.2 /\ v 2 = .slice z.1 z.2.1 z.2.2 := by
 obtain ⟨a0, c0, e0⟩ := (h.row 0 (by omega)).len
 obtain ⟨a1, c1, e1⟩ := (h.row 1 (by omega)).len
 obtain ⟨a2, c2, e2⟩ := (h.row 2 (by omega)).len
 exact ⟨(a0, _, c0), (a1, _, c1), (a2, _, c2), e0, e1, e2⟩
theorem aGL {p : Nat} {w : aLl} {v0 v1 v2 : aLm} {c : List aLm} {e : aLm} (o : cM w p c) (hc : c.length = 3) (h0 : one v0 = true) (h1 : one v1 = true) (h2 : one v2 = true) {RR : aLm -> aLl -> Prop}
 (hR : ∀ w', aS w w' (fun y => y = p) -> RR (.tuple #[.agg #[v0, v1, v2], e]) w') :
 aC pg (aK 98 (.pointer (some ⟨p, 0, none⟩)) (.agg #[v0, v1, v2])) w fun _u w => mW pg 98 (.pointer (some ⟨p, 0, none⟩)) w fun r0 => RR (.tuple #[r0, e]) w := by
 match c, hc with
 | [c0, c1, c2], _ =>
   refine Ln o rfl (by simp [h0, h1, h2]) (by simp) fun w6 o6 x6 s6 => ?_
   refine apL o6 (by simp [aV]) ?_
   simp only [aV, aI2, aI3, aI4, aIX, aI6]
   exact hR _ x6
theorem aGc {lv : aLm} {l : List Sq} {w : aLl} (hg : vW w) (h : Cl w 3 lv l.length (TR l)) (hu : ∀ q ∈ l, ∀ k, kv q k < 4294967296) (hl : l.length <= 1000000) :
 aR pg zT #[lv] w (fun r w' => aDZ w' w.heap.size l r /\ aS w w' cI) := by
 refine Ub ?_
 obtain ⟨RR, hRR⟩ : ∃ RR : aLm -> aLl -> Prop, RR = fun r w' => aDZ w' w.heap.size l r /\ aS w w' cI := ⟨_, rfl⟩
 rw [<- hRR]
 have hf := h
 obtain ⟨la, lc, rfl, _⟩ := hf
 unfold SD Bp BG
 refine G6 fun w1 o1 x1 s1 => ?_
 refine G6 fun w2 o2 x2 s2 => ?_
 have o1 := o1.ext x2 (fun h => h)
 have x02 := x1.seq x2
 obtain ⟨pt, hpt⟩ : ∃ pt, pt = w.heap.size := ⟨_, rfl⟩
 obtain ⟨po, hpo⟩ : ∃ po, po = w1.heap.size := ⟨_, rfl⟩
 rw [<- hpt] at o1 ⊢
 rw [<- hpo] at o2 ⊢
 have hg2 := hg.ext x02
 unfold Bo BC BB
 simp (disch := omega) only [aC, cB, aA]
 unfold BE BF
 refine cC.rule (fun m (t : aLm) w' => ∃ (i : Nat) (v : Nat -> aLm) (D : Nat -> Nat -> Prop) (L : Nat -> List Nat), m = l.length - i /\ i <= l.length /\ t = .int .i64 i /\ cM w' po (vL v) /\ C3 w' w2.heap.size L v D /\ (∀ k, k < 3 -> Y3 k (l.take i) (L k)) /\ (∀ q ∈ l.take i, ∀ k, k < 3 -> ∃ c, sV k (kv q k) c) /\ aS w2 w' (fun y => y = po)) l.length
  ⟨0, fun _ => .slice none 0 0, fun _ _ => False, fun _ => [], rfl, by omega, rfl, o2, ⟨fun k _ => ⟨rfl, .inl ⟨rfl, rfl⟩⟩, fun _ _ _ h => h.elim, fun _ _ _ _ _ _ h => h.elim⟩, fun k _ => ⟨rfl, fun i q c h => by simp at h⟩, fun q hq => by simp at hq, aS.refl _ _⟩ ?_
 rintro m t w3 ⟨i, v, D, L, rfl, hi, rfl, o3, hC, hK, hA, x3⟩
 unfold wJ Bv
 have o13 := o1.ext x3 (by omega)
 have z2 := x02.size
 have z3 := x3.size
 have x03 : aS w w3 cI := x02.trans x3 fun b hb h => by omega
 by_cases hlt : i < l.length
 rotate_left
 .obtain rfl : i = l.length := by omega
  have d1 : decide ((l.length : Int) < (l.length : Int)) = false := by simp
  have l3 := Ku (off := 0) o3 (by simp [vL])
  simp only [vL, aI4, aIX, aI6] at l3
  obtain ⟨y0, y1, y2, e0, e1, e2⟩ := hC.form
  simp (disch := omega) only [aC, aW, d1, aA, aD]
  unfold xL
  simp (disch := omega) only [aC, l3, aA]
  refine aGL o13 rfl (by rw [e0] <;> rfl) (by rw [e1] <;> rfl) (by rw [e2] <;> rfl) fun w' x => ?_
  rw [hRR]
  refine ⟨.inl ⟨v, D, L, rfl, (hC.ext x fun b h1 h2 h3 => by omega).lower (by omega), ?_⟩, x03.new x (by omega)⟩
  rw [aKA] at hK
  exact hK
 have d1 : decide ((i : Int) < (l.length : Int)) = true := by simp; omega
 obtain ⟨q, hq⟩ : ∃ q, l[i]? = some q := ⟨_, aI7 hlt⟩
 have hqm := aJX hq
 obtain ⟨b, off, c, e, lq⟩ := aoE (zI h x03 (bU _) (by omega)) hq
 cases e
 have lq3 := lq w3 (fun _ => rfl)
 simp only [TQ] at lq3
 simp (disch := omega) only [aC, aW, d1, aA, aF]
 unfold Da C1 La CU
 simp (disch := omega) only [aC, iC, aIY, aA, lq3]
 refine Je fun w4 o4 x4 s4 => ?_
 refine aeT o4 rfl (by simp [one]) (by simp) fun w5 o5 x5 s5 => ?_
 have o5 : cM w5 w3.heap.size (TQ q) := o5
 have x35 : aS w3 w5 cI := x4.new x5 (aI9 _)
 have l5 := F4 (off := 0) o5 (by simp [TQ])
 simp only [TQ, aI4, aIX, aI6] at l5
 simp (disch := omega) only [l5, aA]
 refine (aAH q _).mono ?_
 rintro r w6 ⟨rfl, x6⟩
 have x36 := x35.seq x6
 have z36 := x36.size
 unfold CH CE
 refine cC.rule (fun m (t : aLm) w' => ∃ (j : Nat) (v : Nat -> aLm) (D : Nat -> Nat -> Prop) (L : Nat -> List Nat), m = j /\ j <= 3 /\ t = .int .i64 (3 - j : Nat) /\ cM w' po (vL v) /\ C3 w' w2.heap.size L v D /\ (∀ k, k < 3 -> Y3 k (if k < 3 - j then l.take (i + 1) else l.take i) (L k)) /\ (∀ k, k < 3 - j -> ∃ c, sV k (kv q k) c) /\ aS w2 w' (fun y => y = po)) 3
  ⟨3, v, D, L, rfl, aI9 _, rfl, o3.ext x36 (fun h => h), hC.ext x36 (fun _ _ _ h => h), fun k hk => by rw [if_neg (by omega)]; exact hK k hk, fun k hk => by omega, x3.more x36⟩ ?_
 rintro j t w7 ⟨n, v7, D7, L7, rfl, hj, rfl, o7, hC7, hK7, hA7, x7⟩
 have z7 := x7.size
 have x07 : aS w w7 cI := x02.trans x7 fun b hb h => by omega
 have hgw := hg.ext x07
 have htk : l.take (i + 1) = l.take i ++ [q] := by rw [aJE, hq] <;> rfl
 unfold xW
 rcases j with _ | j
 .have d2 : decide (((3 - 0 : Nat) : Int) < 3) = false := rfl
  have e1 : (i : Int) + 1 = ((i + 1 : Nat) : Int) := by omega
  simp (disch := omega) only [aC, aW, d2, bN, aT, aA, aD]
  unfold yE
  simp (disch := omega) only [aC, bN, e1, aT, aA]
  refine ⟨l.length - (i + 1), by omega, i + 1, v7, D7, L7, rfl, by omega, rfl, o7, hC7, fun k hk => ?_, fun p hp k hk => ?_, x7⟩
  .have := hK7 k hk
   rw [if_pos (by omega)] at this
   exact this
  .rw [htk] at hp
   rcases aKk.1 hp with hp | hp
   .exact hA p hp k hk
   .obtain rfl := aKf.1 hp
    exact hA7 k (by omega)
 obtain ⟨k, hkk⟩ : ∃ k, k = 2 - j := ⟨_, rfl⟩
 have hk3 : k < 3 := by omega
 have ek : ((3 - (j + 1) : Nat) : Int) = (k : Int) := by omega
 have hk2 : 3 - (j + 1) = k := by omega
 have d2 : decide ((k : Int) < 3) = true := by simp; omega
 rw [ek]
 rw [hk2] at hK7 hA7
 have hx := aHo q hk3
 simp (disch := omega) only [aC, aW, d2, vE, aIY, hx, aG, nQ, aIZ, bN, aT, aA, cF, aF]
 refine (aIA hgw hk3 (hu q hqm k)).mono ?_
 rintro r w8 ⟨hr, x8⟩
 have x78 := x8
 have z8 := x8.size
 have o8 := o7.ext x8 (fun h => h)
 have hC8 := hC7.ext x8 (fun _ _ _ h => h)
 have o18 := (o1.ext x7 (by omega)).ext x8 (fun h => h)
 rcases hr with ⟨c, hcv, rfl⟩ | ⟨hno, rfl⟩
 rotate_left
 .have n1 : ((17 : Int) != 0) = true := rfl
  have l8 := Ku (off := 0) o8 (by simp [vL])
  simp only [vL, aI4, aIX, aI6] at l8
  obtain ⟨y0, y1, y2, e0, e1, e2⟩ := hC8.form
  simp (disch := omega) only [Kh, Ka, J3, aA, fB, n1, aF, l8]
  refine aGL o18 rfl (by rw [e0] <;> rfl) (by rw [e1] <;> rfl) (by rw [e2] <;> rfl) fun w' x => ?_
  rw [hRR]
  refine ⟨.inr ⟨⟨q, hqm, k, hk3, hno⟩, y0, y1, y2, by rw [e0, e1, e2]⟩, (x07.seq x8).new x (by omega)⟩
 have n1 : ((0 : Int) != 0) = false := rfl
 have c8 := o8.cell (off := k)
 rw [aBZ _ hk3] at c8
 obtain ⟨va, vc, ev⟩ := (hC8.row k hk3).len
 simp (disch := omega) only [Kh, Ka, J3, aA, fB, n1, aD, c8, aG]
 refine zD (cells := #[.int .i64 (c : Nat)]) (by decide) (by decide) (by kernel_rfl) fun w9 o9 x9 s9 => ?_
 have o9 : cM w9 w8.heap.size [.int .i64 (c : Nat)] := o9
 have hlen : (L7 k).length <= l.length := by
  have := (hK7 k hk3).1
  rw [this]
  split
  .rw [aJg]; omega
  .rw [aJg]; omega
 have hC9 := hC8.ext x9 (fun _ _ _ h => h)
 have hb9 : ∀ b, w9.heap.size <= b -> (D7 k b ∨ w9.heap.size <= b) := fun b hb => .inr hb
 have os9 : OSS w9 (fun b => D7 k b ∨ w9.heap.size <= b) 1 (v7 k) (L7 k).length ((L7 k).map fun (n : Nat) => Value.int .i64 n) := by
  have := hC9.row k hk3
  refine ⟨this.1, ?_⟩
  rcases this.2 with h2 | ⟨b, cc, rest, h1, h2, h3⟩
  .exact .inl h2
  .exact .inr ⟨b, cc, rest, h1, .inl h2, h3⟩
 refine Av (m := 1) (news := [.int .i64 (c : Nat)]) (i := Tryd.t3) Tryd.underlying77 Tryd.underlying77 Du rfl rfl rfl os9 (o9.cl (off := 0) (l := [.int .i64 (c : Nat)]) (n := 1) rfl (fun i hi => by rw [aIZ])) (by simp [one]) hb9 (by omega) (by rw [show Tryd.t3.bytes = 8 from rfl]; omega) (by decide) fun v10 w10 o10 x10 => ?_
 have z9 := x9.size
 have hC10 := hC9.app (c := L7 k ++ [c]) hk3 (by omega) (by rw [aI8, aJJ]; exact o10) x10
 have hpo2 : po < w2.heap.size := by omega
 have o10p : cM w10 po (vL v7) := (o8.ext x9 (fun h => h)).ext x10 (fun h => by
  rcases h with h | h
  .have := (hC9.bd k hk3 po h).1; omega
  .omega)
 obtain ⟨va', vc', ev'⟩ := o10.len
 refine VW o10p (by rw [ev'] <;> rfl) (by simp [vL]; omega) fun w11 o11 x11 s11 => ?_
 rw [aHl _ hk3] at o11
 have e1 : (k : Int) + 1 = ((3 - j : Nat) : Int) := by omega
 simp (disch := omega) only [e1]
 refine ⟨j, by omega, j, _, _, _, rfl, by omega, rfl, o11, hC10.ext x11 (fun b hb _ h => by omega), fun i' hi' => ?_, fun i' hi' => ?_, ?_⟩
 .unfold upL
  by_cases he : i' = k
  .subst he
   rw [if_pos rfl, if_pos (by omega), htk]
   have := hK7 i' hi'
   rw [if_neg (by omega)] at this
   exact this.snoc hcv
  .rw [if_neg he]
   have := hK7 i' hi'
   by_cases hlt' : i' < k
   .rw [if_pos hlt'] at this
    rw [if_pos (by omega)]; exact this
   .rw [if_neg hlt'] at this
    rw [if_neg (by omega)]; exact this
 .by_cases he : i' = k
  .rw [he]; exact ⟨c, hcv⟩
  .exact hA7 i' (by omega)
 .have x29 : aS w2 w9 (fun y => y = po) := (x7.more x8).more x9
  refine (x29.trans x10 fun b hb h => ?_).seq x11
  rcases h with h | h
  .have := (hC9.bd k hk3 b h).1; omega
  .have := x29.size; omega
theorem Pa {w w' : aLl} {S M : Nat -> Prop} {sz n : Nat} {v : aLm} {l : List aLm} (h : OSS w S sz v n l) (hx : aS w w' M) (hM : ∀ b, S b -> ¬ M b) : OSS w' S sz v n l := by
 refine ⟨h.1, ?_⟩
 rcases h.2 with h2 | ⟨b, c, rest, h1, h2, h3, h4, h5⟩
 .exact .inl h2
 .exact .inr ⟨b, c, rest, h1, h2, h3.ext hx (hM b h2), h4, h5⟩
def Wr (w : aLl) (lo p : Nat) (B : List Bool) : Prop := lo <= p /\ ∃ v bytes, cM w p [v, .int .i64 B.length] /\ OSS w (fun b => lo <= b /\ b ≠ p) 1 v bytes.length (bytes.map KY) /\ agA B bytes
def Rm (w : aLl) (lo p : Nat) (B : List Bool) : Prop := lo <= p /\ ∃ v bytes, cM w p [v, .int .i64 B.length] /\ OSS w (fun b => lo <= b /\ b ≠ p) 1 v bytes.length (bytes.map KY) /\
 bK bytes = B ++ List.replicate (8 * bytes.length - B.length) false /\ bytes.length = (B.length + 1 + 7) / 8
theorem Wr.ext {w w' : aLl} {lo p : Nat} {B : List Bool} {M : Nat -> Prop} (h : Wr w lo p B) (hx : aS w w' M) (hM : ∀ b, lo <= b -> ¬ M b) : Wr w' lo p B := by
 obtain ⟨h0, v, bytes, h1, h2, h3⟩ := h
 exact ⟨h0, v, bytes, h1.ext hx (hM _ h0), Pa h2 hx fun b hb => hM b hb.1, h3⟩
theorem ayE (w : aLl) : aR pg sS #[] w (fun r w' => r = .pointer (some ⟨w.heap.size, 0, none⟩) /\ w.heap.size < w'.heap.size /\ Wr w' w.heap.size w.heap.size [] /\ aS w w' cI) := by
 refine Jq ?_
 unfold LQ Ae
 simp (disch := omega) only [aC, pS, aA]
 refine gA fun w1 o1 x1 s1 => ?_
 simp only [Value.cells] at o1
 exact ⟨rfl, by omega, ⟨aI9 _, _, [], o1, ⟨rfl, .inl ⟨rfl, rfl⟩⟩, aAi⟩, x1⟩
theorem aGO {lo p x i : Nat} {B : List Bool} {t17 : aLm} {w : aLl} (h : Rm w lo p B) (hx : x < 2 ^ 64) (hi : i <= 60) (hB : B.length <= 1000000000)
 {kn : aLm -> aLm -> aLm -> aLm -> aLl -> Prop} (hR : ∀ w', Wr w' lo p (B ++ [x.testBit i]) -> aS w w' (fun y => lo <= y) -> kn (.pointer (some ⟨p, 0, none⟩)) (.int .u64 x) t17 (.int .i64 i) w') :
 mI kn (.pointer (some ⟨p, 0, none⟩)) (.int .u64 x) (.int .i64 i) t17 (.int .i64 i) w := by
 obtain ⟨h0, v, bytes, o, os, hbits, hlen⟩ := h
 obtain ⟨hlt, hheld, hval, hor⟩ := azP (y := x.testBit i) hbits hlen
 rcases os.2 with ⟨rfl, hz⟩ | ⟨b, c, rest, rfl, hS, ob, hc, hn⟩
 .rw [hlen] at hz; omega
 generalize hq : B.length = q at *
 have hcell : (bytes.map KY ++ rest)[q / 8]? = some (.int .u8 ((bytes[q / 8]'hlt).toNat : Nat)) := by
  rw [aJd (by rw [aJb]; exact hlt), aJq, aI7 hlt] <;> rfl
 have hcl : (bytes[q / 8]'hlt).toNat < 2 ^ 8 := aJz _
 have hset : (bytes.map KY ++ rest).set (q / 8) (.int .u8 (((bytes[q / 8]'hlt).toNat + 2 ^ (q % 8) * (x.testBit i).toNat : Nat))) = (bytes.set (q / 8) (UInt8.ofNat ((bytes[q / 8]'hlt).toNat + 2 ^ (q % 8) * (x.testBit i).toNat))).map KY ++ rest := by
  rw [aKx _ _ (by rw [aJb]; exact hlt), aKD, KY, UInt8.toNat_ofNat_of_lt' (by simpa using hval)]
 have hbl : (bytes.set (q / 8) (UInt8.ofNat ((bytes[q / 8]'hlt).toNat + 2 ^ (q % 8) * (x.testBit i).toNat))).length = bytes.length := aKM
 generalize bytes.set (q / 8) (UInt8.ofNat ((bytes[q / 8]'hlt).toNat + 2 ^ (q % 8) * (x.testBit i).toNat)) = bytes' at *
 generalize (bytes[q / 8]'hlt).toNat = y at *
 have e1 : (q : Int).tdiv 8 = ((q / 8 : Nat) : Int) := by rw [aJs (by omega)]; omega
 have e2 : (q : Int).tmod 8 = ((q % 8 : Nat) : Int) := by rw [aJt (by omega)]; omega
 have e3 := VH x i (by omega)
 have hxl : x / 2 ^ i < 2 ^ 64 := by have := aK1 x (2 ^ i); omega
 have e4 := ayI hxl
 rw [<- ajC] at e4
 have hbt : (x.testBit i).toNat <= 1 := Bool.toNat_le _
 have hp8 : 2 ^ (q % 8) <= 2 ^ 7 := aJa (by omega) (by omega)
 have hm : (x.testBit i).toNat * 2 ^ (q % 8) <= 2 ^ (q % 8) := by
  have := aJH (2 ^ (q % 8)) hbt
  omega
 have e5 : IntKind.u8.wrap (((x.testBit i).toNat : Int) * 2 ^ (min (q % 8) IntKind.u8.bits)) = (((x.testBit i).toNat * 2 ^ (q % 8) : Nat) : Int) := by
  rw [show min (q % 8) IntKind.u8.bits = q % 8 from aJS (by have h8 : IntKind.u8.bits = 8 := rfl; omega)]
  have e : ((x.testBit i).toNat : Int) * 2 ^ (q % 8) = (((x.testBit i).toNat * 2 ^ (q % 8) : Nat) : Int) := by simp
  rw [e]
  exact JG (by omega) (by omega)
 have e6 := aAu (a := y) (b := (x.testBit i).toNat * 2 ^ (q % 8)) hcl (by omega)
 rw [hor] at e6
 have e7 : (q : Int) + 1 = ((q + 1 : Nat) : Int) := by omega
 have od := dT o
 have obd := dT ob
 have c0 := od.cell (off := 0)
 have c1 := od.cell (off := 1)
 have g := obd.cell (off := q / 8)
 rw [hcell] at g
 simp only [aI0, aI1] at c0 c1
 unfold mI
 simp (disch := omega) only [aC, rI, jB, iI, aA, iT, aIZ, bZ, c1, aG, yV, e2, true_and, vY, aIY, e3, EN, e4, lH, JG, mO, e5, zX, e1, aT, gM, fS, c0, mJ, kJ, g, ahI, e6]
 refine ZM obd rfl (by rw [aI8, aJb]; omega) fun w2 o2 x2 s2 => ?_
 rw [hset] at o2
 have op2 := od.ext x2 (fun h => hS.2 h.symm)
 have c12 := op2.cell (off := 1)
 simp only [aI0, aI1] at c12
 simp (disch := omega) only [c12, aG, aA, bN, e7, aT]
 refine vP op2 rfl (by simp) fun w3 o3 x3 s3 => ?_
 simp only [aI2, aI3] at o3
 have hBl : (B ++ [x.testBit i]).length = q + 1 := by rw [aI8, hq] <;> rfl
 refine hR _ ⟨h0, _, bytes', by rw [hBl]; exact o3, ⟨by simp, .inr ⟨b, c, rest, by rw [hbl], hS, o2.ext x3 hS.2, ?_, by rw [hbl]; exact hn⟩⟩, hheld⟩ ?_
 .rw [aI8, aJb] at hc ⊢; rw [hbl]; exact hc
 .exact ((aS.dr _ _).seq (x2.mono fun z _ h => by omega)).seq (x3.mono fun z _ h => by omega)
theorem aH3 {lo p x i n : Nat} {B : List Bool} {w : aLl} (hw : Wr w lo p B) (hx : x < 2 ^ 64) (hi : i <= 60) (hB : B.length <= 1000000000)
 {kn : aLm -> aLm -> aLm -> aLm -> aLl -> Prop} (hR : ∀ w', Wr w' lo p (B ++ [x.testBit i]) -> aS w w' (fun y => lo <= y) -> kn (.pointer (some ⟨p, 0, none⟩)) (.int .u64 x) (.int .i64 n) (.int .i64 i) w') :
 qO kn (.pointer (some ⟨p, 0, none⟩)) (.int .u64 x) (.int .i64 n) (.int .i64 i) w := by
 unfold qO uY
 obtain ⟨h0, v, bytes, o, os, hh⟩ := hw
 have c1 := o.cell (off := 1)
 have c0 := o.cell (off := 0)
 simp only [aI0, aI1] at c0 c1
 have e2 : (B.length : Int).tmod 8 = ((B.length % 8 : Nat) : Int) := by rw [aJt (by omega)]; omega
 by_cases h8 : B.length % 8 = 0
 .have d4 : (((B.length % 8 : Nat) : Int) == 0) = true := by rw [h8] <;> rfl
  obtain ⟨hr1, hr2⟩ := auU hh h8
  have hl2 := hh.len
  have lp := o.lt
  simp (disch := omega) only [aC, rI, aA, gM, fS, iT, aIZ, bZ, c1, aG, yV, e2, cK, d4, c0, aF]
  refine AP (cells := #[.int .u8 0]) (by decide) (by decide) (by kernel_rfl) fun w2 o2 x2 s2 => ?_
  refine Av (m := 1) (news := [KY 0]) (i := Tryd.t5) Tryd.underlying22 Tryd.underlying22 Yy rfl rfl rfl (Pa os x2 (fun _ _ h => h)) (o2.cl (off := 0) (l := [KY 0]) (n := 1) rfl (fun i hi => by rw [aIZ] <;> rfl)) (by simp [one, KY]) (fun b hb => ⟨by omega, by omega⟩) (by omega) (by rw [show Tryd.t5.bytes = 1 from rfl]; omega) (by decide) fun v3 w3 o3 x3 => ?_
  have x13 : aS w w3 (fun y => lo <= y /\ y ≠ p) := (x2.mono fun _ _ h => h.elim).seq x3
  have op3 := o.ext x13 (fun h => h.2 rfl)
  have hv3 : ∃ a n c, v3 = .slice a n c := by
   rcases o3.2 with ⟨rfl, _⟩ | ⟨b, c, rest, rfl, _⟩
   .exact ⟨_, _, _, rfl⟩
   .exact ⟨_, _, _, rfl⟩
  obtain ⟨a3, n3, c3, rfl⟩ := hv3
  refine Hx op3 rfl (by simp) fun w4 o4 x4 s4 => ?_
  simp only [aI2, aI3] at o4
  have x14 : aS w w4 (fun y => lo <= y) := (x13.mono fun y _ h => h.1).seq (x4.mono fun y _ h => by omega)
  refine aGO (w := w4) ⟨h0, _, bytes ++ [0], o4, ?_, ?_, hr2⟩ hx hi hB fun w5 h5 x5 => hR w5 h5 (x14.seq x5)
  .have := Pa o3 x4 (fun b hb h => hb.2 h)
   rw [aI8, aJJ]
   exact this
  .rw [aI8]; exact hr1
 .have d4 : (((B.length % 8 : Nat) : Int) == 0) = false := by simp; omega
  simp (disch := omega) only [aC, rI, aA, gM, fS, iT, aIZ, bZ, c1, aG, yV, e2, cK, d4, aD]
  refine aGO (w := w) ⟨h0, v, bytes, o, os, hh.bits, ?_⟩ hx hi hB fun w5 h5 x5 => hR w5 h5 x5
  rw [hh.len]; omega
theorem QZ {lo p x n : Nat} {B : List Bool} {w : aLl} (h : Wr w lo p B) (hx : x < 2 ^ 64) (hn : n <= 56) (hB : B.length <= 100000000) :
 aR pg fO #[.pointer (some ⟨p, 0, none⟩), .int .u64 x, .int .i64 n] w (fun r w' => r = .tuple #[] /\ Wr w' lo p (B ++ gU x n) /\ aS w w' (fun y => lo <= y)) := by
 refine EV ?_
 unfold DU tU tT
 by_cases hn0 : n = 0
 .subst hn0
  have d1 : decide (((0 : Nat) : Int) < 1) = true := rfl
  simp (disch := omega) only [aC, iB, aJm, true_and, aA, dG, bM, aI5, if_false, bP, aW, d1, jH, if_true, aF, dH]
  exact ⟨by rw [FH, aJP]; exact h, aS.refl _ _⟩
 have d1 : decide ((n : Int) < 1) = false := by simp; omega
 have d2 : decide ((56 : Int) < (n : Int)) = false := by simp; omega
 simp (disch := omega) only [aC, iB, aJm, true_and, aA, dG, bM, aI5, if_false, bP, aW, d1, dO, d2, aD]
 unfold tV uI
 refine cC.rule (fun m (t : aLm) w' => ∃ i : Nat, m = n - i /\ t = .int .i64 i /\ i <= n /\ Wr w' lo p (B ++ gU x i) /\ aS w w' (fun y => lo <= y)) n
  ⟨0, rfl, rfl, by omega, by rw [FH, aJP]; exact h, aS.refl _ _⟩ ?_
 rintro m t w1 ⟨i, rfl, rfl, hi, hw, x1⟩
 unfold rA uW
 by_cases hlt : i < n
 .have d3 : decide ((i : Int) < (n : Int)) = true := by simp; omega
  simp (disch := omega) only [aC, aW, d3, aA, aF]
  unfold uP uR
  refine aH3 hw hx (by omega) (by rw [aI8, dQ]; omega) fun w3 hw3 x3 => ?_
  unfold qX
  simp (disch := omega) only [aC, bN, aT, aA]
  refine ⟨n - (i + 1), by omega, i + 1, rfl, rfl, by omega, ?_, x1.seq x3⟩
  rw [LO, <- aJc]
  exact hw3
 .have d3 : decide ((i : Int) < (n : Int)) = false := by simp; omega
  obtain rfl : i = n := by omega
  simp (disch := omega) only [aC, aW, d3, aA, aD]
  exact ⟨hw, x1⟩
def Ws (w : aLl) (S : Nat -> Prop) (p : Nat) (B : List Bool) : Prop := ¬ S p /\ ∃ v bytes, cM w p [v, .int .i64 B.length] /\ OSS w S 1 v bytes.length (bytes.map KY) /\ agA B bytes
def Rs (w : aLl) (S : Nat -> Prop) (p : Nat) (B : List Bool) : Prop := ¬ S p /\ ∃ v bytes, cM w p [v, .int .i64 B.length] /\ OSS w S 1 v bytes.length (bytes.map KY) /\
 bK bytes = B ++ List.replicate (8 * bytes.length - B.length) false /\ bytes.length = (B.length + 1 + 7) / 8
theorem Ws.ext {w w' : aLl} {S M : Nat -> Prop} {p : Nat} {B : List Bool} (h : Ws w S p B) (hx : aS w w' M) (hp : ¬ M p) (hM : ∀ b, S b -> ¬ M b) : Ws w' S p B := by
 obtain ⟨h0, v, bytes, h1, h2, h3⟩ := h
 exact ⟨h0, v, bytes, h1.ext hx hp, Pa h2 hx hM, h3⟩
theorem Ws.turn {w : aLl} {S T : Nat -> Prop} {p : Nat} {B : List Bool} (h : Ws w S p B) (hp : ¬ T p) (hT : ∀ b, S b -> b < w.heap.size -> T b) : Ws w T p B := by
 obtain ⟨h0, v, bytes, h1, h2, h3⟩ := h
 refine ⟨hp, v, bytes, h1, ⟨h2.1, ?_⟩, h3⟩
 rcases h2.2 with h2 | ⟨b, c, rest, e, hb, o, hc, hn⟩
 .exact .inl h2
 .exact .inr ⟨b, c, rest, e, hT b hb o.lt, o, hc, hn⟩
theorem aE6 {S : Nat -> Prop} {p x i : Nat} {B : List Bool} {t17 : aLm} {w : aLl} (h : Rs w S p B) (hx : x < 2 ^ 64) (hi : i <= 60) (hB : B.length <= 1000000000)
 {kn : aLm -> aLm -> aLm -> aLm -> aLl -> Prop} (hR : ∀ w', Ws w' S p (B ++ [x.testBit i]) -> aS w w' (fun y => y = p ∨ S y) -> kn (.pointer (some ⟨p, 0, none⟩)) (.int .u64 x) t17 (.int .i64 i) w') :
 mI kn (.pointer (some ⟨p, 0, none⟩)) (.int .u64 x) (.int .i64 i) t17 (.int .i64 i) w := by
 obtain ⟨h0, v, bytes, o, os, hbits, hlen⟩ := h
 obtain ⟨hlt, hheld, hval, hor⟩ := azP (y := x.testBit i) hbits hlen
 rcases os.2 with ⟨rfl, hz⟩ | ⟨b, c, rest, rfl, hS, ob, hc, hn⟩
 .rw [hlen] at hz; omega
 generalize hq : B.length = q at *
 have hcell : (bytes.map KY ++ rest)[q / 8]? = some (.int .u8 ((bytes[q / 8]'hlt).toNat : Nat)) := by
  rw [aJd (by rw [aJb]; exact hlt), aJq, aI7 hlt] <;> rfl
 have hcl : (bytes[q / 8]'hlt).toNat < 2 ^ 8 := aJz _
 have hset : (bytes.map KY ++ rest).set (q / 8) (.int .u8 (((bytes[q / 8]'hlt).toNat + 2 ^ (q % 8) * (x.testBit i).toNat : Nat))) = (bytes.set (q / 8) (UInt8.ofNat ((bytes[q / 8]'hlt).toNat + 2 ^ (q % 8) * (x.testBit i).toNat))).map KY ++ rest := by
  rw [aKx _ _ (by rw [aJb]; exact hlt), aKD, KY, UInt8.toNat_ofNat_of_lt' (by simpa using hval)]
 have hbl : (bytes.set (q / 8) (UInt8.ofNat ((bytes[q / 8]'hlt).toNat + 2 ^ (q % 8) * (x.testBit i).toNat))).length = bytes.length := aKM
 generalize bytes.set (q / 8) (UInt8.ofNat ((bytes[q / 8]'hlt).toNat + 2 ^ (q % 8) * (x.testBit i).toNat)) = bytes' at *
 generalize (bytes[q / 8]'hlt).toNat = y at *
 have e1 : (q : Int).tdiv 8 = ((q / 8 : Nat) : Int) := by rw [aJs (by omega)]; omega
 have e2 : (q : Int).tmod 8 = ((q % 8 : Nat) : Int) := by rw [aJt (by omega)]; omega
 have e3 := VH x i (by omega)
 have hxl : x / 2 ^ i < 2 ^ 64 := by have := aK1 x (2 ^ i); omega
 have e4 := ayI hxl
 rw [<- ajC] at e4
 have hbt : (x.testBit i).toNat <= 1 := Bool.toNat_le _
 have hp8 : 2 ^ (q % 8) <= 2 ^ 7 := aJa (by omega) (by omega)
 have hm : (x.testBit i).toNat * 2 ^ (q % 8) <= 2 ^ (q % 8) := by
  have := aJH (2 ^ (q % 8)) hbt
  omega
 have e5 : IntKind.u8.wrap (((x.testBit i).toNat : Int) * 2 ^ (min (q % 8) IntKind.u8.bits)) = (((x.testBit i).toNat * 2 ^ (q % 8) : Nat) : Int) := by
  rw [show min (q % 8) IntKind.u8.bits = q % 8 from aJS (by have h8 : IntKind.u8.bits = 8 := rfl; omega)]
  have e : ((x.testBit i).toNat : Int) * 2 ^ (q % 8) = (((x.testBit i).toNat * 2 ^ (q % 8) : Nat) : Int) := by simp
  rw [e]
  exact JG (by omega) (by omega)
 have e6 := aAu (a := y) (b := (x.testBit i).toNat * 2 ^ (q % 8)) hcl (by omega)
 rw [hor] at e6
 have e7 : (q : Int) + 1 = ((q + 1 : Nat) : Int) := by omega
 have od := dT o
 have obd := dT ob
 have c0 := od.cell (off := 0)
 have c1 := od.cell (off := 1)
 have g := obd.cell (off := q / 8)
 rw [hcell] at g
 simp only [aI0, aI1] at c0 c1
 unfold mI
 simp (disch := omega) only [aC, rI, jB, iI, aA, iT, aIZ, bZ, c1, aG, yV, e2, true_and, vY, aIY, e3, EN, e4, lH, JG, mO, e5, zX, e1, aT, gM, fS, c0, mJ, kJ, g, ahI, e6]
 refine ZM obd rfl (by rw [aI8, aJb]; omega) fun w2 o2 x2 s2 => ?_
 rw [hset] at o2
 have op2 := od.ext x2 (fun h => h0 (h ▸ hS))
 have c12 := op2.cell (off := 1)
 simp only [aI0, aI1] at c12
 simp (disch := omega) only [c12, aG, aA, bN, e7, aT]
 refine vP op2 rfl (by simp) fun w3 o3 x3 s3 => ?_
 simp only [aI2, aI3] at o3
 have hBl : (B ++ [x.testBit i]).length = q + 1 := by rw [aI8, hq] <;> rfl
 refine hR _ ⟨h0, _, bytes', by rw [hBl]; exact o3, ⟨by simp, .inr ⟨b, c, rest, by rw [hbl], hS, o2.ext x3 (fun h => h0 (h ▸ hS)), ?_, by rw [hbl]; exact hn⟩⟩, hheld⟩ ?_
 .rw [aI8, aJb] at hc ⊢; rw [hbl]; exact hc
 .exact ((aS.dr _ _).seq (x2.mono fun z _ h => .inr (h ▸ hS))).seq (x3.mono fun z _ h => .inl h)
theorem aHv {S : Nat -> Prop} {p x i n : Nat} {B : List Bool} {w : aLl} (hw : Ws w S p B) (hN : ∀ b, w.heap.size <= b -> S b) (hx : x < 2 ^ 64) (hi : i <= 60) (hB : B.length <= 1000000000)
 {kn : aLm -> aLm -> aLm -> aLm -> aLl -> Prop} (hR : ∀ w', Ws w' S p (B ++ [x.testBit i]) -> aS w w' (fun y => y = p ∨ S y) -> kn (.pointer (some ⟨p, 0, none⟩)) (.int .u64 x) (.int .i64 n) (.int .i64 i) w') :
 qO kn (.pointer (some ⟨p, 0, none⟩)) (.int .u64 x) (.int .i64 n) (.int .i64 i) w := by
 unfold qO uY
 obtain ⟨h0, v, bytes, o, os, hh⟩ := hw
 have c1 := o.cell (off := 1)
 have c0 := o.cell (off := 0)
 simp only [aI0, aI1] at c0 c1
 have e2 : (B.length : Int).tmod 8 = ((B.length % 8 : Nat) : Int) := by rw [aJt (by omega)]; omega
 by_cases h8 : B.length % 8 = 0
 .have d4 : (((B.length % 8 : Nat) : Int) == 0) = true := by rw [h8] <;> rfl
  obtain ⟨hr1, hr2⟩ := auU hh h8
  have hl2 := hh.len
  have lp := o.lt
  simp (disch := omega) only [aC, rI, aA, gM, fS, iT, aIZ, bZ, c1, aG, yV, e2, cK, d4, c0, aF]
  refine AP (cells := #[.int .u8 0]) (by decide) (by decide) (by kernel_rfl) fun w2 o2 x2 s2 => ?_
  refine Av (m := 1) (news := [KY 0]) (i := Tryd.t5) Tryd.underlying22 Tryd.underlying22 Yy rfl rfl rfl (Pa os x2 (fun _ _ h => h)) (o2.cl (off := 0) (l := [KY 0]) (n := 1) rfl (fun i hi => by rw [aIZ] <;> rfl)) (by simp [one, KY]) (fun b hb => hN b (by omega)) (by omega) (by rw [show Tryd.t5.bytes = 1 from rfl]; omega) (by decide) fun v3 w3 o3 x3 => ?_
  have x13 : aS w w3 S := (x2.mono fun _ _ h => h.elim).seq x3
  have op3 := o.ext x13 h0
  have hv3 : ∃ a n c, v3 = .slice a n c := by
   rcases o3.2 with ⟨rfl, _⟩ | ⟨b, c, rest, rfl, _⟩
   .exact ⟨_, _, _, rfl⟩
   .exact ⟨_, _, _, rfl⟩
  obtain ⟨a3, n3, c3, rfl⟩ := hv3
  refine Hx op3 rfl (by simp) fun w4 o4 x4 s4 => ?_
  simp only [aI2, aI3] at o4
  have x14 : aS w w4 (fun y => y = p ∨ S y) := (x13.mono fun y _ h => .inr h).seq (x4.mono fun y _ h => .inl h)
  refine aE6 (w := w4) ⟨h0, _, bytes ++ [0], o4, ?_, ?_, hr2⟩ hx hi hB fun w5 h5 x5 => hR w5 h5 (x14.seq x5)
  .have := Pa o3 x4 (fun b hb h => h0 (h ▸ hb))
   rw [aI8, aJJ]
   exact this
  .rw [aI8]; exact hr1
 .have d4 : (((B.length % 8 : Nat) : Int) == 0) = false := by simp; omega
  simp (disch := omega) only [aC, rI, aA, gM, fS, iT, aIZ, bZ, c1, aG, yV, e2, cK, d4, aD]
  refine aE6 (w := w) ⟨h0, v, bytes, o, os, hh.bits, ?_⟩ hx hi hB fun w5 h5 x5 => hR w5 h5 x5
  rw [hh.len]; omega
theorem arL {S : Nat -> Prop} {p x n : Nat} {B : List Bool} {w : aLl} (h : Ws w S p B) (hN : ∀ b, w.heap.size <= b -> S b) (hx : x < 2 ^ 64) (hn : n <= 56) (hB : B.length <= 100000000) :
 aR pg fO #[.pointer (some ⟨p, 0, none⟩), .int .u64 x, .int .i64 n] w (fun r w' => r = .tuple #[] /\ Ws w' S p (B ++ gU x n) /\ aS w w' (fun y => y = p ∨ S y)) := by
 refine EV ?_
 unfold DU tU tT
 by_cases hn0 : n = 0
 .subst hn0
  have d1 : decide (((0 : Nat) : Int) < 1) = true := rfl
  simp (disch := omega) only [aC, iB, aJm, true_and, aA, dG, bM, aI5, if_false, bP, aW, d1, jH, if_true, aF, dH]
  exact ⟨by rw [FH, aJP]; exact h, aS.refl _ _⟩
 have d1 : decide ((n : Int) < 1) = false := by simp; omega
 have d2 : decide ((56 : Int) < (n : Int)) = false := by simp; omega
 simp (disch := omega) only [aC, iB, aJm, true_and, aA, dG, bM, aI5, if_false, bP, aW, d1, dO, d2, aD]
 unfold tV uI
 refine cC.rule (fun m (t : aLm) w' => ∃ i : Nat, m = n - i /\ t = .int .i64 i /\ i <= n /\ Ws w' S p (B ++ gU x i) /\ aS w w' (fun y => y = p ∨ S y)) n
  ⟨0, rfl, rfl, by omega, by rw [FH, aJP]; exact h, aS.refl _ _⟩ ?_
 rintro m t w1 ⟨i, rfl, rfl, hi, hw, x1⟩
 unfold rA uW
 by_cases hlt : i < n
 .have d3 : decide ((i : Int) < (n : Int)) = true := by simp; omega
  simp (disch := omega) only [aC, aW, d3, aA, aF]
  unfold uP uR
  refine aHv hw (fun b hb => hN b (by have := x1.size; omega)) hx (by omega) (by rw [aI8, dQ]; omega) fun w3 hw3 x3 => ?_
  unfold qX
  simp (disch := omega) only [aC, bN, aT, aA]
  refine ⟨n - (i + 1), by omega, i + 1, rfl, rfl, by omega, ?_, x1.seq x3⟩
  rw [LO, <- aJc]
  exact hw3
 .have d3 : decide ((i : Int) < (n : Int)) = false := by simp; omega
  obtain rfl : i = n := by omega
  simp (disch := omega) only [aC, aW, d3, aA, aD]
  exact ⟨hw, x1⟩
theorem aFi {lo p : Nat} {B : List Bool} {w : aLl} (h : Wr w lo p B) (hB : B.length <= 10000000) :
 aR pg uM #[.pointer (some ⟨p, 0, none⟩)] w (fun r w' => ∃ bytes, Bs w' r bytes /\ agA (B ++ [true]) bytes /\ AtI r w.heap.size w'.heap.size /\ aS w w' cI) := by
 refine QC ?_
 obtain ⟨h0, v, bytes, o, os, hh⟩ := h
 have c0 := (dT o).cell (off := 0)
 have c1 := (dT o).cell (off := 1)
 simp only [aI0, aI1] at c0 c1
 have hs : Bs w v bytes := by
  have h1 := os.1
  rcases os.2 with ⟨rfl, h2⟩ | ⟨b, c, rest, rfl, h2, h3, h4, h5⟩
  .exact ⟨_, _, _, rfl, by omega, by omega, fun h => by omega⟩
  .refine ⟨_, _, _, rfl, by omega, h5, fun _ => ⟨b, 0, rfl, fun i hi => ?_⟩⟩
   rw [h3.cell, aIZ, aJd (by omega)]
 have hl := hh.len
 unfold MW zL
 simp (disch := omega) only [aC, iB, aJm, rI, dS, Result.ok.injEq, Next.value.injEq, and_true, true_and, aA, iT, aIZ, bZ, gM, fS, c0, aG, c1, aD]
 refine (VP (hs.ext (aS.dr _ cI) (bU _)) (by omega)).mono ?_
 rintro r w1 ⟨o1, x1⟩
 have z1 := x1.size
 have x01 : aS w w1 cI := (aS.dr w cI).seq x1
 have c11 := (o.ext x01 (fun h => h)).cell (off := 1)
 simp only [aI0, aI1] at c11
 have hdr : (dr w).heap.size = w.heap.size := rfl
 rw [hdr] at o1 z1
 obtain ⟨a1, cc1, rfl⟩ := o1.len
 simp (disch := omega) only [c11, aG, aA, oA, true_and]
 refine gA fun w2 o2 x2 s2 => ?_
 simp only [Value.cells] at o2
 have hw : Wr w2 w.heap.size w1.heap.size B := by
  refine ⟨z1, _, bytes, o2, ⟨o1.1, ?_⟩, hh⟩
  rcases o1.2 with h2 | ⟨b, c, rest, h1, h2, h3, h4, h5⟩
  .exact .inl h2
  .have := h3.lt
   exact .inr ⟨b, c, rest, h1, ⟨h2, by omega⟩, h3.ext x2 (fun h => h), h4, h5⟩
 refine (QZ (x := 1) (n := 1) hw (by omega) (by omega) (by omega)).mono ?_
 rintro r w3 ⟨rfl, ⟨h0', v3, bytes3, o3, os3, hh3⟩, x3⟩
 have c03 := o3.cell (off := 0)
 simp only [aI0, aI1] at c03
 simp (disch := omega) only [rI, aA, gM, fS, c03, aG]
 have e1 : gU 1 1 = [true] := by decide
 rw [e1] at hh3
 refine ⟨bytes3, ?_, hh3, ?_, ?_⟩
 .have h1 := os3.1
  rcases os3.2 with ⟨rfl, h2⟩ | ⟨b, c, rest, rfl, h2, h3, h4, h5⟩
  .exact ⟨_, _, _, rfl, by omega, by omega, fun h => by omega⟩
  .refine ⟨_, _, _, rfl, by omega, h5, fun _ => ⟨b, 0, rfl, fun i hi => ?_⟩⟩
   rw [h3.cell, aIZ, aJd (by omega)]
 .intro M hM
  rcases os3.2 with ⟨rfl, h2⟩ | ⟨b, c, rest, rfl, h2, h3, h4, h5⟩
  .exact fun h => h
  .exact At.at b 0 _ c M (hM b h2.1 h3.lt)
 .exact (x01.seq x2).trans x3 fun b hb h => by omega
def aEC (L : List T3) (s sy : Int) (r : aLm) : Prop :=
 (∃ (i : Nat) (e : T3), L[i]? = some e /\ inE sy s e = true /\ r = .tuple #[.int .i64 (i : Nat), .int .u64 (s - e.2.2), .int .i64 e.2.1, .int .i64 0]) ∨
 ((∀ (i : Nat) (e : T3), L[i]? = some e -> inE sy s e = false) /\ r = .tuple #[.int .i64 0, .int .u64 0, .int .i64 0, .int .i64 21])
theorem aEa {w : aLl} {base b log : Nat} {L : List T3} {v : aLm} (h : Tbl w base b log L v) (hL : Low L) (hl : L.length <= 1000000) (s : Nat) (hs : s < L.length) (sy : Int) :
 aR pg J2 #[v, .int .i64 s, .int .u8 sy] w (fun r w' => aEC L s sy r /\ aS w w' cI) := by
 refine amW ?_
 obtain ⟨rfl, hb, ob⟩ := h
 unfold apM NL Oh
 refine gA fun w1 o1 x1 s1 => ?_
 have c1 := o1.cell (off := 1)
 simp only [Value.cells, aI0, aI1] at c1
 have d1 : decide ((s : Int) < 0) = false := by simp
 have d2 : decide ((L.length : Int) <= (s : Int)) = false := by simp; omega
 simp (disch := omega) only [aC, aW, d1, bR, aIZ, aA, dG, bM, aI5, if_false, bP, cW, c1, aG, fK, oD, d2, aD]
 unfold PE Pn Pc OC O3
 simp (disch := omega) only [aC, bR, aIZ, aA, cW, c1, aG, fK]
 refine cC.rule (fun m t w' => ∃ i : Nat, m = L.length - i /\ t = .int .i64 i /\ i <= L.length /\ (∀ (j : Nat) (e : T3), j < i -> L[j]? = some e -> inE sy s e = false) /\ aS w w' cI) L.length ⟨0, rfl, rfl, by omega, fun j e hj => by omega, x1⟩ ?_
 rintro m t w2 ⟨i, rfl, rfl, hi, hno, x2⟩
 unfold GV
 by_cases hlt : i < L.length
 .have d3 : decide ((i : Int) < (L.length : Int)) = true := by simp; omega
  have l1 := GD (off := i * 3) (ob.ext x2 (fun h => h)) (by rw [lY]; omega)
  rw [aoA hlt] at l1
  obtain ⟨n, hn, hn2, hb0, hb1⟩ := hL _ (aJh hlt)
  have hge : L[i]? = some L[i] := aI7 hlt
  have hinE : inE sy s L[i] = decide (L[i].1 = sy /\ L[i].2.2 <= s /\ (s : Int) < L[i].2.2 + ((2 ^ n : Nat) : Int)) := by
   unfold inE; rw [hn]; simp
  generalize L[i] = e at *
  obtain ⟨e1, e2, e3⟩ := e
  simp only at hn hb0 hb1 l1 hinE
  subst hn
  simp (disch := omega) only [aC, aW, d3, iU, aIY, aIZ, true_and, bN, aT, aA, l1, aF]
  refine Kf fun w3 o3 x3 s3 => ?_
  refine Gx o3 rfl (by simp [one]) (by simp) fun w4 o4 x4 s4 => ?_
  simp only [aV, aI2, aI3] at o4
  have k0 := o4.cell (off := 0)
  have k1 := o4.cell (off := 1)
  have k2 := o4.cell (off := 2)
  simp only [aI0, aI1] at k0 k1 k2
  have x5 : aS w w4 cI := (x2.seq x3).new x4 x2.size
  have hsh := awN hn2
  have od := dT o4
  have k1d := od.cell (off := 1)
  simp only [aI0, aI1] at k1d
  have no : ∀ {b : Bool}, inE sy s (e1, (n : Int), e3) = b -> b = false -> ∀ (j : Nat) (e : T3), j < i + 1 -> L[j]? = some e -> inE sy s e = false := fun h1 h2 j e hj he => by
   by_cases hji : j = i
   .subst hji; rw [hge] at he; rw [<- aJj he, h1, h2]
   .exact hno j e (by omega) he
  by_cases he : e1 = sy
  .have d4 : (e1 == sy) = true := by simpa using he
   by_cases h5 : e3 <= (s : Int)
   .have d5 : decide ((0 : Int) <= (s : Int) - e3) = true := by simp; omega
    by_cases h6 : (s : Int) - e3 < ((2 ^ n : Nat) : Int)
    .have d6 : decide ((s : Int) - e3 < ((2 ^ n : Nat) : Int)) = true := by simpa using h6
     have hw : IntKind.u64.wrap ((s : Int) - e3) = (s : Int) - e3 := iI (by omega) (by omega)
     simp (disch := omega) only [gV, aIZ, eH, gJ, aA, bZ, true_and, kJ, k2, aG, dZ, aT, k0, fF, hw, cK, d4, mU, bM, if_true, bP, oD, d5, k1, mO, aIY, hsh, aW, d6, k1d, aF]
     exact ⟨.inl ⟨i, _, hge, by rw [hinE, decide_eq_true ⟨he, h5, by omega⟩], rfl⟩, x5.seq (aS.dr _ _)⟩
    .have d6 : decide ((s : Int) - e3 < ((2 ^ n : Nat) : Int)) = false := by simpa using h6
     simp (disch := omega) only [gV, aIZ, eH, gJ, aA, bZ, true_and, kJ, k2, aG, dZ, aT, k0, fF, iI, cK, d4, mU, bM, if_true, bP, oD, d5, k1, mO, aIY, hsh, aW, d6, aD]
     exact ⟨L.length - (i + 1), by omega, i + 1, rfl, rfl, by omega, no hinE (decide_eq_false (by omega)), x5⟩
   .have d5 : decide ((0 : Int) <= (s : Int) - e3) = false := by simp; omega
    simp (disch := omega) only [gV, aIZ, eH, gJ, aA, bZ, true_and, kJ, k2, aG, dZ, aT, k0, fF, cK, d4, mU, bM, if_true, bP, oD, d5, vN, aI5, if_false, aD, dH]
    exact ⟨L.length - (i + 1), by omega, i + 1, rfl, rfl, by omega, no hinE (decide_eq_false (by omega)), x5⟩
  .have d4 : (e1 == sy) = false := by simpa using he
   simp (disch := omega) only [gV, aIZ, eH, gJ, aA, bZ, true_and, kJ, k2, aG, dZ, aT, k0, fF, cK, d4, vN, bM, aI5, if_false, aD, dH]
   exact ⟨L.length - (i + 1), by omega, i + 1, rfl, rfl, by omega, no hinE (decide_eq_false (by omega)), x5⟩
 .have d3 : decide ((i : Int) < (L.length : Int)) = false := by simp; omega
  unfold G5
  simp (disch := omega) only [aC, aW, d3, true_and, bN, aT, aA, aD]
  exact ⟨.inr ⟨fun j e he => hno j e (by
   rcases aJl j L.length with h | h
   .omega
   .rw [aJk h] at he; cases he) he, rfl⟩, x2⟩
def aGi (L : List T3) (s : Int) (r : aLm) : Prop :=
 (∃ i, ∃ h : i < L.length, r = .tuple #[.int .i64 (i : Nat), .int .i64 0] /\ L[i].1 = s /\ ∀ j (hj : j < i), L[j].1 ≠ s) ∨
 (r = .tuple #[.int .i64 0, .int .i64 21] /\ ∀ j (hj : j < L.length), L[j].1 ≠ s)
theorem aF1 {w : aLl} {base b log : Nat} {L : List T3} {v : aLm} (h : Tbl w base b log L v) (hl : L.length <= 1000000) (s : Int) :
 aR pg Nu #[v, .int .u8 s] w (fun r w' => aGi L s r /\ aS w w' cI) := by
 refine aqC ?_
 obtain ⟨rfl, hb, ob⟩ := h
 unfold auS R4 Ru
 refine gA fun w1 o1 x1 s1 => ?_
 have c1 := o1.cell (off := 1)
 simp only [Value.cells, aI0, aI1] at c1
 unfold Rn Ro Rb RJ Q3
 simp (disch := omega) only [aC, bR, aIZ, aA, cW, c1, aG, fK]
 refine cC.rule (fun m t w' => ∃ i : Nat, m = L.length - i /\ t = .int .i64 i /\ i <= L.length /\ (∀ j (hj : j < i) (hj2 : j < L.length), L[j].1 ≠ s) /\ aS w w' cI) L.length ⟨0, rfl, rfl, by omega, fun j hj => by omega, x1⟩ ?_
 rintro m t w2 ⟨i, rfl, rfl, hi, hno, x2⟩
 unfold Kb
 by_cases hlt : i < L.length
 .have d1 : decide ((i : Int) < (L.length : Int)) = true := by simp; omega
  have l1 := GD (off := i * 3) (ob.ext x2 (fun h => h)) (by rw [lY]; omega)
  rw [aoA hlt] at l1
  simp (disch := omega) only [aC, aW, d1, iU, aIY, aIZ, bN, aT, aA, l1, aF]
  refine Kf fun w3 o3 x3 s3 => ?_
  refine Gx o3 rfl (by simp [one]) (by simp) fun w4 o4 x4 s4 => ?_
  simp only [aV, aI2, aI3] at o4
  have c0 := o4.cell (off := 0)
  simp only [aI0] at c0
  have x5 : aS w w4 cI := (x2.seq x3).new x4 x2.size
  by_cases he : L[i].1 = s
  .have d2 : (L[i].1 == s) = true := by simpa using he
   simp (disch := omega) only [eH, aA, kJ, c0, aG, cK, d2, aF]
   exact ⟨.inl ⟨i, hlt, rfl, he, fun j hj => hno j hj (by omega)⟩, x5⟩
  .have d2 : (L[i].1 == s) = false := by simpa using he
   simp (disch := omega) only [eH, aA, kJ, c0, aG, cK, d2, aD]
   refine ⟨L.length - (i + 1), by omega, i + 1, rfl, rfl, by omega, fun j hj hj2 => ?_, x5⟩
   by_cases hji : j = i
   .subst hji; exact he
   .exact hno j (by omega) hj2
 .have d1 : decide ((i : Int) < (L.length : Int)) = false := by simp; omega
  unfold JH
  simp (disch := omega) only [aC, aW, d1, bN, aT, aA, aD]
  exact ⟨.inr ⟨rfl, fun j hj => hno j (by omega) hj⟩, x2⟩
end Go.Proofs.YtaggdjhhmbnhoaaDoor
namespace Go.Pu
theorem aBd {B : Nat} : ∀ {l : List Nat}, (∀ n ∈ l, n <= B) -> l.sum <= l.length * B
 | [], _ => by simp
 | n :: l, h => by
   have h1 := h n (aJ6 ..)
   have h2 := aBd (l := l) fun m hm => h m (aJi _ hm)
   rw [aKo, aJo, aK5]; omega
theorem avT {n : Nat} : ∀ {l : List Nat}, n ∈ l -> n <= l.sum
 | [], h => by cases h
 | m :: l, h => by
   rw [aKo]
   rcases aJQ.1 h with rfl | h
   .omega
   .have := avT h; omega
def tB (R S n : Nat) : Nat := if n = 0 then 0 else 1 + n * R / S
def uS (R S n : Nat) : Nat := n * R / S
def kH (n : Nat) : Bool := decide (0 < n)
def Sv (ns : List Nat) (i last : Nat) : Prop := (last = 0 /\ ∀ j, j < i -> ns.getD j 0 = 0) ∨ (last < i /\ 0 < ns.getD last 0 /\ ∀ j, last < j -> j < i -> ns.getD j 0 = 0)
theorem Sv.step {ns : List Nat} {i last : Nat} (h : Sv ns i last) : Sv ns (i + 1) (if 0 < ns.getD i 0 then i else last) := by
 split
 .rename_i h0
  exact .inr ⟨by omega, h0, fun j h1 h2 => by omega⟩
 .rename_i h0
  rcases h with ⟨rfl, h⟩ | ⟨h1, h2, h3⟩
  .refine .inl ⟨rfl, fun j hj => ?_⟩
   rcases aJl j i with h' | h'
   .exact h j h'
   .have : j = i := by omega
    subst this; omega
  .refine .inr ⟨by omega, h2, fun j hj hj2 => ?_⟩
   rcases aJl j i with h' | h'
   .exact h3 j hj h'
   .have : j = i := by omega
    subst this; omega
theorem Sv.one {ns : List Nat} {i a b : Nat} (ha : Sv ns i a) (hb : Sv ns i b) : a = b := by
 rcases ha with ⟨rfl, h⟩ | ⟨h1, h2, h3⟩
 .rcases hb with ⟨rfl, _⟩ | ⟨k1, k2, _⟩
  .rfl
  .have := h b k1; omega
 .rcases hb with ⟨rfl, k⟩ | ⟨k1, k2, k3⟩
  .have := k a h1; omega
  .rcases aKy a b with h | h | h
   .have := h3 b h k1; omega
   .exact h
   .have := k3 a h h1; omega
theorem nT {ns : List Nat} {i : Nat} (h : i < ns.length) : ns.getD i 0 = ns[i] := by rw [aJe, aI7 h] <;> rfl
theorem aDs {α : Type} {ns : List α} {i : Nat} (h : i < ns.length) : ns.take (i + 1) = ns.take i ++ [ns[i]] := by
 rw [aJE, aI7 h] <;> rfl
theorem Re {ns : List Nat} {i : Nat} (h : i < ns.length) : ns.take (i + 1) = ns.take i ++ [ns.getD i 0] := by rw [aDs h, nT h]
theorem atF : ∀ {l : List Nat}, (∀ n ∈ l, n = 0) -> l.sum = 0
 | [], _ => rfl
 | n :: l, h => by rw [aKo, h n (aJ6 ..), atF fun m hm => h m (aJi _ hm)]
theorem Dq : ∀ {l : List Nat}, (∀ n ∈ l, n = 0) -> l.countP kH = 0
 | [], _ => rfl
 | n :: l, h => by
   rw [aKr, h n (aJ6 ..), Dq fun m hm => h m (aJi _ hm)] <;> rfl
theorem aBq (a b S : Nat) : a / S + b / S <= (a + b) / S := by
 rcases aJU S with h | h
 .subst h; simp
 .rw [aKT h, aJ4]
  have := aKY a S
  have := aKY b S
  omega
theorem ayF (R S : Nat) : ∀ l : List Nat, (l.map (uS R S)).sum <= l.sum * R / S
 | [] => by simp
 | n :: l => by
   rw [aKz, aKo, aKo, aJ4]
   have := ayF R S l
   have h2 := aBq (n * R) (l.sum * R) S
   unfold uS at *
   omega
theorem ajZ {R S : Nat} {l : List Nat} (h : l.sum <= S) (hS : 0 < S) : (l.map (uS R S)).sum <= R := by
 have h1 := ayF R S l
 have h2 : l.sum * R / S <= S * R / S := Nat.div_le_div_right (aJH _ h)
 rw [Nat.mul_div_cancel_left _ hS] at h2
 omega
theorem azC (R S : Nat) : ∀ l : List Nat, (l.map (tB R S)).sum = l.countP kH + (l.map (uS R S)).sum
 | [] => by simp
 | n :: l => by
   rw [aKz, aKo, aKz, aKo, aKr, azC R S l]
   by_cases h : n = 0
   .subst h
    simp [tB, uS, kH]
   .have : kH n = true := by unfold kH; simpa using (by omega : 0 < n)
    rw [this]
    simp only [tB, uS, if_neg h, if_true]
    omega
theorem aBY : ∀ {l : List Nat} {i : Nat} (y : Nat) (h : i < l.length), (l.set i (l[i] + y)).sum = l.sum + y
 | [], i, y, h => by simp at h
 | n :: l, 0, y, h => by simp only [aI2, aKB, aKo]; omega
 | n :: l, i + 1, y, h => by
   simp only [aI3, aLb, aKo]
   rw [aBY y (by simpa using h)]; omega
theorem azJ : ∀ l : List Nat, tX (l.map fun (n : Nat) => (n : Int)) = (l.sum : Nat)
 | [] => rfl
 | n :: l => by
   rw [aKz, zG, azJ l, aKo]
   have : dC (n : Int) = n := by unfold dC; rw [if_neg (by omega)]
   rw [this]; simp
theorem aFA {P : List Nat} {gr i : Nat} (x : Nat) (hg : gr < P.length) (hi : i < P.length) : (P.set gr x).getD i 0 = if i = gr then x else P.getD i 0 := by
 rw [aJe, aJe, List.getElem?_set]
 by_cases h : i = gr
 .subst h; simp [hi]
 .rw [if_neg (fun e => h e.symm), if_neg h]
def B4 (log there S last gr left : Nat) (ns : List Nat) : List Nat :=
 ((ns.take (last + 1)).map (tB (2 ^ log - there) S)).set gr (((ns.take (last + 1)).map (tB (2 ^ log - there) S)).getD gr 0 + left)
theorem aHd {log there last gr left : Nat} {ns : List Nat} (h5 : 5 <= log) (h15 : log <= 15) (hlen : ns.length <= 256) (hth : there = ns.countP kH) (h2 : 2 <= there) (h3 : there <= 2 ^ log) (hl : Sv ns ns.length last) (hgr : gr <= last) (hgr2 : 0 < ns.getD gr 0)
 (hleft : left + ((ns.take (last + 1)).map (uS (2 ^ log - there) ns.sum)).sum = 2 ^ log - there) :
 TO log ((B4 log there ns.sum last gr left ns).map fun (n : Nat) => (n : Int)) /\ (B4 log there ns.sum last gr left ns).length = last + 1 /\ last < ns.length /\ ∀ i, i < last + 1 -> (0 < (B4 log there ns.sum last gr left ns).getD i 0 ↔ 0 < ns.getD i 0) := by
 have hlast : last < ns.length /\ 0 < ns.getD last 0 /\ ∀ j, last < j -> j < ns.length -> ns.getD j 0 = 0 := by
  rcases hl with ⟨rfl, h⟩ | h
  .exfalso
   have : ns.countP kH = 0 := Dq fun n hn => by
    obtain ⟨i, hi, rfl⟩ := aJy hn
    rw [<- nT hi]; exact h i hi
   omega
  .exact h
 obtain ⟨l1, l2, l3⟩ := hlast
 have hz : ∀ n ∈ ns.drop (last + 1), n = 0 := fun n hn => by
  obtain ⟨i, hi, rfl⟩ := aJy hn
  rw [aJu] at hi
  rw [List.getElem_drop, <- nT (by omega)]
  exact l3 _ (by omega) (by omega)
 have hcnt : (ns.take (last + 1)).countP kH = there := by
  have : ns.countP kH = (ns.take (last + 1) ++ ns.drop (last + 1)).countP kH := by rw [aKs]
  rw [List.countP_append, Dq hz] at this
  omega
 have hpl : ((ns.take (last + 1)).map (tB (2 ^ log - there) ns.sum)).length = last + 1 := by rw [aJb, aJg]; omega
 have hpart : ∀ i, i < last + 1 -> ((ns.take (last + 1)).map (tB (2 ^ log - there) ns.sum)).getD i 0 = tB (2 ^ log - there) ns.sum (ns.getD i 0) := fun i hi => by
  rw [nT (by omega), aJB, List.getElem_take, nT (by omega)]
 have hsum := azC (2 ^ log - there) ns.sum (ns.take (last + 1))
 rw [hcnt] at hsum
 have hl' : (B4 log there ns.sum last gr left ns).length = last + 1 := by unfold B4; rw [aKM, hpl]
 have hon : ∀ n, 0 < tB (2 ^ log - there) ns.sum n ↔ 0 < n := fun n => by
  unfold tB
  split
  .omega
  .generalize n * (2 ^ log - there) / ns.sum = q
   constructor <;> intro <;> omega
 have hget : ∀ i, i < last + 1 -> (B4 log there ns.sum last gr left ns).getD i 0 = if i = gr then tB (2 ^ log - there) ns.sum (ns.getD gr 0) + left else tB (2 ^ log - there) ns.sum (ns.getD i 0) := fun i hi => by
  unfold B4
  rw [aFA _ (by omega) (by omega), hpart gr (by omega), hpart i hi]
 have hiff : ∀ i, i < last + 1 -> (0 < (B4 log there ns.sum last gr left ns).getD i 0 ↔ 0 < ns.getD i 0) := fun i hi => by
  rw [hget i hi]
  split
  .rename_i h
   subst h
   have := (hon (ns.getD i 0)).2 hgr2
   constructor <;> intro <;> omega
  .exact hon _
 refine ⟨⟨h5, h15, by rw [aJb, hl']; omega, by rw [aJb, hl']; omega, ?_, ?_, ?_⟩, hl', l1, hiff⟩
 .intro h
  rw [aKI, aJb, hl', aJq, aJZ] at h
  have h1 := (hiff last (by omega)).2 l2
  rw [nT (by omega)] at h1
  rw [aI7 (by omega)] at h
  have h2 := aJj h
  simp only at h2
  omega
 .intro p hp
  obtain ⟨n, _, rfl⟩ := aJO.1 hp
  omega
 .rw [azJ]
  have : (B4 log there ns.sum last gr left ns).sum = 2 ^ log := by
   unfold B4
   rw [nT (show gr < ((ns.take (last + 1)).map (tB (2 ^ log - there) ns.sum)).length by omega), aBY _ (by omega), hsum]
   omega
  rw [this]; simp
def MX (S : List Int) : List Nat := (List.range 256).map fun (s : Nat) => S.count (s : Int)
theorem sZ (S : List Int) : (MX S).length = 256 := by simp [MX]
theorem VN {S : List Int} {s : Nat} (h : s < 256) : (MX S).getD s 0 = S.count (s : Int) := by
 rw [nT (by rw [sZ]; exact h)]; simp [MX]
theorem avL : MX [] = List.replicate 256 0 := by
 unfold MX
 apply aJ2
 .rw [aJb, aKH, aKm]
 .intro i h1 h2
  simp only [aJB, aJY, List.count_nil, aLc]
theorem ayP {S : List Int} {c : Nat} (h : c < 256) : MX (S ++ [(c : Int)]) = (MX S).set c (S.count (c : Int) + 1) := by
 apply aJ2
 .simp [MX]
 .intro j h1 h2
  have hj : j < 256 := by simpa [MX] using h1
  rw [aKW]
  simp only [MX, aJB, aJY, aKb, aKJ]
  by_cases hij : c = j
  .subst hij; simp
  .have : ((c : Int) == (j : Int)) = false := by simp; omega
   rw [if_neg hij, this]; simp
theorem Y2 : ∀ {l : List Nat} {i x : Nat} (h : i < l.length) (hx : 0 < x), (l.set i x).countP kH = l.countP kH + if l.getD i 0 = 0 then 1 else 0
 | n :: l, 0, x, h, hx => by
   have e1 : kH x = true := by unfold kH; simp; omega
   rw [aI2, aKr, aKr, e1]
   simp only [List.getD_cons_zero]
   by_cases hn : n = 0
   .subst hn; simp [kH]
   .have e2 : kH n = true := by unfold kH; simp; omega
    rw [e2, if_neg hn]; simp
 | n :: l, i + 1, x, h, hx => by
   have := Y2 (l := l) (i := i) (Nat.lt_of_succ_lt_succ h) hx
   rw [aI3, aKr, aKr, this, List.getD_cons_succ]
   omega
def gmx (S : List Int) : Int := S.foldl max 0
theorem aFz (S : List Int) (c : Int) : gmx (S ++ [c]) = max (gmx S) c := by unfold gmx; rw [List.foldl_append] <;> rfl
theorem aHj {S : List Int} {n : Int} : ∀ {a : Int}, a <= n -> (∀ x ∈ S, x <= n) -> a <= S.foldl max a /\ S.foldl max a <= n /\ ∀ x ∈ S, x <= S.foldl max a := by
 induction S with
 | nil => intro a h _; exact ⟨by simp, by simpa using h, by simp⟩
 | cons y S ih =>
   intro a h hx
   have hy := hx y (aJ6 ..)
   obtain ⟨h1, h2, h3⟩ := ih (a := max a y) (by omega) (fun x h => hx x (aJi _ h))
   rw [List.foldl_cons]
   refine ⟨by omega, h2, fun x hx' => ?_⟩
   rcases aJQ.1 hx' with rfl | hx'
   .omega
   .exact h3 x hx'
theorem ajR {S : List Int} {x : Int} (h : x ∈ S) : 0 < S.count x := List.count_pos_iff.2 h
theorem aCg {S : List Int} {n : Nat} (hn : n < 256) (h : ∀ x ∈ S, 0 <= x /\ x <= n) :
 ∃ g : Nat, gmx S = g /\ g <= n /\ ((MX S).take (g + 1)).length = g + 1 /\ (∀ s, s <= g -> ((MX S).take (g + 1)).getD s 0 = S.count (s : Int)) /\ (∀ x ∈ S, x <= g) /\
   ((MX S).take (g + 1)).countP kH = (MX S).countP kH := by
 obtain ⟨h1, h2, h3⟩ := aHj (S := S) (n := n) (a := 0) (by omega) (fun x hx => (h x hx).2)
 have h1 : 0 <= gmx S := h1
 have h2 : gmx S <= n := h2
 have h3 : ∀ x ∈ S, x <= gmx S := h3
 obtain ⟨g, hg⟩ : ∃ g : Nat, gmx S = g := ⟨(gmx S).toNat, by omega⟩
 rw [hg] at h2 h3
 refine ⟨g, hg, by omega, by rw [aJg, sZ]; omega, fun s hs => ?_, h3, ?_⟩
 .rw [aJe, aJF (by omega), <- aJe, VN (by omega)]
 .have : (MX S).countP kH = ((MX S).take (g + 1) ++ (MX S).drop (g + 1)).countP kH := by rw [aKs]
  rw [this, List.countP_append]
  have hz : ((MX S).drop (g + 1)).countP kH = 0 := Dq fun x hx => ?_
  .omega
  obtain ⟨i, hi, rfl⟩ := aJy hx
  rw [aJu, sZ] at hi
  rw [List.getElem_drop]
  simp only [MX, aJB, aJY]
  exact List.count_eq_zero.2 fun hm => by have := h3 _ hm; omega
theorem aGe {S : List Int} (h : ∀ x ∈ S, 0 <= x /\ x <= 255) (hne : S ≠ []) : 0 < (MX S).countP kH := by
 obtain ⟨x, hx⟩ := aK2 _ hne
 obtain ⟨h0, h1⟩ := h x hx
 rw [List.countP_pos_iff]
 obtain ⟨c, rfl⟩ : ∃ c : Nat, x = c := ⟨x.toNat, by omega⟩
 refine ⟨(MX S).getD c 0, ?_, ?_⟩
 .rw [nT (by rw [sZ]; omega)]; exact aJh _
 .rw [VN (by omega)]; unfold kH; simpa using hx
theorem avP : ∀ {l : List Nat} {i j : Nat}, i < j -> 0 < l.getD i 0 -> 0 < l.getD j 0 -> 2 <= l.countP kH
 | [], i, j, _, h, _ => by simp at h
 | n :: l, 0, j + 1, _, h1, h2 => by
   rw [List.getD_cons_zero] at h1
   rw [List.getD_cons_succ] at h2
   have e1 : kH n = true := by unfold kH; simp; omega
   have hj : j < l.length := by
    rcases aJl j l.length with h | h
    .exact h
    .rw [aJe, aJk h] at h2; simp at h2
   have : 0 < l.countP kH := by
    rw [List.countP_pos_iff]
    refine ⟨l[j], aJh _, ?_⟩
    rw [nT hj] at h2
    unfold kH; simpa using h2
   rw [aKr, if_pos e1]; omega
 | n :: l, i + 1, j + 1, h, h1, h2 => by
   rw [List.getD_cons_succ] at h1 h2
   have := avP (l := l) (by omega) h1 h2
   rw [aKr]; omega
theorem aGw {S : List Int} (h : ∀ x ∈ S, 0 <= x /\ x <= 255) (h1 : (MX S).countP kH = 1) : ∀ x ∈ S, ∀ y ∈ S, x = y := by
 intro x hx y hy
 obtain ⟨a, rfl⟩ : ∃ c : Nat, x = c := ⟨x.toNat, by have := h x hx; omega⟩
 obtain ⟨b, rfl⟩ : ∃ c : Nat, y = c := ⟨y.toNat, by have := h y hy; omega⟩
 have ha := h _ hx
 have hb := h _ hy
 have c1 : 0 < (MX S).getD a 0 := by rw [VN (by omega)]; exact ajR hx
 have c2 : 0 < (MX S).getD b 0 := by rw [VN (by omega)]; exact ajR hy
 rcases aKy a b with h | h | h
 .have := avP h c1 c2; omega
 .rw [h]
 .have := avP h c2 c1; omega
theorem aCa {S : List Int} {c : Nat} (hc : c < 256) (h : ∀ x ∈ S, x = (c : Int)) (hne : S ≠ []) : (MX S).countP kH = 1 := by
 have e : MX S = (List.replicate 256 0).set c S.length := by
  apply aJ2
  .rw [sZ, aKM, aKm]
  .intro j h1 h2
   have hj : j < 256 := by rw [sZ] at h1; exact h1
   rw [aKW, aLc]
   simp only [MX, aJB, aJY]
   by_cases hij : c = j
   .subst hij
    rw [if_pos rfl, List.count_eq_length]
    intro b hb; exact (h b hb).symm
   .rw [if_neg hij]
    exact List.count_eq_zero.2 fun hm => by have := h _ hm; omega
 have hl : 0 < S.length := aJR.2 hne
 rw [e, Y2 (by rw [aKm]; exact hc) hl]
 rw [Dq (l := List.replicate 256 0) (fun n hn => aKK hn)]
 rw [aJe, aKL]
 simp [hc]
theorem aBT (S : List Int) : ∀ n, ((List.range n).map fun (s : Nat) => S.count (s : Int)).sum <= S.length := by
 induction S with
 | nil => intro n; rw [atF]; · simp
          intro x hx; obtain ⟨i, _, rfl⟩ := aJO.1 hx; simp
 | cons y S ih =>
   intro n
   have key : ∀ m, ((List.range m).map fun (s : Nat) => (y :: S).count (s : Int)).sum = ((List.range m).map fun (s : Nat) => S.count (s : Int)).sum + (if 0 <= y /\ y < m then 1 else 0) := by
    intro m
    induction m with
    | zero => rw [if_neg (by omega)] <;> rfl
    | succ m im =>
      rw [aK0, aJJ, aJJ, aK3, aK3, im]
      simp only [aKz, List.map_nil, aKo, List.sum_nil, aKw]
      by_cases hy : y = (m : Int)
      .subst hy
       have a1 : ¬ (0 <= (m : Int) /\ (m : Int) < (m : Nat)) := by omega
       have a2 : 0 <= (m : Int) /\ (m : Int) < ((m + 1 : Nat) : Int) := by omega
       have a3 : ((m : Int) == (m : Int)) = true := beq_self_eq_true _
       rw [if_neg a1, if_pos a2, if_pos a3]; omega
      .have e1 : ¬ (y == (m : Int)) = true := by rw [beq_eq_false_iff_ne.2 hy]; decide
       rw [if_neg e1]
       by_cases h2 : 0 <= y /\ y < (m : Int)
       .have a2 : 0 <= y /\ y < ((m + 1 : Nat) : Int) := by omega
        rw [if_pos h2, if_pos a2]; omega
       .have a2 : ¬ (0 <= y /\ y < ((m + 1 : Nat) : Int)) := by omega
        rw [if_neg h2, if_neg a2]; omega
   rw [key n, aJo]
   have := ih n
   split <;> omega
theorem axK (S : List Int) (k : Nat) (hk : k <= 256) : ((MX S).take k).sum <= S.length := by
 have e : (MX S).take k = (List.range k).map fun (s : Nat) => S.count (s : Int) := by
  unfold MX
  rw [<- aKX, List.take_range]
  congr 2; omega
 rw [e]; exact aBT S k
theorem aHG (S : List Int) : ∀ n ∈ MX S, n <= S.length := by
 intro n hn
 obtain ⟨s, _, rfl⟩ := aJO.1 hn
 exact aLk
end Go.Pu
namespace Go.Proofs.YtaggdjhhmbnhoaaDoor
open Go Go.En Go.Pu
set_option maxRecDepth 4000
def ON (L : List Bool) (v st1 : Nat) : Option (Nat × Nat) := if v = 1 then noR L (L.length + 1) st1 else some (0, st1)
theorem aGl {L : List Bool} {sym f st left : Nat} {ps : List Int} (h0 : left ≠ 0) : WD L sym (f + 1) st left ps = match Wi L st left with
 | none => .error 10
 | some (v, st1) => match ON L v st1 with
   | none => .error 10
   | some (k, st2) => if sym < ps.length + 1 + k then .error 11 else WD L sym f st2 (left - (dC ((v : Int) - 1)).toNat) (ps ++ ((v : Int) - 1) :: List.replicate k 0) := by
 rw [aoI, if_neg h0]
 cases Wi L st left with
 | none => rfl
 | some x =>
   obtain ⟨v, st1⟩ := x
   simp only
   unfold ON
   by_cases h : v = 1
   .subst h
    rw [if_pos rfl, if_pos rfl]
    have : dC (((1 : Nat) : Int) - 1) = 0 := rfl
    rw [this] <;> rfl
   .rw [if_neg h, if_neg h]
    rfl
theorem afC {p6 : Nat} {w0 w : aLl} {e : Int} (o6 : cM w p6 [.int .i64 0, .slice none 0 0]) (hx : aS w0 w cI) (hp : w0.heap.size <= p6) {RR : aLm -> aLl -> Prop}
 (hR : ∀ w', aS w0 w' cI -> RR (.tuple #[.agg #[.int .i64 0, .slice none 0 0], .int .i64 0, .int .i64 e]) w') :
 aC pg (aK 130 (.pointer (some ⟨p6, 0, none⟩)) (.agg #[.int .i64 0, .slice none 0 0])) w fun _u w => mW pg 130 (.pointer (some ⟨p6, 0, none⟩)) w fun r0 => RR (.tuple #[r0, .int .i64 0, .int .i64 e]) w := by
 refine jX o6 rfl (by simp [one]) (by simp) fun w6 o6 x6 s6 => ?_
 refine qA o6 (by simp [aV]) ?_
 simp only [aV, aI2, aI3, aI4, aIX, aI6]
 exact hR _ (hx.new x6 hp)
structure RdS (w : aLl) (p6 pf pc log st : Nat) (bv : aLm) (L : List Bool) (ps : List Int) (v : aLm) : Prop where
 o6 : cM w p6 [.int .i64 0, .slice none 0 0]
 of : cM w pf [bv, .int .i64 st]
 oc : cM w pc [.int .i64 log, v]
 os : uD w (pc + 1) 1 v ps.length (ps.map (Value.int .i64))
 bl : Bl w bv L
 at' : AtI bv 0 pf
 h6 : p6 < pf
 hf : pf < pc
theorem RdS.ext {w w' : aLl} {p6 pf pc log st : Nat} {bv : aLm} {L : List Bool} {ps : List Int} {v : aLm} (h : RdS w p6 pf pc log st bv L ps v) (hx : aS w w' cI) : RdS w' p6 pf pc log st bv L ps v :=
 ⟨h.o6.ext hx (fun h => h), h.of.ext hx (fun h => h), h.oc.ext hx (fun h => h), h.os.ext hx (fun _ _ h => h), h.bl.ext hx (bU _), h.at', h.h6, h.hf⟩
theorem RdS.setF {w w' : aLl} {p6 pf pc log st st' : Nat} {bv : aLm} {L : List Bool} {ps : List Int} {v : aLm} (h : RdS w p6 pf pc log st bv L ps v) (hx : aS w w' (fun y => y = pf)) (o : cM w' pf [bv, .int .i64 st']) : RdS w' p6 pf pc log st' bv L ps v := by
 have h6 := h.h6
 have hf := h.hf
 exact ⟨h.o6.ext hx (by omega), o, h.oc.ext hx (by omega), h.os.ext hx (fun _ _ h => by omega), h.bl.ext hx (h.at' _ fun b _ hb => by omega), h.at', h.h6, h.hf⟩
theorem aFw {w : aLl} {p6 pf pc log st : Nat} {bv : aLm} {L : List Bool} {ps : List Int} {v : aLm} (h : RdS w p6 pf pc log st bv L ps v) (p : Int) (hl : ps.length <= 100000000) {K : aLl -> Prop}
 (hK : ∀ w' v', RdS w' p6 pf pc log st bv L (ps ++ [p]) v' -> aS w w' (fun y => pc <= y) -> K w') :
 aC pg (cD 77 1 [(0, .int .i64 p)]) w fun t64 w => aC pg (lF .append #[77, 77] 77 [v, t64]) w fun t65 w => aC pg (aL 130 (.pointer (some ⟨pc, 0, none⟩)) 1) w fun t66 w => aC pg (aK 77 t66 t65) w fun _ w => K w := by
 have lpc := h.oc.lt
 have h6 := h.h6
 have hf := h.hf
 refine zD (cells := #[.int .i64 p]) (by decide) (by decide) (by kernel_rfl) fun w4 o4 x4 s4 => ?_
 have z4 := x4.size
 refine Fz (m := 1) (news := [.int .i64 p]) (h.os.ext x4 (fun _ _ h => h)) (o4.cl (off := 0) (l := [.int .i64 p]) (n := 1) rfl (fun i hi => by rw [aIZ])) (by simp [one]) (by omega) (by omega) fun v5 w5 o5 x5 => ?_
 have z5 := x5.size
 obtain ⟨av5, cv5, rfl⟩ := o5.len
 have oc5 := (h.oc.ext x4 (fun h => h)).ext x5 (by omega)
 simp (disch := omega) only [aC, aU, aIZ, aA]
 refine VW oc5 rfl (by simp) fun w6 oc6 x6 s6 => ?_
 simp only [aI2, aI3] at oc6
 have ov6 := o5.ext x6 (fun b hb h => by omega)
 have x26 : aS w w6 (fun y => pc <= y) := ((x4.mono fun _ _ h => h.elim).seq (x5.mono fun y _ h => by omega)).seq (x6.mono fun y _ h => by omega)
 rw [show (ps.map (Value.int .i64) ++ [Value.int .i64 p]) = (ps ++ [p]).map (Value.int .i64) from by simp, show ps.length + 1 = (ps ++ [p]).length from by simp] at ov6
 rw [show ps.length + 1 = (ps ++ [p]).length from by simp] at oc6
 exact hK w6 _ ⟨h.o6.ext x26 (by omega), h.of.ext x26 (by omega), oc6, ov6, h.bl.ext x26 (h.at' _ fun b _ hb => by omega), h.at', h6, hf⟩ x26
theorem aDH {w : aLl} {p6 pf pc log st sym left : Nat} {bv : aLm} {L : List Bool} {ps : List Int} {v : aLm} (h : RdS w p6 pf pc log st bv L ps v) {x : Nat} (hx3 : x <= 3) (hl : ps.length <= 90000000) {kn : aLm -> aLm -> aLm -> aLm -> aLm -> aLm -> aLl -> Prop}
 (hK : ∀ w' v', RdS w' p6 pf pc log st bv L (ps ++ List.replicate x 0) v' -> aS w w' (fun y => pc <= y) -> kn (.int .i64 sym) (.pointer (some ⟨p6, 0, none⟩)) (.pointer (some ⟨pf, 0, none⟩)) (.pointer (some ⟨pc, 0, none⟩)) (.int .i64 left) (.bool (((x : Nat) : Int) == 3)) w') :
 He kn (.int .i64 sym) (.pointer (some ⟨p6, 0, none⟩)) (.pointer (some ⟨pf, 0, none⟩)) (.int .u64 x) (.pointer (some ⟨pc, 0, none⟩)) (.int .i64 left) w := by
 unfold He NM O7 Ph O1
 refine cC.rule (fun m (t : aLm) w' => ∃ (i : Nat) (v' : aLm), m = x - i /\ t = .int .i64 i /\ i <= x /\ RdS w' p6 pf pc log st bv L (ps ++ List.replicate i 0) v' /\ aS w w' (fun y => pc <= y)) x
  ⟨0, v, rfl, rfl, by omega, by simpa using h, aS.refl _ _⟩ ?_
 rintro m t w1 ⟨i, v', rfl, rfl, hi, h1, x1⟩
 unfold Gu
 by_cases hlt : i < x
 .have d1 : decide ((i : Int) < (x : Int)) = true := by simp; omega
  have c1 := h1.oc.cell (off := 1)
  simp only [aI0, aI1] at c1
  simp (disch := omega) only [aC, cR, aT, aU, aIZ, bN, aA, cF, aW, d1, c1, aG, aF]
  refine aFw h1 0 (by simp; omega) fun w2 v2 h2 x2 => ?_
  refine ⟨x - (i + 1), by omega, i + 1, v2, rfl, rfl, by omega, ?_, x1.seq x2⟩
  rw [aJc, <- List.replicate_succ'] at h2
  exact h2
 .have d1 : decide ((i : Int) < (x : Int)) = false := by simp; omega
  obtain rfl : i = x := by omega
  unfold G8
  simp (disch := omega) only [aC, cR, aT, aU, aIZ, bN, aA, cF, cK, aW, d1, aD]
  exact hK _ _ h1 x1
end Go.Proofs.YtaggdjhhmbnhoaaDoor
