/- Parts of the proof of LiteralsReads: merged and given short names by a program of ours. -/
import Derived.Laws.Strings
import Derived.Test.YtgpimhlgaokobaaGreatZaC
set_option linter.unusedVariables false
set_option linter.unusedSimpArgs false
open Bool renaming and_eq_true → aK5, false_eq_true → aKQ, not_true → aLb, not_false → aLi, or_eq_false_iff → aMG
open Int renaming tdiv_eq_ediv_of_nonneg → aK6, toNat_natCast → aKO, tmod_eq_emod_of_nonneg → aLg, fdiv_eq_ediv_of_nonneg → aMn
open List renaming getD_eq_getElem?_getD → aK0, length_take → aK2, getElem?_eq_none → aK3, length_drop → aK7, getElem?_cons_zero → aKM, getElem?_cons_succ → aKN, set_cons_succ → aKR, set_cons_zero → aKS, take_succ_cons → aKT, drop_zero → aKU, length_append → aKV, getElem?_eq_getElem → aKW, take_zero → aKX, length_map → aKZ, map_cons → aL0, getElem_map → aL3, set_append_left → aL4, drop_succ_cons → aL6, nil_append → aL8, getElem_mem → aLA, getElem?_take_of_lt → aLB, length_singleton → aLE, mem_cons → aLF, append_nil → aLG, length_replicate → aLJ, getElem?_eq_some_iff → aLK, take_add_one → aLL, getElem?_range → aLQ, getElem?_append_right → aLS, mem_of_getElem? → aLU, cons_append → aLV, ext_getElem? → aLY, mem_map → aLZ, length_cons → aLa, mem_cons_of_mem → aLc, getElem?_append_left → aLd, map_append → aLe, append_assoc → aLj, getElem?_map → aLl, take_of_length_le → aLn, drop_eq_getElem_cons → aLo, length_eq_zero_iff → aLq, map_congr_left → aLs, mem_range → aLu, mem_append → aLx, replicate_succ → aLy, range_succ → aM3, drop_left' → aM5, map_set → aM8, map_replicate → aM9, drop_of_length_le → aMB, map_take → aME, flatten_cons → aMF, getLast?_eq_getElem? → aMH, replicate_succ' → aMI, drop_drop → aMK, take_left' → aMQ, getElem_cons_succ → aMR, getElem_set_self → aMU, mem_of_mem_drop → aMY, ext_getElem → aMa, mem_of_mem_take → aMd, getElem?_replicate → aMe, count_append → aMg, getElem_of_mem → aMi, mem_cons_self → aMq, getElem?_drop → aMs, set_append_right → aMt, getElem_range → aMu, take_append_drop → aMv, map_drop → aMx, take_append_of_le_length → aMy, take_length → aMz, take_take → aNa, length_range → aNc, drop_eq_nil_of_le → aNd, count_singleton → aNi
open Nat renaming le_refl → aK1, lt_or_ge → aK9, zero_add → aKP, pow_le_pow_right → aKY, eq_zero_or_pos → aL9, add_mul → aLD, min_eq_left → aLH, pow_add → aLM, div_le_self → aLP, le_trans → aLT, add_zero → aLW, two_pow_pos → aLh, mul_le_mul_right → aLk, mul_comm → aLm, pow_succ → aLr, mod_eq_of_lt → aLt, one_mul → aM0, mul_add → aM1, div_lt_iff_lt_mul → aMD, zero_le → aMJ, testBit_eq_decide_div_mod_eq → aMM, mul_div_cancel_left → aMN, mul_assoc → aMZ, mul_one → aMc, div_div_eq_div_mul → aMl, add_assoc → aMm, lt_of_lt_of_le → aMp, sub_self → aMw, lt_trichotomy → aNb, div_eq_of_lt → aNe, zero_mul → aNg
open Option renaming isNone_some → aK8, map_some → aLC
open Option.some renaming inj → aLf
open Prod.mk renaming inj → aMA
open UInt8 renaming toNat_lt → aLv
namespace Go.Pu
open Go Go.En
def cc : List (Nat × Nat) -> List aNk
 | [] => []
 | e :: r => .int .i64 (e.1 : Nat) :: .int .i64 (e.2 : Nat) :: cc r
theorem Ei : ∀ L : List (Nat × Nat), (cc L).length = 2 * L.length
 | [] => rfl
 | e :: r => by rw [cc, aLa, aLa, Ei r, aLa]; omega
theorem aEq : ∀ n : Nat, Fh n [Value.int .i64 0, Value.int .i64 0] = cc (List.replicate n (0, 0))
 | 0 => rfl
 | n + 1 => by
   have := aEq n
   unfold Fh at *
   rw [aLy, aMF, this, aLy, cc] <;> rfl
theorem aGq : ∀ {L : List (Nat × Nat)} {i : Nat} (h : i < L.length), (cc L)[i * 2]? = some (.int .i64 (L[i].1 : Nat)) /\ (cc L)[i * 2 + 1]? = some (.int .i64 (L[i].2 : Nat))
 | [], i, h => by simp at h
 | e :: r, 0, h => ⟨rfl, rfl⟩
 | e :: r, i + 1, h => by
   have := aGq (L := r) (i := i) (by simpa using h)
   rw [cc, show (i + 1) * 2 = i * 2 + 1 + 1 from by omega, aMR]
   exact this
theorem aEX : ∀ {L : List (Nat × Nat)} {i : Nat} (h : i < L.length), ((cc L).drop (i * 2)).take 2 = [.int .i64 (L[i].1 : Nat), .int .i64 (L[i].2 : Nat)]
 | [], i, h => by simp at h
 | e :: r, 0, h => rfl
 | e :: r, i + 1, h => by
   have := aEX (L := r) (i := i) (by simpa using h)
   rw [cc, show (i + 1) * 2 = i * 2 + 1 + 1 from by omega, aL6, aL6, aMR]
   exact this
theorem aDT : ∀ {L : List (Nat × Nat)} {i : Nat} (e : Nat × Nat), i < L.length -> ((cc L).set (i * 2) (.int .i64 (e.1 : Nat))).set (i * 2 + 1) (.int .i64 (e.2 : Nat)) = cc (L.set i e)
 | [], i, e, h => by simp at h
 | x :: r, 0, e, h => rfl
 | x :: r, i + 1, e, h => by
   have := aDT (L := r) (i := i) e (by simpa using h)
   rw [cc, show (i + 1) * 2 = i * 2 + 1 + 1 from by omega, aKR, aKR, aKR, aKR, this, aKR, cc]
theorem aAu : ∀ (a b : List (Nat × Nat)), cc (a ++ b) = cc a ++ cc b
 | [], b => rfl
 | e :: a, b => by rw [aLV, cc, cc, aAu a b] <;> rfl
def tR (l : List Nat) (d w i : Nat) : List (Nat × Nat) := (List.range l.length).map fun s => if l.getD s 0 < w ∨ (l.getD s 0 = w /\ s < i) then Fm l d s else (0, 0)
def pH (l : List Nat) (d : Nat) : List (Nat × Nat) := (List.range l.length).map (Fm l d)
theorem lP (l : List Nat) (d w i : Nat) : (tR l d w i).length = l.length := by simp [tR]
theorem uC (l : List Nat) (d : Nat) : (pH l d).length = l.length := by simp [pH]
theorem Z9 {l : List Nat} {d s : Nat} (h : s < l.length) : (pH l d)[s]? = some (Fm l d s) := by
 unfold pH; rw [aLl, aLQ h] <;> rfl
theorem wE {l : List Nat} {d w i s : Nat} (h : s < l.length) : (tR l d w i)[s]? = some (if l.getD s 0 < w ∨ (l.getD s 0 = w /\ s < i) then Fm l d s else (0, 0)) := by
 unfold tR; rw [aLl, aLQ h] <;> rfl
theorem YX (l : List Nat) (d : Nat) : tR l d 1 0 = List.replicate l.length (0, 0) := by
 apply aLY
 intro s
 rcases aK9 s l.length with h | h
 .rw [wE h, aMe, if_pos h]
  congr 1
  split
  .rename_i hh
   unfold Fm
   rw [if_pos (by omega)]
  .rfl
 .rw [aK3 (by rw [lP]; exact h), aK3 (by simpa using h)]
theorem akE {l : List Nat} {d w : Nat} : tR l d w l.length = tR l d (w + 1) 0 := by
 apply aLY
 intro s
 rcases aK9 s l.length with h | h
 .rw [wE h, wE h]
  congr 1
  by_cases hh : l.getD s 0 < w + 1
  .rw [if_pos (by omega), if_pos (by omega)]
  .rw [if_neg (by omega), if_neg (by omega)]
 .rw [aK3 (by rw [lP]; exact h), aK3 (by rw [lP]; exact h)]
theorem aqX {l : List Nat} {d w : Nat} (hall : ∀ x ∈ l, x <= d) (hw : d < w) : tR l d w 0 = pH l d := by
 apply aLY
 intro s
 rcases aK9 s l.length with h | h
 .rw [wE h, Z9 h, if_pos]
  have := hall _ (tN h)
  omega
 .rw [aK3 (by rw [lP]; exact h), aK3 (by rw [uC]; exact h)]
theorem akG {l : List Nat} {d w i : Nat} (h : i < l.length) (hw : l.getD i 0 ≠ w) : tR l d w (i + 1) = tR l d w i := by
 apply aLY
 intro s
 rcases aK9 s l.length with hs | hs
 .rw [wE hs, wE hs]
  congr 1
  by_cases hsi : s = i
  .subst hsi
   by_cases h1 : l.getD s 0 < w
   .rw [if_pos (by omega), if_pos (by omega)]
   .rw [if_neg (by omega), if_neg (by omega)]
  .by_cases h1 : l.getD s 0 < w ∨ (l.getD s 0 = w /\ s < i)
   .rw [if_pos (by omega), if_pos h1]
   .rw [if_neg (by omega), if_neg h1]
 .rw [aK3 (by rw [lP]; exact hs), aK3 (by rw [lP]; exact hs)]
theorem arF {l : List Nat} {d w i : Nat} (h : i < l.length) (hw : l.getD i 0 = w) : (tR l d w i).set i (Fm l d i) = tR l d w (i + 1) := by
 apply aLY
 intro s
 rw [List.getElem?_set]
 rcases aK9 s l.length with hs | hs
 .by_cases hsi : i = s
  .subst hsi
   rw [if_pos rfl, if_pos (by rw [lP]; exact h), wE (i := i + 1) hs, if_pos (by omega)]
  .rw [if_neg hsi, wE (i := i) hs, wE (i := i + 1) hs]
   congr 1
   by_cases h1 : l.getD s 0 < w ∨ (l.getD s 0 = w /\ s < i)
   .rw [if_pos h1, if_pos (by omega)]
   .rw [if_neg h1, if_neg (by omega)]
 .rw [if_neg (by omega), aK3 (by rw [lP]; exact hs), aK3 (by rw [lP]; exact hs)]
def Eu (l : List Nat) (w i : Nat) : Nat := xS l w + (l.take i).count w * 2 ^ (w - 1)
theorem avE (l : List Nat) : Eu l 1 0 = 0 := by unfold Eu; rw [awX]; simp
theorem aoV {l : List Nat} {w : Nat} (h : 1 <= w) : Eu l w l.length = Eu l (w + 1) 0 := by
 unfold Eu
 rw [aMz, Qc l w h]; simp
theorem apW {l : List Nat} {w i : Nat} (h : i < l.length) : Eu l w (i + 1) = Eu l w i + (if l.getD i 0 = w then 2 ^ (w - 1) else 0) := by
 have hg : l.getD i 0 = l[i] := by rw [aK0, aKW h] <;> rfl
 unfold Eu
 rw [aLL, aKW h, aMg, hg]
 simp only [Option.toList, aNi]
 by_cases hw : l[i] = w
 .subst hw; simp [aLD]; omega
 .rw [if_neg hw]
  have : (l[i] == w) = false := by simpa using hw
  rw [this]; simp
theorem aBr {l : List Nat} {w i : Nat} (h : l.getD i 0 = w) : Eu l w i = Ot l i := by unfold Eu Ot; rw [h]
theorem aEV {l : List Nat} {d w i : Nat} (hs : dV l = 2 ^ d) (hall : ∀ x ∈ l, x <= d) (h1 : 1 <= w) (hw : w <= d) : Eu l w i <= 2 ^ d := by
 have h2 : Eu l w i <= xS l (w + 1) := by
  rw [Qc l w h1]
  unfold Eu
  have hc : (l.take i).count w <= l.count w := (List.take_sublist _ _).count_le _
  have := aLk (2 ^ (w - 1)) hc
  omega
 have h3 := VJ (l := l) (a := w + 1) (b := d + 1) (by omega) (by omega)
 rw [acX hall, hs] at h3
 omega
end Go.Pu
namespace Go.Proofs.YtgpimhlgaokobaaGreat
open Go Go.En Go.Pu
set_option maxRecDepth 4000
theorem aCB {l : List UInt8} {i : Nat} (h : i < l.length) : (cF l).getD i 0 = l[i].toNat := by rw [aK0, aCE h] <;> rfl
theorem aBC {v : aNk} {l : List UInt8} {d : Nat} {w : aNj} (h : Bs w v l) (hd : jD (cF l) = d) (hd0 : d ≠ 0) :
 aS pg tI #[v] w (fun r w' => ∃ b, r = .tuple #[.slice (some ⟨b, 0, none⟩) l.length l.length, .int .i64 0] /\ w.heap.size <= b /\ eM w' b (cc (pH (cF l) d)) /\ aW w w' eU) := by
 refine Nl ?_
 obtain ⟨hall, hd11, hl2, hl256, hlast, hsum⟩ := yA hd hd0
 have hnl := jY l
 obtain ⟨b, off, c, rfl, hc, hcell⟩ := OE h (by omega)
 unfold QU AK Az
 refine (auR h (by omega)).mono ?_
 rintro r w1 ⟨rfl, rfl⟩
 rw [hd]
 have n1 : ((d : Int) == 0) = false := beq_eq_false_iff_ne.2 (by omega)
 simp (disch := omega) only [aD, dU, n1, aV, aA, aE]
 refine Yl (by omega) (by omega) fun w2 o2 x2 s2 => ?_
 rw [aKO] at o2 ⊢
 rw [aEq, <- hnl, <- YX _ d] at o2
 generalize hpb : w1.heap.size = pb at *
 have hp2 : 2 ^ d <= 2 ^ 11 := aKY (by omega) hd11
 unfold Gc Ge F2 FI EK
 refine cU.rule (fun m (t : aNk × aNk) w' => ∃ q : Nat, m = d + 1 - q /\ t = (.int .i64 (Eu (cF l) q 0 : Nat), .int .i64 q) /\ 1 <= q /\ q <= d + 1 /\ eM w' pb (cc (tR (cF l) d q 0)) /\ aW w2 w' (fun y => y = pb)) d
  ⟨1, by omega, by rw [avE] <;> rfl, by omega, by omega, o2, aW.refl _ _⟩ ?_
 rintro m t w3 ⟨q, rfl, rfl, hq1, hqd, o3, x3⟩
 unfold AF FD
 by_cases hq : q <= d
 .have d1 : decide ((q : Int) <= (d : Int)) = true := by simp; omega
  simp (disch := omega) only [aD, zL, d1, aA, aG]
  unfold FG ER Sd Hw
  simp (disch := omega) only [aD, aV, aA]
  unfold HF Im
  refine cU.rule (fun m (t : aNk × aNk) w' => ∃ i : Nat, m = l.length - i /\ t = (.int .i64 (Eu (cF l) q i : Nat), .int .i64 i) /\ i <= l.length /\ eM w' pb (cc (tR (cF l) d q i)) /\ aW w2 w' (fun y => y = pb)) l.length
   ⟨0, rfl, rfl, by omega, o3, x3⟩ ?_
  rintro m t w4 ⟨i, rfl, rfl, hi, o4, x4⟩
  unfold BH Ht
  by_cases hlt : i < l.length
  .have d2 : decide ((i : Int) < (l.length : Int)) = true := by simp; omega
   have h4 : Bs w4 _ l := (h.ext x2 (bZ _)).ext x4 (fun hb => (h.old) (agY hb fun y hy => by omega))
   obtain ⟨_, _, _, he, _, hcell4⟩ := OE h4 (by omega)
   cases he
   have g1 := hcell4 i hlt
   have hgd := aCB hlt
   have hstep := apW (l := cF l) (w := q) (i := i) (by omega)
   have hskip := akG (l := cF l) (d := d) (w := q) (i := i) (by omega)
   have hset := arF (l := cF l) (d := d) (w := q) (i := i) (by omega)
   have hof := aBr (l := cF l) (w := q) (i := i)
   have hle := aEV (l := cF l) (d := d) (w := q) (i := i) hsum hall hq1 hq
   have hco : Fm (cF l) d i = if (cF l).getD i 0 = 0 then (0, 0) else (d + 1 - (cF l).getD i 0, Ot (cF l) i / 2 ^ ((cF l).getD i 0 - 1)) := rfl
   rw [hgd] at hskip hset hstep hof hco
   have hx : (l[i]).toNat < 256 := aLv _
   generalize (l[i]).toNat = x at *
   unfold BN
   by_cases hxq : x = q
   .subst hxq
    have n2 : ((x : Int) != (x : Int)) = false := by simp
    have e1 : (d : Int) + 1 - (x : Int) = ((d + 1 - x : Nat) : Int) := by omega
    have e2 : (x : Int) - 1 = ((x - 1 : Nat) : Int) := by omega
    rw [if_neg (by omega), <- hof rfl] at hco
    rw [if_pos rfl] at hstep
    have hset := hset rfl
    rw [hco] at hset
    have e3 : ((Eu (cF l) x i : Nat) : Int).fdiv (2 ^ (min (x - 1) IntKind.i64.bits)) = ((Eu (cF l) x i / 2 ^ (x - 1) : Nat) : Int) := by
     rw [show min (x - 1) IntKind.i64.bits = x - 1 from aLH (by have : IntKind.i64.bits = 64 := rfl
                                                                omega), aMn _ (Int.pow_nonneg (by omega))]
     simp
    have hdl := aLP (Eu (cF l) x i) (2 ^ (x - 1))
    have hsh := aE9 (n := x - 1) (by omega)
    have hpx : 2 ^ (x - 1) <= 2 ^ 11 := aKY (by omega) (by omega)
    have e4 : ((Eu (cF l) x i : Nat) : Int) + ((2 ^ (x - 1) : Nat) : Int) = ((Eu (cF l) x (i + 1) : Nat) : Int) := by omega
    generalize Eu (cF l) x i = at' at *
    generalize at' / 2 ^ (x - 1) = cd at *
    simp (disch := omega) only [aD, aU, d2, dM, aKO, bN, aP, aA, fE, e2, eL, aKP, pA, sK, e3, e1, fK, iH, g1, aH, dT, dC, n2, aE, aG]
    refine Ib o4 rfl (by simp [one]) (by rw [Ei, lP]; simp; omega) fun w5 o5 x5 s5 => ?_
    simp only [bK] at o5
    have hcs := aDT (L := tR (cF l) d x i) (i := i) (d + 1 - x, cd) (by rw [lP]; omega)
    simp only at hcs
    rw [hcs, hset] at o5
    simp (disch := omega) only [hsh, e4]
    exact ⟨l.length - (i + 1), by omega, i + 1, rfl, rfl, by omega, o5, x4.trans x5 fun _ _ h => h⟩
   .have n2 : ((x : Int) != (q : Int)) = true := by simp; omega
    rw [if_neg hxq, aLW] at hstep
    have hskip := hskip hxq
    simp (disch := omega) only [aD, aU, d2, dM, aKO, bN, aP, aA, fE, eL, aKP, pA, sK, fK, iH, g1, aH, dT, dC, n2, aG]
    exact ⟨l.length - (i + 1), by omega, i + 1, rfl, by rw [hstep] <;> rfl, by omega, by rw [hskip]; exact o4, x4⟩
  .have d2 : decide ((i : Int) < (l.length : Int)) = false := by simp; omega
   obtain rfl : i = l.length := by omega
   have e1 := aoV (l := cF l) (w := q) hq1
   rw [hnl] at e1
   have e2 := akE (l := cF l) (d := d) (w := q)
   rw [hnl] at e2
   rw [e2] at o4
   unfold BI
   simp (disch := omega) only [aD, aU, d2, bN, aP, fE, aA, pA, sK, fK, aE]
   exact ⟨d + 1 - (q + 1), by omega, q + 1, rfl, by rw [e1] <;> rfl, by omega, by omega, o4, x4⟩
 .have d1 : decide ((q : Int) <= (d : Int)) = false := by simp; omega
  rw [aqX hall (by omega)] at o3
  unfold BX
  simp (disch := omega) only [aD, zL, d1, aA, aE]
  exact ⟨pb, rfl, by omega, o3, x2.trans x3 fun _ hb h => by omega⟩
theorem anH {v : aNk} {l : List UInt8} {w : aNj} (h : Bs w v l) (hl : l.length <= 100000) (hd : jD (cF l) = 0) :
 aS pg tI #[v] w (fun r w' => r = .tuple #[.slice none 0 0, .int .i64 1] /\ w' = w) := by
 refine Nl ?_
 unfold QU AK Az
 refine (auR h hl).mono ?_
 rintro r w1 ⟨rfl, rfl⟩
 rw [hd]
 have n1 : (((0 : Nat) : Int) == 0) = true := rfl
 simp (disch := omega) only [aD, dU, n1, true_and, aA, aG]
end Go.Proofs.YtgpimhlgaokobaaGreat
namespace Go.Pu
theorem azV {log : Nat} {ps : List Int} {i : Nat} (h : i < 2 ^ log) : (wY log ps)[i]? = some (Ub log ps (rF 0 log ps) i) := by
 unfold wY
 rw [aLl, aLQ h] <;> rfl
end Go.Pu
namespace Go.Pu
open Go Go.En
def WX (k : Nat) : List Nat := if k = 0 then [0, 1, 2, 3, 4, 5, 6, 7, 8, 9, 10, 11, 12, 13, 14, 15, 16, 18, 20, 22, 24, 28, 32, 40, 48, 64, 128, 256, 512, 1024, 2048, 4096, 8192, 16384, 32768, 65536]
 else if k = 1 then [1, 2, 4, 8, 16, 32, 64, 128, 256, 512, 1024, 2048, 4096, 8192, 16384, 32768, 65536, 131072, 262144, 524288, 1048576, 2097152, 4194304, 8388608, 16777216, 33554432, 67108864, 134217728, 268435456, 536870912, 1073741824, 2147483648]
 else [3, 4, 5, 6, 7, 8, 9, 10, 11, 12, 13, 14, 15, 16, 17, 18, 19, 20, 21, 22, 23, 24, 25, 26, 27, 28, 29, 30, 31, 32, 33, 34, 35, 37, 39, 41, 43, 47, 51, 59, 67, 83, 99, 131, 259, 515, 1027, 2051, 4099, 8195, 16387, 32771, 65539]
def awP (k : Nat) : List Nat := if k = 0 then [0, 0, 0, 0, 0, 0, 0, 0, 0, 0, 0, 0, 0, 0, 0, 0, 1, 1, 1, 1, 2, 2, 3, 3, 4, 6, 7, 8, 9, 10, 11, 12, 13, 14, 15, 16]
 else if k = 1 then List.range 32
 else [0, 0, 0, 0, 0, 0, 0, 0, 0, 0, 0, 0, 0, 0, 0, 0, 0, 0, 0, 0, 0, 0, 0, 0, 0, 0, 0, 0, 0, 0, 0, 0, 1, 1, 1, 1, 2, 2, 3, 3, 4, 4, 5, 7, 8, 9, 10, 11, 12, 13, 14, 15, 16]
abbrev asV (k : Nat) : Nat := (WX k).length
theorem aF7 {k : Nat} (h : k < 3) (c : Nat) (hc : c + 1 < asV k) : (WX k).getD (c + 1) 0 = (WX k).getD c 0 + 2 ^ (awP k).getD c 0 := by
 have h0 : ∀ c, c < 53 -> c + 1 < asV 0 -> (WX 0).getD (c + 1) 0 = (WX 0).getD c 0 + 2 ^ (awP 0).getD c 0 := by decide +kernel
 have h1 : ∀ c, c < 53 -> c + 1 < asV 1 -> (WX 1).getD (c + 1) 0 = (WX 1).getD c 0 + 2 ^ (awP 1).getD c 0 := by decide +kernel
 have h2 : ∀ c, c < 53 -> c + 1 < asV 2 -> (WX 2).getD (c + 1) 0 = (WX 2).getD c 0 + 2 ^ (awP 2).getD c 0 := by decide +kernel
 have hl : asV k <= 53 := by rcases (show k = 0 ∨ k = 1 ∨ k = 2 by omega) with rfl | rfl | rfl <;> decide
 rcases (show k = 0 ∨ k = 1 ∨ k = 2 by omega) with rfl | rfl | rfl
 .exact h0 c (by omega) hc
 .exact h1 c (by omega) hc
 .exact h2 c (by omega) hc
theorem aKs {k : Nat} (h : k < 3) (c : Nat) (hc : c < asV k) : (WX k).getD c 0 + 2 ^ (awP k).getD c 0 <= 4294967296 := by
 have h0 : ∀ c, c < 53 -> c < asV 0 -> (WX 0).getD c 0 + 2 ^ (awP 0).getD c 0 <= 4294967296 := by decide +kernel
 have h1 : ∀ c, c < 53 -> c < asV 1 -> (WX 1).getD c 0 + 2 ^ (awP 1).getD c 0 <= 4294967296 := by decide +kernel
 have h2 : ∀ c, c < 53 -> c < asV 2 -> (WX 2).getD c 0 + 2 ^ (awP 2).getD c 0 <= 4294967296 := by decide +kernel
 have hl : asV k <= 53 := by rcases (show k = 0 ∨ k = 1 ∨ k = 2 by omega) with rfl | rfl | rfl <;> decide
 rcases (show k = 0 ∨ k = 1 ∨ k = 2 by omega) with rfl | rfl | rfl
 .exact h0 c (by omega) hc
 .exact h1 c (by omega) hc
 .exact h2 c (by omega) hc
def aCS (k v c : Nat) : Prop := c < asV k /\ (WX k).getD c 0 <= v /\ v < (WX k).getD c 0 + 2 ^ (awP k).getD c 0
theorem amD {k : Nat} (h : k < 3) : ∀ {c d : Nat}, c < d -> d < asV k -> (WX k).getD c 0 + 2 ^ (awP k).getD c 0 <= (WX k).getD d 0
 | c, d + 1, hcd, hd => by
   have e := aF7 h d (by omega)
   rcases aK9 c d with h' | h'
   .have := amD h h' (by omega)
    have := aLh ((awP k).getD d 0)
    omega
   .have : c = d := by omega
    subst this; omega
theorem aCS.one {k v c d : Nat} (hk : k < 3) (hc : aCS k v c) (hd : aCS k v d) : c = d := by
 rcases aNb c d with h | h | h
 .have := amD hk h hd.1; have := hc.2.2; have := hd.2.1; omega
 .exact h
 .have := amD hk h hc.1; have := hd.2.2; have := hc.2.1; omega
theorem aCS.lt {k v c : Nat} (hk : k < 3) (hc : aCS k v c) : v < 4294967296 := by
 have := aKs hk c hc.1; have := hc.2.2; omega
def LL (B : List Bool) (left : Int) (n : Nat) : Nat := qF (B.take left.toNat) n
theorem aJj {T B X u : List Bool} {x n : Nat} (hT : T.take (X ++ u).length = X ++ u) (hu : u = yK x n) (hx : x < 2 ^ n) : LL T ((X ++ u).length : Nat) n = x /\ (((X ++ u).length : Nat) : Int) - n = ((X.length : Nat) : Int) /\ T.take X.length = X := by
 subst hu
 have hl : (X ++ yK x n).length = X.length + n := by rw [aKV, F9]
 refine ⟨?_, by omega, ?_⟩
 .unfold LL
  rw [aKO, hT, aDW hx]
 .have := congrArg (List.take X.length) hT
  rw [aNa, aLH (by omega), aMy (aK1 _), aLn (aK1 _)] at this
  exact this
def pE (C : List (Nat × Nat)) : Nat := C.foldl (fun m e => max m e.1) 0
theorem aCA : ∀ (C : List (Nat × Nat)) (m : Nat), m <= C.foldl (fun m e => max m e.1) m /\ ∀ e ∈ C, e.1 <= C.foldl (fun m e => max m e.1) m
 | [], m => ⟨aK1 _, fun e h => by cases h⟩
 | x :: C, m => by
   obtain ⟨h1, h2⟩ := aCA C (max m x.1)
   rw [List.foldl_cons]
   refine ⟨by omega, fun e he => ?_⟩
   rcases aLF.1 he with rfl | he
   .omega
   .exact h2 e he
theorem apE {C : List (Nat × Nat)} {e : Nat × Nat} (h : e ∈ C) : e.1 <= pE C := (aCA C 0).2 e h
theorem aG5 (C : List (Nat × Nat)) (e : Nat × Nat) : pE (C ++ [e]) = max (pE C) e.1 := by
 unfold pE; rw [List.foldl_append] <;> rfl
theorem aGL {d : Nat} : ∀ {C : List (Nat × Nat)} {m : Nat}, m <= d -> (∀ e ∈ C, e.1 <= d) -> C.foldl (fun m e => max m e.1) m <= d
 | [], m, hm, _ => hm
 | x :: C, m, hm, h => by
   rw [List.foldl_cons]
   exact aGL (by have := h x (aMq ..); omega) fun e he => h e (aLc _ he)
def GV (C : List (Nat × Nat)) (m x s : Nat) : Bool := match C[s]? with
 | some e => decide (0 < e.1) && decide (x / 2 ^ (m - e.1) = e.2)
 | none => false
theorem Pk {C : List (Nat × Nat)} {m x s : Nat} : GV C m x s = true ↔ ∃ b c, C[s]? = some (b, c) /\ 0 < b /\ x / 2 ^ (m - b) = c := by
 unfold GV
 cases h : C[s]? with
 | none => simp
 | some e =>
   obtain ⟨b, c⟩ := e
   simp only [aK5, decide_eq_true_eq]
   constructor
   .rintro ⟨h1, h2⟩; exact ⟨b, c, rfl, h1, h2⟩
   .rintro ⟨b', c', h1, h2, h3⟩; cases h1; exact ⟨h2, h3⟩
structure XF (C : List (Nat × Nat)) (m : Nat) : Prop where
 le : ∀ (s b c : Nat), C[s]? = some (b, c) -> b <= m /\ (0 < b -> c < 2 ^ b)
 ex : ∀ x, x < 2 ^ m -> ∃ s, GV C m x s = true
 un : ∀ x s t, x < 2 ^ m -> GV C m x s = true -> GV C m x t = true -> s = t
 pos : 0 < m
theorem aEv {l : List Nat} {w y : Nat} : ∀ i, i <= l.length -> xS l w <= y -> y < Eu l w i -> ∃ s, s < l.length /\ l.getD s 0 = w /\ Ot l s <= y /\ y < Ot l s + 2 ^ (w - 1)
 | 0, _, h, hy => by unfold Eu at hy; simp at hy; omega
 | i + 1, hi, h, hy => by
   rcases aK9 y (Eu l w i) with h1 | h1
   .exact aEv i (by omega) h h1
   .rw [apW (by omega)] at hy
    by_cases hw : l.getD i 0 = w
    .rw [if_pos hw] at hy
     rw [aBr hw] at hy h1
     exact ⟨i, by omega, hw, h1, hy⟩
    .rw [if_neg hw] at hy; omega
theorem aKb {l : List Nat} {y : Nat} : ∀ w, y < xS l (w + 1) -> ∃ s, s < l.length /\ l.getD s 0 ≠ 0 /\ Ot l s <= y /\ y < Ot l s + 2 ^ (l.getD s 0 - 1)
 | 0, hy => by rw [awX] at hy; omega
 | w + 1, hy => by
   rcases aK9 y (xS l (w + 1)) with h1 | h1
   .exact aKb w h1
   .have h2 : y < Eu l (w + 1) l.length := by rw [aoV (by omega)]; unfold Eu; simpa using hy
    obtain ⟨s, a, b, c, d⟩ := aEv l.length (aK1 _) h1 h2
    exact ⟨s, a, by omega, c, by rw [b]; exact d⟩
theorem aIX {l : List Nat} {s d y : Nat} (h : s < l.length) (h0 : l.getD s 0 ≠ 0) (hs : dV l = 2 ^ d) (hd : l.getD s 0 <= d) : (Ot l s <= y /\ y < Ot l s + 2 ^ (l.getD s 0 - 1)) ↔ y / 2 ^ (l.getD s 0 - 1) = Ot l s / 2 ^ (l.getD s 0 - 1) := by
 obtain ⟨q, hq⟩ := aEk h h0 hs hd
 have hp := aLh (l.getD s 0 - 1)
 rw [hq, aMN _ hp]
 generalize 2 ^ (l.getD s 0 - 1) = p at *
 constructor
 .rintro ⟨h1, h2⟩
  rw [Nat.div_eq_iff hp, aLm]
  omega
 .intro h
  rw [Nat.div_eq_iff hp, aLm q] at h
  omega
theorem Vr {l : List Nat} {d s b c : Nat} (h : (pH l d)[s]? = some (b, c)) : s < l.length /\ Fm l d s = (b, c) := by
 have hs : s < l.length := by
  rcases aK9 s l.length with h' | h'
  .exact h'
  .rw [aK3 (by rw [uC]; exact h')] at h; cases h
 rw [Z9 hs] at h
 exact ⟨hs, aLf h⟩
theorem awM {l : List Nat} {d : Nat} (hd : jD l = d) (hd0 : d ≠ 0) : XF (pH l d) (pE (pH l d)) /\ pE (pH l d) <= d := by
 obtain ⟨hall, hd11, hl2, hl256, hlast, hsum⟩ := yA hd hd0
 have hle : pE (pH l d) <= d := aGL (aMJ _) fun e he => by
  obtain ⟨s, hs⟩ := List.getElem?_of_mem he
  obtain ⟨hsl, hc⟩ := Vr (b := e.1) (c := e.2) hs
  unfold Fm at hc
  split at hc
  .have := (aMA hc).1; omega
  .have := (aMA hc).1; omega
 have key : ∀ x s, GV (pH l d) (pE (pH l d)) x s = true ↔ s < l.length /\ l.getD s 0 ≠ 0 /\ (x * 2 ^ (d - pE (pH l d))) / 2 ^ (l.getD s 0 - 1) = Ot l s / 2 ^ (l.getD s 0 - 1) := by
  intro x s
  rw [Pk]
  have hx : ∀ {b : Nat}, b <= pE (pH l d) -> 0 < b -> b = d + 1 - l.getD s 0 -> l.getD s 0 <= d -> l.getD s 0 ≠ 0 -> (x * 2 ^ (d - pE (pH l d))) / 2 ^ (l.getD s 0 - 1) = x / 2 ^ (pE (pH l d) - b) := by
   intro b h1 h2 h3 h4 h5
   rw [show l.getD s 0 - 1 = (d - pE (pH l d)) + (pE (pH l d) - b) from by omega, aLM, <- aMl, Nat.mul_div_cancel _ (aLh _)]
  constructor
  .rintro ⟨b, c, h1, h2, h3⟩
   have hm := apE (aLU h1)
   obtain ⟨hs, hc⟩ := Vr h1
   unfold Fm at hc
   by_cases h0 : l.getD s 0 = 0
   .rw [if_pos h0] at hc; cases hc; omega
   .rw [if_neg h0] at hc
    obtain ⟨hb, hcc⟩ := aMA hc
    have hws := hall _ (tN hs)
    exact ⟨hs, h0, by rw [hx hm h2 hb.symm hws h0, h3, hcc]⟩
  .rintro ⟨hs, h0, h⟩
   have hws := hall _ (tN hs)
   have hg := Z9 (d := d) hs
   have hm := apE (aLU hg)
   have hc : Fm l d s = (d + 1 - l.getD s 0, Ot l s / 2 ^ (l.getD s 0 - 1)) := by unfold Fm; rw [if_neg h0]
   rw [hc] at hg hm
   exact ⟨_, _, hg, by omega, by rw [<- hx hm (by omega) rfl hws h0, h]⟩
 have hyx : ∀ x, x < 2 ^ pE (pH l d) -> x * 2 ^ (d - pE (pH l d)) < 2 ^ d := fun x hx => by
  have := Nat.mul_lt_mul_of_pos_right hx (aLh (d - pE (pH l d)))
  rwa [<- aLM, show pE (pH l d) + (d - pE (pH l d)) = d from by omega] at this
 have ex : ∀ x, x < 2 ^ pE (pH l d) -> ∃ s, GV (pH l d) (pE (pH l d)) x s = true := fun x hx => by
  have h1 := hyx x hx
  rw [<- hsum, <- acX hall] at h1
  obtain ⟨s, a, b, c, e⟩ := aKb d h1
  exact ⟨s, (key x s).2 ⟨a, b, (aIX a b hsum (hall _ (tN a))).1 ⟨c, e⟩⟩⟩
 refine ⟨⟨fun s b c h => ?_, ex, fun x s t hx h1 h2 => ?_, ?_⟩, hle⟩
 .have hm := apE (aLU h)
  refine ⟨hm, fun hb => ?_⟩
  obtain ⟨hs, hc⟩ := Vr h
  unfold Fm at hc
  by_cases h0 : l.getD s 0 = 0
  .rw [if_pos h0] at hc; cases hc; omega
  .rw [if_neg h0] at hc
   obtain ⟨hb', hcc⟩ := aMA hc
   rw [<- hb', <- hcc]
   exact aFN hs h0 hsum hall
 .obtain ⟨a1, b1, c1⟩ := (key x s).1 h1
  obtain ⟨a2, b2, c2⟩ := (key x t).1 h2
  have dv : ∀ {y p q : Nat}, p <= q -> y / 2 ^ q = y / 2 ^ p / 2 ^ (q - p) := fun {y p q} h => by
   rw [aMl, <- aLM, show p + (q - p) = q from by omega]
  refine Decidable.byContradiction fun hne => ?_
  rcases Nat.le_total (l.getD t 0) (l.getD s 0) with hle' | hle'
  .refine aAj a1 a2 hne b1 b2 hle' hsum hall ?_
   rw [<- c2, <- c1, dv (y := x * 2 ^ (d - pE (pH l d))) (p := l.getD t 0 - 1) (q := l.getD s 0 - 1) (by omega)]
   congr 2; omega
  .refine aAj a2 a1 (fun h => hne h.symm) b2 b1 hle' hsum hall ?_
   rw [<- c2, <- c1, dv (y := x * 2 ^ (d - pE (pH l d))) (p := l.getD s 0 - 1) (q := l.getD t 0 - 1) (by omega)]
   congr 2; omega
 .obtain ⟨s, hs⟩ := ex 0 (aLh _)
  obtain ⟨b, c, h1, h2, _⟩ := Pk.1 hs
  have := apE (aLU h1)
  omega
def Eo (C : List (Nat × Nat)) (m x : Nat) : Nat := ((List.range C.length).find? (GV C m x)).getD 0
def bitsOf (C : List (Nat × Nat)) (s : Nat) : Nat := (C.getD s (0, 0)).1
theorem auX {C : List (Nat × Nat)} {m x s : Nat} (h : GV C m x s = true) : s < C.length := by
 obtain ⟨b, c, h1, _⟩ := Pk.1 h
 exact (aLK.1 h1).1
theorem ayF {C : List (Nat × Nat)} {m x s : Nat} (hF : XF C m) (hx : x < 2 ^ m) (h : GV C m x s = true) : Eo C m x = s := by
 unfold Eo
 cases hf : (List.range C.length).find? (GV C m x) with
 | none => exact absurd h (List.find?_eq_none.1 hf s (aLu.2 (auX h)))
 | some t => exact hF.un x t s hx (List.find?_some hf) h
theorem amL {C : List (Nat × Nat)} {m x : Nat} (hF : XF C m) (hx : x < 2 ^ m) : GV C m x (Eo C m x) = true := by
 obtain ⟨s, hs⟩ := hF.ex x hx
 rw [ayF hF hx hs]; exact hs
theorem apR {C : List (Nat × Nat)} {s b c : Nat} (h : C[s]? = some (b, c)) : bitsOf C s = b := by
 unfold bitsOf; rw [aK0, h] <;> rfl
def B3 (C : List (Nat × Nat)) (m : Nat) (B : List Bool) : Nat -> Int -> List Nat × Int
 | 0, left => ([], left)
 | n + 1, left =>
   let s := Eo C m (LL B left m)
   let r := B3 C m B n (left - bitsOf C s)
   (s :: r.1, r.2)
theorem VA {C : List (Nat × Nat)} {m : Nat} {B : List Bool} : ∀ {n : Nat} {left : Int}, (B3 C m B n left).1.length = n
 | 0, _ => rfl
 | n + 1, left => by rw [B3, aLa, VA]
theorem Kt (B : List Bool) (left : Int) (n : Nat) : LL B left n < 2 ^ n := sO _ _
theorem aBa {B : List Bool} {left : Int} (a b : Nat) (h : left <= B.length) : LL B left (a + b) = LL B left a * 2 ^ b + LL B (left - a) b := by
 unfold LL
 obtain ⟨k, hk⟩ : ∃ k, left.toNat = k := ⟨_, rfl⟩
 have hkB : k <= B.length := by omega
 have e2 : (left - a).toNat = k - a := by omega
 rw [hk, e2]
 have l1 : (B.take k).length = k := by rw [aK2]; omega
 have l2 : (B.take (k - a)).length = k - a := by rw [aK2]; omega
 unfold qF
 rw [l1, l2]
 rcases aK9 a k with h1 | h1
 .have hs : B.take k = B.take (k - a) ++ (B.drop (k - a)).take a := by
   rw [<- List.take_add]; congr 1; omega
  have m1 : min a k = a := by omega
  have hT : (B.take k).drop (k - a) = (B.drop (k - a)).take a := by
   rw [List.drop_take, show k - (k - a) = a from by omega]
  rw [m1, aMw, Nat.pow_zero, aMc, hT]
  obtain ⟨j, hj⟩ : ∃ j, j = min b (k - a) := ⟨_, rfl⟩
  have m2 : min (a + b) k = a + j := by omega
  rw [m2, <- hj]
  have hD : (B.take k).drop (k - (a + j)) = (B.take (k - a)).drop (k - a - j) ++ (B.drop (k - a)).take a := by
   rw [hs, List.drop_append_of_le_length (by rw [l2]; omega), show k - (a + j) = k - a - j from by omega]
  rw [hD, VU, aK7, l2, show k - a - (k - a - j) = j from by omega, show a + b - (a + j) = b - j from by omega, aLD]
  rw [Nat.add_comm]
  congr 1
  rw [aMZ, aLm (vX _) (2 ^ (b - j)), <- aMZ, <- aLM, aLm, show j + (b - j) = b from by omega]
 .have m1 : min a k = k := by omega
  have m2 : min (a + b) k = k := by omega
  have m3 : min b (k - a) = 0 := by omega
  rw [m1, m2, m3, aMw, show k - a = 0 from by omega]
  simp only [aKX, aKU, Nat.sub_zero, List.drop_nil, vX, aNg, aLW]
  rw [aMZ, <- aLM, show a - k + b = a + b - k from by omega]
theorem aA8 {B : List Bool} {left : Int} {a m : Nat} (h : left <= B.length) (ha : a <= m) : LL B left m / 2 ^ (m - a) = LL B left a /\ LL B left m % 2 ^ (m - a) = LL B (left - a) (m - a) := by
 obtain ⟨b, rfl⟩ := Nat.exists_eq_add_of_le ha
 rw [Nat.add_sub_cancel_left, aBa a b h]
 have hlt := Kt B (left - a) b
 constructor
 .rw [aLm, Nat.mul_add_div (aLh b), aNe hlt, aLW]
 .rw [aLm, Nat.mul_add_mod, aLt hlt]
def Sh (C : List (Nat × Nat)) : List Nat -> List Bool
 | [] => []
 | s :: r => Sh C r ++ yK (C.getD s (0, 0)).2 (C.getD s (0, 0)).1
theorem sV {C : List (Nat × Nat)} {m : Nat} (h : ∀ s, bitsOf C s <= m) : ∀ l : List Nat, (Sh C l).length <= m * l.length
 | [] => by simp [Sh]
 | s :: r => by
   rw [Sh, aKV, F9, aLa, aM1]
   have := h s
   have := sV h r
   unfold bitsOf at *
   omega
theorem aEQ {C : List (Nat × Nat)} {m : Nat} {T : List Bool} (hF : XF C m) : ∀ {l : List Nat}, (∀ s ∈ l, 0 < bitsOf C s) -> T.take (Sh C l).length = Sh C l -> B3 C m T l.length ((Sh C l).length : Nat) = (l, 0)
 | [], _, _ => rfl
 | s :: r, hb, hT => by
   have h0 := hb s (aMq ..)
   have hg : C[s]? = some ((C.getD s (0, 0)).1, (C.getD s (0, 0)).2) := by
    rw [aK0]
    cases h : C[s]? with
    | none => unfold bitsOf at h0; rw [aK0, h] at h0; simp at h0
    | some e => rfl
   obtain ⟨hle, hfit⟩ := hF.le _ _ _ hg
   have hfit := hfit h0
   obtain ⟨r1, r2, r3⟩ := aJj (B := []) hT rfl hfit
   have hTl : ((Sh C (s :: r)).length : Int) <= T.length := by
    have := congrArg List.length hT
    rw [aK2] at this
    omega
   have hd := (aA8 (a := (C.getD s (0, 0)).1) (m := m) hTl hle).1
   rw [aLa, B3]
   have hlen : (Sh C (s :: r)).length = (Sh C r ++ yK (C.getD s (0, 0)).2 (C.getD s (0, 0)).1).length := rfl
   rw [hlen] at hd ⊢
   rw [r1] at hd
   have hs : Eo C m (LL T (((Sh C r ++ yK (C.getD s (0, 0)).2 (C.getD s (0, 0)).1).length : Nat) : Int) m) = s :=
    ayF hF (Kt _ _ _) (Pk.2 ⟨_, _, hg, h0, hd⟩)
   simp only [hs, bitsOf, r2]
   rw [aEQ hF (fun x hx => hb x (aLc _ hx)) r3]
def fc : List (Nat × Nat) -> List aNk
 | [] => []
 | e :: r => .int .u8 (e.1 : Nat) :: .int .i64 (e.2 : Nat) :: fc r
theorem anF : ∀ L : List (Nat × Nat), (fc L).length = 2 * L.length
 | [] => rfl
 | e :: r => by rw [fc, aLa, aLa, anF r, aLa]; omega
theorem aEs : ∀ n : Nat, Fh n [Value.int .u8 0, Value.int .i64 0] = fc (List.replicate n (0, 0))
 | 0 => rfl
 | n + 1 => by
   have := aEs n
   unfold Fh at *
   rw [aLy, aMF, this, aLy, fc] <;> rfl
theorem aEu : ∀ {L : List (Nat × Nat)} {i : Nat} {e : Nat × Nat}, L[i]? = some e -> ((fc L).drop (i * 2)).take 2 = [.int .u8 (e.1 : Nat), .int .i64 (e.2 : Nat)]
 | [], i, e, h => by simp at h
 | e' :: r, 0, e, h => by cases h; rfl
 | e' :: r, i + 1, e, h => by
   have := aEu (L := r) (i := i) (e := e) (by simpa using h)
   rw [fc, show (i + 1) * 2 = i * 2 + 1 + 1 from by omega, aL6, aL6]
   exact this
theorem aGT : ∀ {L : List (Nat × Nat)} {i : Nat} (e : Nat × Nat), i < L.length -> ((fc L).set (i * 2) (.int .u8 (e.1 : Nat))).set (i * 2 + 1) (.int .i64 (e.2 : Nat)) = fc (L.set i e)
 | [], i, e, h => by simp at h
 | x :: r, 0, e, h => rfl
 | x :: r, i + 1, e, h => by
   have := aGT (L := r) (i := i) e (by simpa using h)
   rw [fc, show (i + 1) * 2 = i * 2 + 1 + 1 from by omega, aKR, aKR, aKR, aKR, this, aKR, fc]
def aCu (C : List (Nat × Nat)) (m s x : Nat) : Nat × Nat := match (List.range s).find? (GV C m x) with
 | some t => (t, bitsOf C t)
 | none => (0, 0)
def X8 (C : List (Nat × Nat)) (m s : Nat) : List (Nat × Nat) := (List.range (2 ^ m)).map (aCu C m s)
def awL (C : List (Nat × Nat)) (m s low j : Nat) : List (Nat × Nat) := (List.range (2 ^ m)).map fun x => if low <= x /\ x < low + j then (s, bitsOf C s) else aCu C m s x
theorem aBZ (C : List (Nat × Nat)) (m s : Nat) : (X8 C m s).length = 2 ^ m := by simp [X8]
theorem aqT (C : List (Nat × Nat)) (m s low j : Nat) : (awL C m s low j).length = 2 ^ m := by simp [awL]
theorem aHs {C : List (Nat × Nat)} {m s x : Nat} (h : x < 2 ^ m) : (X8 C m s)[x]? = some (aCu C m s x) := by
 unfold X8; rw [aLl, aLQ h] <;> rfl
theorem aFE (C : List (Nat × Nat)) (m : Nat) : X8 C m 0 = List.replicate (2 ^ m) (0, 0) := by
 unfold X8
 apply aLY
 intro x
 rcases aK9 x (2 ^ m) with h | h
 .rw [aLl, aLQ h, aMe, if_pos h] <;> rfl
 .rw [aK3 (by simpa using h), aK3 (by simpa using h)]
theorem azW (C : List (Nat × Nat)) (m s x : Nat) : aCu C m (s + 1) x = match (List.range s).find? (GV C m x) with
 | some t => (t, bitsOf C t)
 | none => if GV C m x s = true then (s, bitsOf C s) else (0, 0) := by
 unfold aCu
 rw [aM3, List.find?_append]
 cases (List.range s).find? (GV C m x) with
 | some t => rfl
 | none =>
   cases h : GV C m x s with
   | true => simp [List.find?, h]
   | false => simp [List.find?, h]
theorem aFZ {C : List (Nat × Nat)} {m s c : Nat} (h : C[s]? = some (0, c)) : X8 C m (s + 1) = X8 C m s := by
 unfold X8
 apply aLs
 intro x _
 rw [azW]
 have hh : GV C m x s = false := by
  unfold GV; rw [h] <;> rfl
 unfold aCu
 cases (List.range s).find? (GV C m x) with
 | some t => rfl
 | none => rw [hh] <;> rfl
theorem aFD (C : List (Nat × Nat)) (m s low : Nat) : awL C m s low 0 = X8 C m s := by
 unfold awL X8
 apply aLs
 intro x _
 rw [if_neg (by omega)]
theorem aHh {C : List (Nat × Nat)} {m s low j : Nat} (h : low + j < 2 ^ m) : (awL C m s low j).set (low + j) (s, bitsOf C s) = awL C m s low (j + 1) := by
 apply aLY
 intro x
 rw [List.getElem?_set]
 unfold awL
 rcases aK9 x (2 ^ m) with hx | hx
 .by_cases he : low + j = x
  .rw [if_pos he, if_pos (by simp; omega), aLl, aLQ hx]
   simp only [aLC]
   rw [if_pos (by omega)]
  .rw [if_neg he, aLl, aLQ hx, aLl, aLQ hx]
   simp only [aLC]
   congr 1
   by_cases hc : low <= x /\ x < low + j
   .rw [if_pos hc, if_pos (by omega)]
   .rw [if_neg hc, if_neg (by omega)]
 .rw [if_neg (by omega), aK3 (by simpa using hx), aK3 (by simpa using hx)]
theorem aAh {C : List (Nat × Nat)} {m s b c x : Nat} (h : C[s]? = some (b, c)) (hb : 0 < b) : GV C m x s = true ↔ c * 2 ^ (m - b) <= x /\ x < c * 2 ^ (m - b) + 2 ^ (m - b) := by
 rw [Pk]
 have hp := aLh (m - b)
 constructor
 .rintro ⟨b', c', h1, h2, h3⟩
  rw [h] at h1
  cases h1
  rw [Nat.div_eq_iff hp] at h3
  rw [aLm] at h3
  rw [aLm]
  omega
 .rintro ⟨h1, h2⟩
  refine ⟨b, c, h, hb, ?_⟩
  rw [Nat.div_eq_iff hp, aLm]
  rw [aLm] at h1 h2
  omega
theorem aI1 {C : List (Nat × Nat)} {m s b c : Nat} (hF : XF C m) (h : C[s]? = some (b, c)) (hb : 0 < b) : c * 2 ^ (m - b) + 2 ^ (m - b) <= 2 ^ m := by
 obtain ⟨h1, h2⟩ := hF.le s b c h
 have h2 := h2 hb
 have : (c + 1) * 2 ^ (m - b) <= 2 ^ b * 2 ^ (m - b) := aLk _ h2
 rw [<- aLM, show b + (m - b) = m from by omega, Nat.succ_mul] at this
 exact this
theorem aHx {C : List (Nat × Nat)} {m s b c : Nat} (hF : XF C m) (h : C[s]? = some (b, c)) (hb : 0 < b) : awL C m s (c * 2 ^ (m - b)) (2 ^ (m - b)) = X8 C m (s + 1) := by
 unfold awL X8
 apply aLs
 intro x hx
 have hx := aLu.1 hx
 rw [azW]
 by_cases hc : c * 2 ^ (m - b) <= x /\ x < c * 2 ^ (m - b) + 2 ^ (m - b)
 .rw [if_pos hc]
  have hh := (aAh h hb).2 hc
  cases hf : (List.range s).find? (GV C m x) with
  | none => simp only [hh, if_true]
  | some t =>
    have h1 := List.find?_some hf
    have h2 := aLu.1 (List.mem_of_find?_eq_some hf)
    have := hF.un x t s hx h1 hh
    omega
 .rw [if_neg hc]
  have hh : GV C m x s = false := by
   cases hq : GV C m x s with
   | false => rfl
   | true => exact absurd ((aAh h hb).1 hq) hc
  unfold aCu
  cases (List.range s).find? (GV C m x) with
  | some t => rfl
  | none => rw [hh] <;> rfl
theorem aGm {C : List (Nat × Nat)} {m x : Nat} (hF : XF C m) (hx : x < 2 ^ m) : (X8 C m C.length)[x]? = some (Eo C m x, bitsOf C (Eo C m x)) := by
 rw [aHs hx]
 unfold aCu Eo
 cases hf : (List.range C.length).find? (GV C m x) with
 | some t => rfl
 | none =>
   obtain ⟨s, hs⟩ := hF.ex x hx
   exact absurd hs (List.find?_eq_none.1 hf s (aLu.2 (auX hs)))
theorem aGv {C : List (Nat × Nat)} {i : Nat} {e : Nat × Nat} (h : C[i]? = some e) : pE (C.take (i + 1)) = max (pE (C.take i)) e.1 := by
 rw [aLL, h]
 exact aG5 _ _
end Go.Pu
namespace Go.Proofs.YtgpimhlgaokobaaGreat
open Go Go.En Go.Pu
set_option maxRecDepth 4000
theorem afS {a n : Nat} (hn : n <= 62) (h : a * 2 ^ n < 2 ^ 62) : IntKind.i64.wrap ((a : Int) * 2 ^ (min n IntKind.i64.bits)) = ((a * 2 ^ n : Nat) : Int) := by
 have e : IntKind.i64.bits = 64 := rfl
 rw [e, aLH (by omega)]
 have : (a : Int) * 2 ^ n = ((a * 2 ^ n : Nat) : Int) := by push_cast; rfl
 rw [this]
 exact aP (by omega) (by omega)
theorem ayH {C : List (Nat × Nat)} {i : Nat} {e : Nat × Nat} (h : C[i]? = some e) : ((cc C).drop (i * 2)).take 2 = [.int .i64 (e.1 : Nat), .int .i64 (e.2 : Nat)] := by
 obtain ⟨hi, rfl⟩ := aLK.1 h
 exact aEX hi
def HtV (w : aNj) (base : Nat) (C : List (Nat × Nat)) (v : aNk) : Prop := ∃ b, v = .agg #[.int .i64 (pE C : Nat), .slice (some ⟨b, 0, none⟩) (2 ^ pE C) (2 ^ pE C)] /\ base <= b /\ eM w b (fc (X8 C (pE C) C.length))
theorem aC1 {v : aNk} {l : List UInt8} {d : Nat} {w : aNj} (h : Bs w v l) (hd : jD (cF l) = d) (hd0 : d ≠ 0) :
 aS pg Aj #[v] w (fun r w' => ∃ t, r = .tuple #[t, .int .i64 0] /\ HtV w' w.heap.size (pH (cF l) d) t /\ aW w w' eU) := by
 refine S1 ?_
 obtain ⟨RR, hRR⟩ : ∃ RR : aNk -> aNj -> Prop, RR = fun r w' => ∃ t, r = .tuple #[t, .int .i64 0] /\ HtV w' w.heap.size (pH (cF l) d) t /\ aW w w' eU := ⟨_, rfl⟩
 rw [<- hRR]
 obtain ⟨hF, hmd⟩ := awM hd hd0
 have hok := yA hd hd0
 have hd11 := hok.2.1
 have hl256 := hok.2.2.2.1
 rw [jY] at hl256
 unfold WA CY Dj
 refine wW fun w1 o1 x1 s1 => ?_
 refine (aBC (h.ext x1 (bZ _)) hd hd0).mono ?_
 rintro r w2 ⟨b, rfl, hb, ob, x2⟩
 have n0 : ((0 : Int) != 0) = false := rfl
 simp (disch := omega) only [aD, pP, pR, kJ, aA, dC, n0, aE]
 refine wW fun w3 o3 x3 s3 => ?_
 refine uZ o3 rfl (by simp [one]) (by simp) fun w4 o4 x4 s4 => ?_
 simp only [bK, aKS, aKR] at o4
 generalize hC : pH (cF l) d = C at *
 have hCl : C.length = l.length := by rw [<- hC, uC, jY]
 obtain ⟨p6, hp6⟩ : ∃ p, p = w2.heap.size := ⟨_, rfl⟩
 obtain ⟨p2, hp2⟩ : ∃ p, p = w.heap.size := ⟨_, rfl⟩
 rw [<- hp6] at o4 ⊢
 rw [<- hp2] at o1 ⊢
 have x24 : aW w2 w4 eU := x3.new x4 (aK1 _)
 have x04 := (x1.seq x2).seq x24
 have z1 := x1.size
 have z2 := x2.size
 have z24 := x24.size
 have lb := ob.lt
 have ob4 := ob.ext x24 (fun h => h)
 have o14 := o1.ext (x2.seq x24) (fun h => h)
 have l1 := o1.lt
 unfold Km JI Ky
 simp (disch := omega) only [aD, fF, aA]
 unfold KK Ly
 have hcl : ∀ {w' : aNj} {i : Nat} {e : Nat × Nat}, aW w4 w' (fun y => y = p6) -> C[i]? = some e -> (aL 171 (.pointer (some ⟨b, i * 2, none⟩))).run pg w' = .ok (.value (.agg #[.int .i64 (e.1 : Nat), .int .i64 (e.2 : Nat)])) w' := fun {w' i e} x hi => by
  have hlt := (aLK.1 hi).1
  have := SS (off := i * 2) (ob4.ext x (by omega)) (by rw [Ei]; omega)
  rw [ayH hi] at this
  exact this
 refine cU.rule (fun m (t : aNk) w' => ∃ i : Nat, m = l.length - i /\ t = .int .i64 i /\ i <= l.length /\ eM w' p6 [.int .i64 (pE (C.take i) : Nat), .slice none 0 0] /\ aW w4 w' (fun y => y = p6)) l.length
  ⟨0, rfl, rfl, by omega, o4, aW.refl _ _⟩ ?_
 rintro m t w5 ⟨i, rfl, rfl, hi, o5, x5⟩
 have z5 := x5.size
 unfold Dd
 by_cases hlt : i < l.length
 .have d1 : decide ((i : Int) < (l.length : Int)) = true := by simp; omega
  obtain ⟨e, he⟩ : ∃ e, C[i]? = some e := ⟨_, aKW (by omega)⟩
  have q1 := hcl x5 he
  simp (disch := omega) only [aD, aU, d1, eL, aKO, aKP, fZ, bN, aP, aA, bO, q1, aG]
  refine T7 fun w6 o6 x6 s6 => ?_
  refine Ib o6 rfl (by simp [one]) (by simp) fun w7 o7 x7 s7 => ?_
  simp only [bK, aKS, aKR] at o7
  have x57 : aW w5 w7 eU := x6.new x7 (aK1 _)
  have o57 := o5.ext x57 (fun h => h)
  have k0 := o57.cell (off := 0)
  have k1 := o7.cell (off := 0)
  simp only [aKM, aKN] at k0 k1
  have hmx : (if ((e.1 : Nat) : Int) > ((pE (C.take i) : Nat) : Int) then ((e.1 : Nat) : Int) else ((pE (C.take i) : Nat) : Int)) = ((pE (C.take (i + 1)) : Nat) : Int) := by rw [aGv he]; split <;> omega
  have e1 : (i : Int) + 1 = ((i + 1 : Nat) : Int) := by omega
  simp (disch := omega) only [k0, aH, cZ, e1, aA, bO, k1, AD, hmx]
  refine oY o57 rfl (by simp) fun w8 o8 x8 s8 => ?_
  simp only [aKS, aKR] at o8
  try simp (disch := omega) only [true_and]
  exact ⟨l.length - (i + 1), by omega, i + 1, rfl, rfl, by omega, o8, (x5.more x57).seq x8⟩
 .have d1 : decide ((i : Int) < (l.length : Int)) = false := by simp; omega
  obtain rfl : i = l.length := by omega
  rw [<- hCl, aMz] at o5
  unfold JD KE
  have k0 := o5.cell (off := 0)
  simp only [aKM, aKN] at k0
  have hm11 : pE C <= 11 := by omega
  have hp11 : 2 ^ pE C <= 2 ^ 11 := aKY (by omega) hm11
  have hsh := afS (a := 1) (n := pE C) (by omega) (by omega)
  rw [aM0] at hsh
  have one1 : ((1 : Nat) : Int) = 1 := rfl
  rw [one1] at hsh
  simp (disch := omega) only [aD, aU, d1, fZ, bN, aP, aA, bO, fG, aKP, k0, aH, pA, aKO, hsh, aE]
  have hN : (16 : Int) * ((2 ^ pE C : Nat) : Int) <= 2 ^ 48 := by generalize 2 ^ pE C = N at *; omega
  refine ahH (Int.natCast_nonneg _) hN fun w6 o6 x6 s6 => ?_
  rw [aKO] at o6 ⊢
  rw [aEs, <- aFE C] at o6
  have z6 := x6.size
  obtain ⟨pt, hpt⟩ : ∃ p, p = w5.heap.size := ⟨_, rfl⟩
  rw [<- hpt] at o6 ⊢
  refine apK (o5.ext x6 (fun h => h)) rfl (by simp) fun w7 o7 x7 s7 => ?_
  simp only [aKS, aKR] at o7
  have l6 := o6.lt
  have l5 := o5.lt
  have o67 := o6.ext x7 (by omega)
  have x47 : aW w4 w7 (fun y => y = p6) := (x5.more x6).seq x7
  unfold JG KP JN
  simp (disch := omega) only [aD, fF, aA]
  unfold Lp KJ
  refine cU.rule (fun m (t : aNk) w' => ∃ i : Nat, m = l.length - i /\ t = .int .i64 i /\ i <= l.length /\ eM w' pt (fc (X8 C (pE C) i)) /\ aW w7 w' (fun y => y = pt)) l.length
   ⟨0, rfl, rfl, by omega, o67, aW.refl _ _⟩ ?_
  rintro m t w8 ⟨i, rfl, rfl, hi8, o8, x8⟩
  have z8 := x8.size
  unfold Da JM
  by_cases hlt : i < l.length
  .have d2 : decide ((i : Int) < (l.length : Int)) = true := by simp; omega
   obtain ⟨e, he⟩ : ∃ e, C[i]? = some e := ⟨_, aKW (by omega)⟩
   have q1 : (aL 171 (.pointer (some ⟨b, i * 2, none⟩))).run pg w8 = .ok (.value (.agg #[.int .i64 (e.1 : Nat), .int .i64 (e.2 : Nat)])) w8 := by
    have := SS (off := i * 2) ((ob4.ext x47 (by omega)).ext x8 (by omega)) (by rw [Ei]; omega)
    rw [ayH he] at this
    exact this
   simp (disch := omega) only [aD, aU, d2, aA, aG]
   unfold O2 Pn WJ NR
   simp (disch := omega) only [aD, eL, aKO, aKP, fZ, aA, bO, q1]
   refine T7 fun w9 o9 x9 s9 => ?_
   refine Ib o9 rfl (by simp [one]) (by simp) fun wa oa xa sa => ?_
   simp only [bK, aKS, aKR] at oa
   have x8a : aW w8 wa eU := x9.new xa (aK1 _)
   have z8a := x8a.size
   have k1 := oa.cell (off := 0)
   have k2 := oa.cell (off := 1)
   have k3 := ((o7.ext x8 (by omega)).ext x8a (fun h => h)).cell (off := 0)
   simp only [aKM, aKN] at k1 k2 k3
   have e1 : (i : Int) + 1 = ((i + 1 : Nat) : Int) := by omega
   have o8a := o8.ext x8a (fun h => h)
   obtain ⟨eb, ec⟩ := e
   simp only at k1 k2
   by_cases hb0 : eb = 0
   .have n1 : ((eb : Int) == 0) = true := by simp; omega
    simp (disch := omega) only [cZ, eX, aKP, aA, bO, k1, aH, dU, n1, k2, k3, fE, aP, pA, aG]
    unfold Bn
    simp (disch := omega) only [aD, bN, e1, aP, aA]
    subst hb0
    exact ⟨l.length - (i + 1), by omega, i + 1, rfl, rfl, by omega, by rw [aFZ he]; exact o8a, x8.more x8a⟩
   .have n1 : ((eb : Int) == 0) = false := by simp; omega
    obtain ⟨hle, hfit⟩ := hF.le _ _ _ he
    have hlow := aI1 hF he (by omega)
    have hp := aLh (pE C - eb)
    have e2 : ((pE C : Nat) : Int) - (eb : Int) = ((pE C - eb : Nat) : Int) := by omega
    have e3 := afS (a := ec) (n := pE C - eb) (by omega) (by omega)
    have e4 := afS (a := 1) (n := pE C - eb) (by omega) (by omega)
    rw [aM0, one1] at e4
    simp (disch := omega) only [cZ, eX, aKP, aA, bO, k1, aH, dU, n1, k2, k3, fE, e2, aP, pA, aKO, e3, e4, aE]
    unfold NC OY
    refine cU.rule (fun m (t : aNk) w' => ∃ j : Nat, m = 2 ^ (pE C - eb) - j /\ t = .int .i64 j /\ j <= 2 ^ (pE C - eb) /\ eM w' pt (fc (awL C (pE C) i (ec * 2 ^ (pE C - eb)) j)) /\ aW wa w' (fun y => y = pt)) (2 ^ (pE C - eb))
     ⟨0, rfl, rfl, by omega, by rw [aFD]; exact o8a, aW.refl _ _⟩ ?_
    rintro m t wb ⟨j, rfl, rfl, hj, ob', xb⟩
    unfold EM
    by_cases hjt : j < 2 ^ (pE C - eb)
    .have d3 : decide ((j : Int) < ((2 ^ (pE C - eb) : Nat) : Int)) = true := decide_eq_true (Int.ofNat_lt.2 hjt)
     have f1 := (((o7.ext x8 (by omega)).ext x8a (fun h => h)).ext xb (by omega)).cell (off := 1)
     have f2 := (oa.ext xb (by omega)).cell (off := 0)
     simp only [aKM, aKN] at f1 f2
     have e5 : ((ec * 2 ^ (pE C - eb) : Nat) : Int) + (j : Int) = ((ec * 2 ^ (pE C - eb) + j : Nat) : Int) := by omega
     have e6 : IntKind.u8.wrap (i : Int) = (i : Int) := xB (by omega) (by omega)
     have e7 : (j : Int) + 1 = ((j + 1 : Nat) : Int) := by omega
     simp (disch := omega) only [aD, aU, d3, fG, aKP, bN, e5, aP, eS, e6, cZ, e7, aA, bO, gZ, f1, aH, f2, iZ, aKO, iU, aG]
     have hx : ec * 2 ^ (pE C - eb) + j < 2 ^ pE C := by omega
     refine Xg (off := (ec * 2 ^ (pE C - eb) + j) * 2) ob' rfl (by simp [one]) (by rw [anF, aqT]; omega) fun wc oc xc sc => ?_
     simp only [bK] at oc
     have hs := aGT (L := awL C (pE C) i (ec * 2 ^ (pE C - eb)) j) (i := ec * 2 ^ (pE C - eb) + j) (i, eb) (by rw [aqT]; exact hx)
     simp only at hs
     have hbo := apR he
     have hj2 := aHh (C := C) (s := i) hx
     rw [hbo] at hj2
     rw [hs, hj2] at oc
     try simp (disch := omega) only [true_and]
     exact ⟨2 ^ (pE C - eb) - (j + 1), by omega, j + 1, rfl, rfl, by omega, oc, xb.seq xc⟩
    .have d3 : decide ((j : Int) < ((2 ^ (pE C - eb) : Nat) : Int)) = false := decide_eq_false fun h => hjt (Int.ofNat_lt.1 h)
     have hje : j = 2 ^ (pE C - eb) := by omega
     subst hje
     unfold Bn
     simp (disch := omega) only [aD, aU, d3, fG, aKP, bN, aP, eS, xB, cZ, aA, bO, gZ, e1, aE]
     exact ⟨l.length - (i + 1), by omega, i + 1, rfl, rfl, by omega, by rw [<- aHx hF he (by omega)]; exact ob', (x8.more x8a).seq xb⟩
  .have d2 : decide ((i : Int) < (l.length : Int)) = false := by simp; omega
   have hie : i = l.length := by omega
   subst hie
   unfold EO
   have o78 := o7.ext x8 (by omega)
   have q1 := Nv (off := 0) o78 (by simp)
   simp only [aKU, aKT, aKX] at q1
   simp (disch := omega) only [aD, aU, d2, aA, q1, aE]
   refine uZ ((o14.ext x47 (by omega)).ext x8 (by omega)) rfl (by simp [one]) (by simp) fun w9 o9 x9 s9 => ?_
   refine Xi o9 (by simp [bK]) ?_
   simp only [bK, aKS, aKR, aKU, aKT, aKX]
   rw [hRR]
   refine ⟨_, rfl, ⟨pt, rfl, by omega, ?_⟩, ?_⟩
   .rw [hCl]; exact o8.ext x9 (by omega)
   .exact ((x04.trans x47 fun y hy h => by omega).trans x8 fun y hy h => by omega).new x9 (by omega)
theorem aEZ {w : aNj} {b i : Nat} {C : List (Nat × Nat)} {e : Nat × Nat} (o : eM w b (cc C)) (h : C[i]? = some e) :
 w.cell? ⟨b, i * 2, none⟩ = some (.int .i64 (e.1 : Nat)) /\ w.cell? ⟨b, i * 2 + 1, none⟩ = some (.int .i64 (e.2 : Nat)) := by
 have ht := ayH h
 obtain ⟨hi, rfl⟩ := aLK.1 h
 have h0 := congrArg (fun l => l[0]?) ht
 have h1 := congrArg (fun l => l[1]?) ht
 simp only [List.getElem?_take, aMs, aLW, aKM, aKN] at h0 h1
 rw [o.cell, o.cell]
 exact ⟨by simpa using h0, by simpa using h1⟩
def WrC (C : List (Nat × Nat)) : Prop := C.length <= 256 /\ ∀ (s : Nat) (e : Nat × Nat), C[s]? = some e -> e.1 <= 11 /\ (0 < e.1 -> e.2 < 2 ^ 11)
def aKc (w : aNj) (base : Nat) (C : List (Nat × Nat)) (l : List UInt8) (r : aNk) : Prop :=
 ((∃ s ∈ cF l, bitsOf C s = 0) /\ r = .tuple #[.slice none 0 0, .int .i64 1]) ∨
 ((∀ s ∈ cF l, 0 < bitsOf C s) /\ ∃ v bytes, r = .tuple #[v, .int .i64 0] /\ Bs w v bytes /\ auF (Sh C (cF l) ++ [true]) bytes /\ AtI v base w.heap.size)
theorem aIO : aGW dX = #[12, 13] := by kernel_rfl
theorem aKg : amE pg mX = 42 := by kernel_rfl
theorem aFV {C : List (Nat × Nat)} {l : List Nat} {i s : Nat} (h : l[i]? = some s) : Sh C (l.drop i) = Sh C (l.drop (i + 1)) ++ yK (C.getD s (0, 0)).2 (C.getD s (0, 0)).1 := by
 obtain ⟨hi, rfl⟩ := aLK.1 h
 rw [aLo hi, Sh]
theorem aCe {C : List (Nat × Nat)} {l : List UInt8} {b : Nat} {v : aNk} {w : aNj} (ho : eM w b (cc C)) (hb : Bs w v l) (hC : WrC C) (hl : l.length <= 200000) :
 aS pg mX #[.slice (some ⟨b, 0, none⟩) C.length C.length, v] w (fun r w' => aKc w' w.heap.size C l r /\ aW w w' eU) := by
 refine alG ?_
 obtain ⟨RR, hRR⟩ : ∃ RR : aNk -> aNj -> Prop, RR = fun r w' => aKc w' w.heap.size C l r /\ aW w w' eU := ⟨_, rfl⟩
 rw [<- hRR]
 unfold arC NZ OU
 refine nK fun w1 o1 x1 s1 => ?_
 simp only [Value.cells] at o1
 refine aCc fun w2 o2 x2 s2 => ?_
 refine aBy fun w3 o3 x3 s3 => ?_
 refine (aBA w3).mono ?_
 rintro r w4 ⟨rfl, s4, hW4, x4⟩
 refine apS fun w5 o5 x5 s5 => ?_
 refine anK o5 rfl (by simp) fun w6 o6 x6 s6 => ?_
 simp only [aKS] at o6
 unfold O7 OZ OO
 refine PC ?_
 unfold I5 yL
 obtain ⟨va, vn, vc, hv, -⟩ := id hb
 subst hv
 refine nK fun w7 o7 x7 s7 => ?_
 simp only [Value.cells] at o7
 have q1 := fun w => aJf (P := pg) (f := oU) [] [.pointer (some ⟨w6.heap.size, 0, none⟩)] w
 simp (disch := omega) only [aD, q1, aA]
 unfold MW M6
 intro g g2 g4 g5 g6 g11 gm
 generalize hn0 : w.heap.size = n0 at *
 have e1 : w1.heap.size = n0 + 1 := by omega
 have e2 : w2.heap.size = n0 + 2 := by omega
 have e3 : w3.heap.size = n0 + 3 := by omega
 have e4 : w4.heap.size = n0 + 4 := by omega
 have e6 : w6.heap.size = n0 + 5 := by omega
 have e7 : w7.heap.size = n0 + 6 := by omega
 rw [e1] at o2 g4
 rw [e2] at o3 g5
 rw [e3] at hW4 o6
 rw [e4] at o6 g6
 rw [e6] at o7 g11
 have x06 : aW w w6 eU := ((((x1.seq x2).seq x3).seq x4).seq x5).trans x6 fun y hy h => by omega
 have x07 : aW w w7 eU := x06.seq x7
 have hv7 : Bs w7 (.slice va vn vc) l := hb.ext x07 (bZ _)
 have lb := ho.lt
 have b1 : eM w7 n0 [.slice (some ⟨b, 0, none⟩) C.length C.length] := ((((((o1.ext x2 (fun h => h)).ext x3 (fun h => h)).ext x4 (fun h => h)).ext x5 (fun h => h)).ext x6 (by omega))).ext x7 (fun h => h)
 have b2 : eM w7 (n0 + 1) [.slice none 0 0] := (((((o2.ext x3 (fun h => h)).ext x4 (fun h => h)).ext x5 (fun h => h)).ext x6 (by omega))).ext x7 (fun h => h)
 have b3 : eM w7 (n0 + 2) [.int .i64 0] := ((((o3.ext x4 (fun h => h)).ext x5 (fun h => h)).ext x6 (by omega))).ext x7 (fun h => h)
 have b6 : eM w7 (n0 + 4) [.pointer (some ⟨n0 + 3, 0, none⟩)] := o6.ext x7 (fun h => h)
 have bC : eM w7 b (cc C) := ho.ext x07 (fun h => h)
 have hW7 : Ws w7 (fun y => n0 + 7 < y) (n0 + 3) [] :=
  ((hW4.ext x5 (fun h => h) (fun _ h => h.elim)).ext x6 (by omega) (fun _ h => h.elim)).ext x7 (fun h => h) (fun _ h => h.elim) |>.turn (by omega) (fun _ h => h.elim)
 refine aGy (fi := oU) (cap := #[.pointer (some ⟨n0 + 5, 0, none⟩)]) (by show noMark (g 1000003) = true; rw [gm] <;> rfl) g11 Tryz.func105 (by kernel_rfl) (by kernel_rfl) ?_
 obtain ⟨x8, s8, d8, l8⟩ := aFW mX (amE pg mX) (aGW dX) (aFp dX) (aDw dX) g w7
 rw [e7] at s8 d8 l8 ⊢
 generalize rfW mX (amE pg mX) (aGW dX) (aFp dX) (aDw dX) g w7 = w8 at *
 obtain ⟨r0, hr0⟩ : ∃ r0 : Loop, r0 = { state := .ready, pending := none, fn := mX, tmps := tmpsOf (amE pg mX) g, params := aGW dX, assign := aFp dX, body := aDw dX, defers := n0 + 6 } := ⟨_, rfl⟩
 rw [<- hr0] at l8
 let I : Nat -> aNj -> Prop := fun i W => W.heap[n0 + 7]? = some (.loop r0) /\ aW w8 W (fun y => y = n0 + 7 ∨ y = n0 + 3 ∨ n0 + 7 < y) /\ Ws W (fun y => n0 + 7 < y) (n0 + 3) (Sh C ((cF l).drop i)) /\ ∀ s ∈ (cF l).drop i, 0 < bitsOf C s
 let S : aNj -> Prop := fun W => (∃ s ∈ cF l, bitsOf C s = 0) /\ W.heap[n0 + 7]? = some (.loop { r0 with state := .done, pending := some .ret }) /\ eM W (n0 + 1) [.slice none 0 0] /\ eM W (n0 + 2) [.int .i64 1] /\ aW w W eU /\ W.heap[n0 + 6]? = some (.deferred (some []))
 have hbits : ∀ s, bitsOf C s <= 11 := fun s => by
  unfold bitsOf
  rw [aK0]
  cases h : C[s]? with
  | none => simp
  | some e => exact (hC.2 s e h).1
 have x08 : aW w w8 eU := x07.seq x8
 have hmain := aEi (l := l) (v := .slice va vn vc) (box := n0 + 5) (lp := n0 + 7) (r0 := r0) (w := w8) I S ?hI ?hp (by omega) ?h0 ?hs
 case hI =>
  rintro i W ⟨hlp, hx, _⟩
  exact ⟨(o7.ext x8 (fun h => h)).ext hx (by omega), hb.ext (x08.trans hx fun y hy h => by omega) (bZ _), hlp⟩
 case hp => rw [hr0, aIO] <;> rfl
 case h0 =>
  refine ⟨l8, aW.refl _ _, ?_, ?_⟩
  .rw [aNd (by rw [jY]; omega)]; exact hW7.ext x8 (fun h => h) (fun _ _ h => h)
  .rw [aNd (by rw [jY]; omega)]; intro s hs; cases hs
 case hs =>
  rintro i W hi ⟨hlp, hx, hW, hall⟩
  have zW := hx.size
  have y08 : aW w W eU := x08.trans hx fun y hy h => by omega
  have hT : axC r0 [.int .i64 i, .int .u8 ((l[i]'hi).toNat : Nat)] = ((tmpsOf 42 g).setIfInBounds 12 (.int .i64 i)).setIfInBounds 13 (.int .u8 ((l[i]'hi).toNat : Nat)) := by
   exact aHT (by rw [hr0]; exact aIO) (by rw [hr0]; simp only; rw [aKg]) _ _
  have hE : ∀ {x : Nat} {u v z : aNk}, x < 12 -> g x = u -> UX (((tmpsOf 42 g).setIfInBounds 12 v).setIfInBounds 13 z) x = u := fun {x u v z} h1 h2 => by
   rw [axV (by simp [tmpsOf]), if_neg (by omega), axV (by simp [tmpsOf]), if_neg (by omega), aFx (by omega), h2]
  have hE13 : ∀ {v z : aNk}, UX (((tmpsOf 42 g).setIfInBounds 12 v).setIfInBounds 13 z) 13 = z := fun {v z} => by
   rw [axV (by simp [tmpsOf]), if_pos rfl]
  rw [hT]
  have a0 := (b1.ext x8 (fun h => h)).ext hx (by omega)
  have a1 := (b2.ext x8 (fun h => h)).ext hx (by omega)
  have a2 := (b3.ext x8 (fun h => h)).ext hx (by omega)
  have a6 := (b6.ext x8 (fun h => h)).ext hx (by omega)
  have aC := (bC.ext x8 (fun h => h)).ext hx (by omega)
  have ad := Hq d8 hx (by omega)
  have hlt : n0 + 7 < W.heap.size := by omega
  subst hr0
  refine agA (by simp [tmpsOf]) ?_
  rw [hE (by omega) g2, hE (by omega) g4, hE (by omega) g5, hE (by omega) g6, hE13]
  unfold Uq Ex
  refine aFj hlp rfl fun W1 l1 y1 z1 => ?_
  have a0 := a0.ext y1 (by omega)
  have a1 := a1.ext y1 (by omega)
  have a2 := a2.ext y1 (by omega)
  have a6 := a6.ext y1 (by omega)
  have aC := aC.ext y1 (by omega)
  have ad := Hq ad y1 (by omega)
  have hW := hW.ext y1 (by omega) (fun _ h => by omega)
  have y01 : aW w W1 eU := y08.trans y1 fun y hy h => by omega
  have hs256 : (l[i]'hi).toNat < 256 := aLv _
  have hget : (cF l)[i]? = some (l[i]'hi).toNat := by unfold cF; rw [aLl, aKW hi] <;> rfl
  have hmem : (l[i]'hi).toNat ∈ cF l := aLU hget
  have hdr := aFV (C := C) hget
  have hcons : (cF l).drop i = (l[i]'hi).toNat :: (cF l).drop (i + 1) := by
   obtain ⟨hj, e⟩ := aLK.1 hget
   rw [aLo hj, e]
  generalize (l[i]'hi).toNat = s at *
  have c0 := a0.cell (off := 0)
  simp only [aKM] at c0
  have hbad : bitsOf C s = 0 -> ∀ W2, aW W1 W2 (fun y => y = n0 + 1 ∨ y = n0 + 2) -> eM W2 (n0 + 1) [.slice none 0 0] -> eM W2 (n0 + 2) [.int .i64 1] -> aCk (n0 + 7) (some .ret) (fun b W' => (b = .bool true /\ I i W') ∨ (b = .bool false /\ S W')) W2 := by
   intro h0 W2 y2 k1 k2
   refine axJ (Hq l1 y2 (by omega)) fun W3 l3 y3 z3 => .inr ⟨rfl, ⟨s, hmem, h0⟩, l3, k1.ext y3 (by omega), k2.ext y3 (by omega), ?_, ?_⟩
   .exact (y01.trans y2 fun y hy h => by omega).trans y3 fun y hy h => by omega
   .exact Hq (Hq ad y2 (by omega)) y3 (by omega)
  unfold AE
  by_cases hge : C.length <= s
  .have d1 : decide ((C.length : Int) <= (s : Int)) = true := by simp; omega
   simp (disch := omega) only [aD, dT, aP, gM, hJ, true_and, aA, c0, aH, fF, nE, d1, jI, bH, if_true, aG, cY]
   refine yM a1 rfl (by simp) fun W2 k1 y2 z2 => ?_
   refine EV (a2.ext y2 (by omega)) rfl (by simp) fun W3 k2 y3 z3 => ?_
   simp only [aKS] at k1 k2
   refine hbad ?_ W3 ((y2.mono fun _ _ h => .inl h).seq (y3.mono fun _ _ h => .inr h)) (k1.ext y3 (by omega)) k2
   unfold bitsOf; rw [aK0, aK3 hge] <;> rfl
  .have d1 : decide ((C.length : Int) <= (s : Int)) = false := by simp; omega
   obtain ⟨e, he⟩ : ∃ e, C[s]? = some e := ⟨_, aKW (by omega)⟩
   obtain ⟨p0, p1⟩ := aEZ aC he
   obtain ⟨hc1, hc2⟩ := hC.2 s e he
   have hbo := apR (b := e.1) (c := e.2) he
   by_cases h0 : e.1 = 0
   .have n1 : (((e.1 : Nat) : Int) == 0) = true := by simp; omega
    simp (disch := omega) only [aD, dT, aP, gM, hJ, true_and, aA, c0, aH, fF, nE, d1, dG, bH, aKQ, if_false, bM, eL, aKO, aKP, cZ, bO, p0, dU, n1, aG]
    refine yM a1 rfl (by simp) fun W2 k1 y2 z2 => ?_
    refine EV (a2.ext y2 (by omega)) rfl (by simp) fun W3 k2 y3 z3 => ?_
    simp only [aKS] at k1 k2
    exact hbad (by rw [hbo]; exact h0) W3 ((y2.mono fun _ _ h => .inl h).seq (y3.mono fun _ _ h => .inr h)) (k1.ext y3 (by omega)) k2
   .have n1 : (((e.1 : Nat) : Int) == 0) = false := by simp; omega
    have hc2 := hc2 (by omega)
    have c0d := (jW a0).cell (off := 0)
    have c6d := (jW a6).cell (off := 0)
    simp only [aKM] at c0d c6d
    obtain ⟨p0d, p1d⟩ := aEZ (jW aC) he
    simp (disch := omega) only [aD, dT, aP, gM, hJ, true_and, aA, c0, aH, fF, nE, d1, dG, bH, aKQ, if_false, bM, eL, aKO, aKP, cZ, bO, p0, dU, n1, c6d, c0d, p0d, eX, p1d, fU, kR, aE]
    have hlen := sV hbits ((cF l).drop (i + 1))
    rw [aK7, jY] at hlen
    refine (aGu (x := e.2) (n := e.1) (hW.ext (aW.dr W1 eU) (fun h => h) (fun _ _ h => h)) (fun y hy => by have : (dr W1).heap.size = W1.heap.size := rfl; omega) (by omega) (by omega) (by omega)).mono ?_
    rintro r W2 ⟨rfl, hW2, y2⟩
    have y12 : aW W1 W2 (fun y => y = n0 + 3 ∨ n0 + 7 < y) := (aW.dr W1 _).seq y2
    refine axJ (Hq l1 y12 (by omega)) fun W3 l3 y3 z3 => .inl ⟨rfl, l3, ?_, ?_, ?_⟩
    .refine ((hx.trans y1 fun y _ h => by omega).trans y12 fun y _ h => by omega).trans y3 fun y _ h => by omega
    .rw [hdr]
     have hg : C.getD s (0, 0) = e := by rw [aK0, he] <;> rfl
     rw [hg]
     exact hW2.ext y3 (by omega) (fun _ h => by omega)
    .rw [hcons]
     intro t ht
     rcases aLF.1 ht with rfl | ht
     .rw [hbo]; omega
     .exact hall t ht
 refine hmain.mono ?_
 rintro r w9 ⟨rfl, h⟩
 rcases h with ⟨hlp, hx, hW, hall⟩ | ⟨hbad, hlp, k1, k2, hx, hd⟩
 .have a1 := (b2.ext x8 (fun h => h)).ext hx (by omega)
  have a2 := (b3.ext x8 (fun h => h)).ext hx (by omega)
  have a6 := (b6.ext x8 (fun h => h)).ext hx (by omega)
  have ad := Hq d8 hx (by omega)
  have y09 : aW w w9 eU := x08.trans hx fun y hy h => by omega
  refine aqU hlp (by rw [hr0]; simp) fun wa ya za => ?_
  rw [hr0]
  have hz : put g (some DS) (.pointer (some ⟨n0 + 6, 0, none⟩)) 4 = g 4 := rfl
  have hz5 : put g (some DS) (.pointer (some ⟨n0 + 6, 0, none⟩)) 5 = g 5 := rfl
  have hz6 : put g (some DS) (.pointer (some ⟨n0 + 6, 0, none⟩)) 6 = g 6 := rfl
  have hzm : put g (some DS) (.pointer (some ⟨n0 + 6, 0, none⟩)) 1000003 = .pointer (some ⟨n0 + 6, 0, none⟩) := rfl
  show Bm RR (put g (some DS) (.pointer (some ⟨n0 + 6, 0, none⟩)) 4) (put g (some DS) (.pointer (some ⟨n0 + 6, 0, none⟩)) 5) (put g (some DS) (.pointer (some ⟨n0 + 6, 0, none⟩)) 6) (put g (some DS) (.pointer (some ⟨n0 + 6, 0, none⟩)) 1000003) wa
  rw [hz, hz5, hz6, hzm, g4, g5, g6]
  unfold Bm
  have a1 := a1.ext ya (by omega)
  have a2 := a2.ext ya (by omega)
  have a6 := a6.ext ya (by omega)
  have ad := Hq ad ya (by omega)
  have hW := hW.ext ya (by omega) (fun _ h => by omega)
  have y0a : aW w wa eU := y09.trans ya fun y hy h => by omega
  have c6 := a6.cell (off := 0)
  simp only [aKM] at c6
  simp (disch := omega) only [aD, hJ, c6, aH, aA]
  have hlen := sV hbits (cF l)
  rw [jY] at hlen
  rw [aKU] at hW hall
  refine (aHf hW.wr (by omega)).mono ?_
  rintro r wb ⟨bytes, hbs, hheld, hat, yb⟩
  refine yM (a1.ext yb (fun h => h)) ?_ (by simp) fun wc kc yc zc => ?_
  .obtain ⟨a, n, c, rfl, _⟩ := hbs; rfl
  refine EV ((a2.ext yb (fun h => h)).ext yc (by omega)) rfl (by simp) fun wd kd yd zd => ?_
  simp only [aKS] at kc kd
  refine ayJ (Hq (Hq (Hq ad yb (fun h => h)) yc (by omega)) yd (by omega)) fun we ye ze => ?_
  refine adW ((kc.ext yd (by omega)).ext ye (by omega)) rfl ?_
  refine Zd (kd.ext ye (by omega)) rfl ?_
  have y0b : aW w wb eU := y0a.seq yb
  have zb := yb.size
  have z0a := y0a.size
  have z89 := hx.size
  have zcd := yc.size
  have zdd := yd.size
  have zee := ye.size
  rw [hRR]
  refine ⟨.inr ⟨hall, _, bytes, rfl, ?_, hheld, ?_⟩, ((y0b.trans yc fun y hy h => by omega).trans yd fun y hy h => by omega).trans ye fun y hy h => by omega⟩
  .refine ((hbs.ext yc ?_).ext yd ?_).ext ye ?_ <;> exact hat _ fun y h1 h2 => by omega
  .exact fun M hM => hat M fun y h1 h2 => hM y (by omega) (by omega)
 .refine aqU hlp (by simp) fun wa ya za => ?_
  show G1 (put g (some DS) (.pointer (some ⟨n0 + 6, 0, none⟩)) 1000003) wa fun w => zN pg 22 (put g (some DS) (.pointer (some ⟨n0 + 6, 0, none⟩)) 4) w fun r0 => zN pg 27 (put g (some DS) (.pointer (some ⟨n0 + 6, 0, none⟩)) 5) w fun r1 => RR (.tuple #[r0, r1]) w
  have hz : put g (some DS) (.pointer (some ⟨n0 + 6, 0, none⟩)) 4 = g 4 := rfl
  have hz5 : put g (some DS) (.pointer (some ⟨n0 + 6, 0, none⟩)) 5 = g 5 := rfl
  have hzm : put g (some DS) (.pointer (some ⟨n0 + 6, 0, none⟩)) 1000003 = .pointer (some ⟨n0 + 6, 0, none⟩) := rfl
  rw [hz, hz5, hzm, g4, g5]
  refine ayJ (Hq hd ya (by omega)) fun we ye ze => ?_
  refine adW ((k1.ext ya (by omega)).ext ye (by omega)) rfl ?_
  refine Zd ((k2.ext ya (by omega)).ext ye (by omega)) rfl ?_
  rw [hRR]
  exact ⟨.inl ⟨hbad, rfl⟩, (hx.trans ya fun y hy h => by omega).trans ye fun y hy h => by omega⟩
theorem aA2 (p : Int) (w : aNj) : aS pg xP #[.int .i64 p] w (fun r w' => r = .int .i64 (iR p) /\ w' = w) := by
 refine agM ?_
 unfold iR
 by_cases h : p < 0
 .have d : decide (p < 0) = true := by simpa using h
  simp (disch := omega) only [TH, Dp, aD, aU, d, aA, and_true, aG]
  rw [if_pos h]
 .have d : decide (p < 0) = false := by simpa using h
  simp (disch := omega) only [TH, Dp, aD, aU, d, aA, and_true, aE]
  rw [if_neg h]
theorem Tc {ps : List Int} (h : 0 < ps.length) : (ps.getLast? = some 0) ↔ ps[ps.length - 1]'(by omega) = 0 := by
 rw [aMH, aKW (by omega)]
 simp
theorem aJP {log : Int} {sv : aNk} {ps : List Int} {w : aNj} (hs : Sl w sv (ps.map (Value.int .i64))) (hl : ps.length <= 9223372036854775807) :
 aS pg Ma #[.agg #[.int .i64 log, sv]] w (fun r w' => r = .bool (X6 log ps) /\ aW w w' eU) := by
 refine atC ?_
 unfold avO QI RG
 obtain ⟨a, c, rfl, hc⟩ := hs.lenI
 refine nK fun w1 o1 x1 s1 => ?_
 have hs0 := hs
 have hs := hs.ext x1 (bZ _)
 have c0 := o1.cell (off := 0)
 have c1 := o1.cell (off := 1)
 simp only [Value.cells, aKM, aKN] at c0 c1
 have no : ¬ (5 <= log /\ log <= 15 /\ 1 <= ps.length /\ ps.length <= 256 /\ ps.getLast? ≠ some 0) -> X6 log ps = false := fun h => by
  unfold X6 aAs; rw [decide_eq_false h] <;> rfl
 by_cases h1 : log < 5
 .have d1 : decide (log < 5) = true := by simpa using h1
  simp (disch := omega) only [aD, bV, aA, bJ, aKP, bO, c0, aH, aU, d1, jI, bH, if_true, aG, cY]
  exact ⟨by rw [no (by omega)], x1⟩
 have d1 : decide (log < 5) = false := by simpa using h1
 by_cases h2 : 15 < log
 .have d2 : decide (15 < log) = true := by simpa using h2
  simp (disch := omega) only [aD, bV, aA, bJ, aKP, bO, c0, aH, aU, d1, dG, bH, aKQ, if_false, bM, dH, d2, jI, if_true, aG, cY]
  exact ⟨by rw [no (by omega)], x1⟩
 have d2 : decide (15 < log) = false := by simpa using h2
 by_cases h3 : ps.length < 1
 .have d3 : decide ((ps.length : Int) < 1) = true := by simp; omega
  simp (disch := omega) only [aD, bV, aA, bJ, aKP, bO, c0, aH, aU, d1, dG, bH, aKQ, if_false, bM, dH, d2, dR, c1, gD, d3, jI, if_true, aG, cY]
  exact ⟨by rw [no (by omega)], x1⟩
 have d3 : decide ((ps.length : Int) < 1) = false := by simp; omega
 by_cases h4 : 256 < ps.length
 .have d4 : decide ((256 : Int) < (ps.length : Int)) = true := by simp; omega
  simp (disch := omega) only [aD, bV, aA, bJ, aKP, bO, c0, aH, aU, d1, dG, bH, aKQ, if_false, bM, dH, d2, dR, c1, gD, d3, d4, jI, if_true, aG, cY]
  exact ⟨by rw [no (by omega)], x1⟩
 have d4 : decide ((256 : Int) < (ps.length : Int)) = false := by simp; omega
 obtain ⟨b, off, c', e, hc', hcell⟩ := hs.openI (by omega)
 cases e
 have e1 : ((ps.length : Int) - 1) = ((ps.length - 1 : Nat) : Int) := by omega
 have g1 := hcell (ps.length - 1) (by omega)
 by_cases h5 : ps[ps.length - 1]'(by omega) = 0
 .have d5 : (ps[ps.length - 1]'(by omega) == 0) = true := by simpa using h5
  simp (disch := omega) only [aD, bV, aA, bJ, aKP, bO, c0, aH, aU, d1, dG, bH, aKQ, if_false, bM, dH, d2, dR, c1, gD, d3, d4, fE, e1, aP, iB, aKO, g1, dU, d5, pA, aG]
  exact ⟨by rw [no (fun h => h.2.2.2.2 ((Tc (by omega)).2 h5))], x1⟩
 have d5 : (ps[ps.length - 1]'(by omega) == 0) = false := by simpa using h5
 obtain ⟨l, rfl⟩ : ∃ l : Nat, log = l := ⟨log.toNat, by omega⟩
 have hsh : IntKind.i64.wrap (1 * 2 ^ (min l IntKind.i64.bits)) = (2 : Int) ^ l := by
  have : ∀ k : Fin 16, IntKind.i64.wrap (1 * 2 ^ (min k.val IntKind.i64.bits)) = (2 : Int) ^ k.val := by decide
  exact this ⟨l, by omega⟩
 have hyes : X6 (l : Int) ps = fits (2 ^ l) ps := by
  unfold X6 aAs
  rw [decide_eq_true ⟨by omega, by omega, by omega, by omega, fun h => h5 ((Tc (by omega)).1 h)⟩, aKO] <;> rfl
 simp (disch := omega) only [aD, bV, aA, bJ, aKP, bO, c0, aH, aU, d1, dG, bH, aKQ, if_false, bM, dH, d2, dR, c1, gD, d3, d4, fE, e1, aP, iB, aKO, g1, dU, d5, pA, hsh, aE]
 unfold Qr Re Rd Rf QN
 simp (disch := omega) only [aD, bJ, aKP, aA, dR, c1, aH, gD]
 have hp15 := aCz (log := l) (by omega)
 have hp1 := aCg l
 refine cU.rule (fun m t w' => ∃ (i : Nat) (left : Int), m = ps.length - i /\ t = (.int .i64 left, .int .i64 i) /\ i <= ps.length /\ 0 <= left /\ left <= 32768 /\ fits (2 ^ l) ps = fits left (ps.drop i) /\ aW w w' eU) ps.length
  ⟨0, 2 ^ l, rfl, rfl, by omega, by omega, hp15, rfl, x1⟩ ?_
 rintro m t w2 ⟨i, left, rfl, rfl, hi, hl0, hl1, hf, x2⟩
 by_cases hlt : i < ps.length
 .have d6 : decide ((i : Int) < (ps.length : Int)) = true := by simp; omega
  have hsw := hs0.ext x2 (bZ _)
  obtain ⟨b', off', c', e, _, hcell2⟩ := hsw.openI (by omega)
  cases e
  have g2 := hcell2 i hlt
  have hd : ps.drop i = ps[i] :: ps.drop (i + 1) := aLo hlt
  rw [hd, fits] at hf
  by_cases h6 : ps[i] < -1
  .have d7 : decide (ps[i] < -1) = true := by simpa using h6
   simp (disch := omega) only [Ag, aD, aU, d6, iB, aKO, bN, aP, aA, bO, g2, aH, d7, jI, bH, if_true, aG, cY]
   rw [if_pos (.inl h6)] at hf
   exact ⟨by rw [hyes, hf], x2⟩
  have d7 : decide (ps[i] < -1) = false := by simpa using h6
  simp (disch := omega) only [Ag, aD, aU, d6, iB, aKO, bN, aP, aA, bO, g2, aH, d7, dG, bH, aKQ, if_false, bM, aG]
  refine (aA2 _ _).mono ?_
  rintro r w3 ⟨rfl, rfl⟩
  by_cases h7 : left < iR ps[i]
  .have d8 : decide (left < iR ps[i]) = true := by simpa using h7
   simp (disch := omega) only [dH, d8, aA, aG]
   rw [if_pos (.inr h7)] at hf
   exact ⟨by rw [hyes, hf], x2⟩
  have d8 : decide (left < iR ps[i]) = false := by simpa using h7
  simp (disch := omega) only [dH, d8, aA, aE]
  refine (aA2 _ _).mono ?_
  rintro r w3 ⟨rfl, rfl⟩
  rw [if_neg (by omega)] at hf
  have hpn := sL (p := ps[i]) (by omega)
  simp (disch := omega) only [fE, aP, aA]
  exact ⟨ps.length - (i + 1), by omega, i + 1, left - iR ps[i], rfl, rfl, by omega, by omega, by omega, hf, x2⟩
 .have d6 : decide ((i : Int) < (ps.length : Int)) = false := by simp; omega
  rw [aMB (by omega), fits] at hf
  unfold Ag ID
  simp (disch := omega) only [aD, aU, d6, bN, aP, aA, dU, aE]
  exact ⟨by rw [hyes, hf], x2⟩
theorem aGo {ps : List Int} {i : Nat} (hi : i < ps.length) : Fi (ps.take (i + 1)) = Fi (ps.take i) + iR ps[i] := by
 rw [aLL, aKW hi, VW]; simp [Fi]
theorem aGw {log : Int} {sv : aNk} {ps : List Int} {w : aNj} (hs : Sl w sv (ps.map (Value.int .i64))) (hl : ps.length <= 9223372036854775807) :
 aS pg P3 #[.agg #[.int .i64 log, sv]] w (fun r w' => r = .bool (X6 log ps) /\ aW w w' eU) := by
 refine awT ?_
 unfold aAE Qt Qp
 obtain ⟨a, c, rfl, hc⟩ := hs.lenI
 refine nK fun w1 o1 x1 s1 => ?_
 have hs0 := hs.ext x1 (bZ _)
 have c0 := o1.cell (off := 0)
 have c1 := o1.cell (off := 1)
 simp only [Value.cells, aKM, aKN] at c0 c1
 have no : ¬ (5 <= log /\ log <= 15 /\ 1 <= ps.length /\ ps.length <= 256 /\ ps.getLast? ≠ some 0) -> X6 log ps = false := fun h => by
  unfold X6 aAs; rw [decide_eq_false h] <;> rfl
 by_cases h1 : log < 5
 .have d1 : decide (log < 5) = true := by simpa using h1
  simp (disch := omega) only [aD, bB, aA, aN, aKP, bO, c0, aH, aU, d1, jI, bH, if_true, aG, cY]
  exact ⟨by rw [no (by omega)], x1⟩
 have d1 : decide (log < 5) = false := by simpa using h1
 by_cases h2 : 15 < log
 .have d2 : decide (15 < log) = true := by simpa using h2
  simp (disch := omega) only [aD, bB, aA, aN, aKP, bO, c0, aH, aU, d1, dG, bH, aKQ, if_false, bM, dH, d2, jI, if_true, aG, cY]
  exact ⟨by rw [no (by omega)], x1⟩
 have d2 : decide (15 < log) = false := by simpa using h2
 by_cases h3 : ps.length < 1
 .have d3 : ((ps.length : Int) == 0) = true := by rw [beq_iff_eq]; omega
  simp (disch := omega) only [aD, bB, aA, aN, aKP, bO, c0, aH, aU, d1, dG, bH, aKQ, if_false, bM, dH, d2, dR, c1, gD, dU, d3, jI, if_true, aG, cY]
  exact ⟨by rw [no (by omega)], x1⟩
 have d3 : ((ps.length : Int) == 0) = false := by rw [beq_eq_false_iff_ne]; omega
 by_cases h4 : 256 < ps.length
 .have d4 : decide ((256 : Int) < (ps.length : Int)) = true := by simp; omega
  simp (disch := omega) only [aD, bB, aA, aN, aKP, bO, c0, aH, aU, d1, dG, bH, aKQ, if_false, bM, dH, d2, dR, c1, gD, dU, d3, d4, jI, if_true, aG, cY]
  exact ⟨by rw [no (by omega)], x1⟩
 have d4 : decide ((256 : Int) < (ps.length : Int)) = false := by simp; omega
 obtain ⟨b, off, c', e, hc', hcell⟩ := hs0.openI (by omega)
 cases e
 have e1 : ((ps.length : Int) - 1) = ((ps.length - 1 : Nat) : Int) := by omega
 have g1 := hcell (ps.length - 1) (by omega)
 by_cases h5 : ps[ps.length - 1]'(by omega) = 0
 .have d5 : (ps[ps.length - 1]'(by omega) == 0) = true := by simpa using h5
  simp (disch := omega) only [aD, bB, aA, aN, aKP, bO, c0, aH, aU, d1, dG, bH, aKQ, if_false, bM, dH, d2, dR, c1, gD, dU, d3, d4, fE, e1, aP, iB, aKO, g1, d5, aG]
  exact ⟨by rw [no (fun h => h.2.2.2.2 ((Tc (by omega)).2 h5))], x1⟩
 have d5 : (ps[ps.length - 1]'(by omega) == 0) = false := by simpa using h5
 obtain ⟨l, rfl⟩ : ∃ l : Nat, log = l := ⟨log.toNat, by omega⟩
 have hyes : X6 (l : Int) ps = fits (2 ^ l) ps := by
  unfold X6 aAs
  rw [decide_eq_true ⟨by omega, by omega, by omega, by omega, fun h => h5 ((Tc (by omega)).1 h)⟩, aKO] <;> rfl
 simp (disch := omega) only [aD, bB, aA, aN, aKP, bO, c0, aH, aU, d1, dG, bH, aKQ, if_false, bM, dH, d2, dR, c1, gD, dU, d3, d4, fE, e1, aP, iB, aKO, g1, d5, aE]
 unfold RO QH QQ Rg Qx
 have hp15 := aCz (log := l) (by omega)
 refine cU.rule (fun m t w' => ∃ (i : Nat), m = ps.length - i /\ t = (.int .i64 (Fi (ps.take i)), .int .i64 i) /\ i <= ps.length /\ 0 <= Fi (ps.take i) /\ Fi (ps.take i) <= 32768 * i /\ (∀ p ∈ ps.take i, -1 <= p) /\ aW w w' eU /\ aW w1 w' eU) ps.length
  ⟨0, rfl, by simp [Fi], by omega, by simp [Fi], by simp [Fi], by simp, x1, aW.refl _ _⟩ ?_
 rintro m t w2 ⟨i, rfl, rfl, hi, hs0', hs1, hlo, x2, x12⟩
 have o2 := o1.ext x12 (fun h => h)
 have c0 := o2.cell (off := 0)
 have c1 := o2.cell (off := 1)
 simp only [Value.cells, aKM, aKN] at c0 c1
 by_cases hlt : i < ps.length
 .have d6 : decide ((i : Int) < (ps.length : Int)) = true := by simp; omega
  obtain ⟨b', off', c', e, _, hcell2⟩ := (hs.ext x2 (bZ _)).openI (by omega)
  cases e
  have g2 := hcell2 i hlt
  have bad : ¬ (-1 <= ps[i] /\ ps[i] <= 32768) -> X6 (l : Int) ps = false := fun h => by
   rw [hyes, <- Bool.not_eq_true, ajK]
   rintro ⟨k1, k2⟩
   have := aEC k1 (aLA hlt)
   have := k1 _ (aLA hlt)
   unfold iR at *
   split at * <;> omega
  by_cases h6 : ps[i] < -1
  .have d7 : decide (ps[i] < -1) = true := by simpa using h6
   unfold yU B2 Fx Fc Me GF
   simp (disch := omega) only [aD, aN, aKP, aA, dR, c1, aH, gD, aU, d6, iB, aKO, bO, g2, d7, jI, bH, if_true, aG, cY]
   exact ⟨by rw [bad (by omega)], x2⟩
  have d7 : decide (ps[i] < -1) = false := by simpa using h6
  by_cases h7 : 32768 < ps[i]
  .have d8 : decide (32768 < ps[i]) = true := by simpa using h7
   unfold yU B2 Fx Fc Me GF
   simp (disch := omega) only [aD, aN, aKP, aA, dR, c1, aH, gD, aU, d6, iB, aKO, bO, g2, d7, dG, bH, aKQ, if_false, bM, dH, d8, aG]
   exact ⟨by rw [bad (by omega)], x2⟩
  have d8 : decide (32768 < ps[i]) = false := by simpa using h7
  have hts := aGo hlt
  have hlow : ∀ p ∈ ps.take (i + 1), -1 <= p := fun p hp => by
   rw [aLL, aKW hlt] at hp
   rcases aLx.1 hp with hp | hp
   .exact hlo p hp
   .simp at hp; omega
  unfold yU B2 Fx Fc Me GF
  by_cases h8 : ps[i] < 0
  .have d9 : decide (ps[i] < 0) = true := by simpa using h8
   have e : iR ps[i] = 1 := by unfold iR; rw [if_pos h8]
   simp (disch := omega) only [aD, aN, aKP, Fj, bN, aP, Gj, aA, dR, c1, aH, gD, aU, d6, iB, aKO, bO, g2, d7, d9, aG, dG, bH, aKQ, if_false, bM, dH, d8, aE]
   exact ⟨ps.length - (i + 1), by omega, i + 1, rfl, by rw [hts, e] <;> rfl, by omega, by omega, by omega, hlow, x2, x12⟩
  .have d9 : decide (ps[i] < 0) = false := by simpa using h8
   have e : iR ps[i] = ps[i] := by unfold iR; rw [if_neg h8]
   simp (disch := omega) only [aD, aN, aKP, Fj, bN, aP, Gj, aA, dR, c1, aH, gD, aU, d6, iB, aKO, bO, g2, d7, d9, aE, dG, bH, aKQ, if_false, bM, dH, d8, aG]
   exact ⟨ps.length - (i + 1), by omega, i + 1, rfl, by rw [hts, e] <;> rfl, by omega, by omega, by omega, hlow, x2, x12⟩
 .have d6 : decide ((i : Int) < (ps.length : Int)) = false := by simp; omega
  unfold yU B2 LZ
  simp (disch := omega) only [aD, aN, aKP, bB, aA, bO, dR, c1, aH, gD, aU, d6, c0, aE]
  refine (IP l (by omega) _).mono ?_
  rintro r w3 ⟨rfl, rfl⟩
  rw [aLn (by omega)] at hlo ⊢
  simp (disch := omega) only [dU, aA]
  refine ⟨?_, x2⟩
  rw [hyes]
  congr 1
  rw [Bool.eq_iff_iff, ajK, beq_iff_eq]
  exact ⟨fun h => ⟨hlo, h⟩, fun h => h.2⟩
def aFB (log : Int) (ps : List Int) (most : Int) : Int := if X6 log ps = false then 1 else if most < log then 12 else 0
theorem aH0 {log most : Int} {sv : aNk} {ps : List Int} {w : aNj} (hs : Sl w sv (ps.map (Value.int .i64))) (hl : ps.length <= 9223372036854775807) :
 aS pg FO #[.agg #[.int .i64 log, sv], .int .i64 most] w (fun r w' => r = .int .i64 (aFB log ps most) /\ aW w w' eU) := by
 refine akB ?_
 unfold aeQ JQ
 refine nK fun w1 o1 x1 s1 => ?_
 have hs := hs.ext x1 (bZ _)
 rw [show aL 100 = aL 100 from rfl]
 have l1 := rB o1 (off := 0) (by simp [Value.cells])
 simp only [Value.cells, aKU, aKT, aKX] at l1
 simp (disch := omega) only [aD, l1, bV, aA, bO]
 refine (aJP hs hl).mono ?_
 rintro r w2 ⟨rfl, x2⟩
 have o2 := o1.ext x2 (fun h => h)
 have c0 := o2.cell (off := 0)
 simp only [Value.cells, aKM] at c0
 unfold aFB
 cases hm : X6 log ps with
 | false =>
   simp (disch := omega) only [pM, aLi, if_true, true_and, aA, aG]
   exact x1.seq x2
 | true =>
   by_cases h : most < log
   .have d : decide (most < log) = true := by simpa using h
    simp (disch := omega) only [pM, aLb, aA, c0, aH, dH, d, aG, aE]
    exact ⟨by simp [h], x1.seq x2⟩
   .have d : decide (most < log) = false := by simpa using h
    simp (disch := omega) only [pM, aLb, aA, c0, aH, dH, d, aE]
    exact ⟨by simp [h], x1.seq x2⟩
theorem aDr {log most : Int} {sv : aNk} {ps : List Int} {w : aNj} (hs : Sl w sv (ps.map (Value.int .i64))) (hl : ps.length <= 9223372036854775807) :
 aS pg IS #[.agg #[.int .i64 log, sv], .int .i64 most] w (fun r w' => r = .int .i64 (aFB log ps most) /\ aW w w' eU) := by
 refine aoM ?_
 unfold arQ OW
 refine nK fun w1 o1 x1 s1 => ?_
 have hs := hs.ext x1 (bZ _)
 have l1 := pW o1 (off := 0) (by simp [Value.cells])
 simp only [Value.cells, aKU, aKT, aKX] at l1
 simp (disch := omega) only [aD, l1, bB, aA, bO]
 refine (aGw hs hl).mono ?_
 rintro r w2 ⟨rfl, x2⟩
 have o2 := o1.ext x2 (fun h => h)
 have c0 := o2.cell (off := 0)
 simp only [Value.cells, aKM] at c0
 unfold aFB
 cases hm : X6 log ps with
 | false =>
   simp (disch := omega) only [pM, aLi, if_true, true_and, aA, aG]
   exact x1.seq x2
 | true =>
   by_cases h : most < log
   .have d : decide (most < log) = true := by simpa using h
    simp (disch := omega) only [pM, aLb, aA, c0, aH, dH, d, aG, aE]
    exact ⟨by simp [h], x1.seq x2⟩
   .have d : decide (most < log) = false := by simpa using h
    simp (disch := omega) only [pM, aLb, aA, c0, aH, dH, d, aE]
    exact ⟨by simp [h], x1.seq x2⟩
theorem aJx {x : Nat} (hx : x < 256) (w : aNj) : aS pg BW #[.int .u8 x] w (fun r w' => r = .int .i64 (bl x : Nat) /\ w' = w) := by
 refine XH ?_
 have hg := aCh x hx
 have hs := Xo
 have hb : bl x <= 8 := wH (n := 8) (by omega)
 unfold WI EW
 change aD pg (D6 9 (.string aDb) _) w _
 simp (disch := omega) only [aD, jA, aKO, hg, aA, dT, aP, and_true]
def Bwd (w : aNj) (lo hi : Nat) (l : List UInt8) (left : Int) : Prop := ∃ v, eM w hi [v, .int .i64 left] /\ Bs w v l /\ AtI v lo hi
theorem Bwd.ext {w w' : aNj} {lo hi : Nat} {left : Int} {l : List UInt8} {M : Nat -> Prop} (h : Bwd w lo hi l left) (hx : aW w w' M) (hM : ∀ b, lo <= b -> b <= hi -> ¬ M b) (hlh : lo <= hi) : Bwd w' lo hi l left := by
 obtain ⟨v, h1, h2, h3⟩ := h
 exact ⟨v, h1.ext hx (hM _ hlh (aK1 _)), h2.ext hx (h3 M fun b hb hh => hM b hb (by omega)), h3⟩
theorem Um {v : aNk} {l : List UInt8} {w : aNj} (h : Bs w v l) (he : XU l = none) (hl : l.length <= 1000000) :
 aS pg sD #[v] w (fun r w' => r = .tuple #[.pointer none, .int .i64 11] /\ w' = w) := by
 refine Hg ?_
 unfold H9 xG
 rcases aL9 l.length with h0 | h0
 .obtain ⟨a, n, c, rfl, hn, hc, hh⟩ := h
  rw [aKZ, h0] at hn
  subst hn
  have d1 : (((0 : Nat) : Int) == 0) = true := rfl
  simp (disch := omega) only [aD, aV, true_and, jF, Result.ok.injEq, Next.value.injEq, and_true, aA, fE, aP, oL, dU, d1, jI, bH, if_true, aG, cY]
 .obtain ⟨b, off, c, rfl, hc, hcell⟩ := OE h h0
  rw [Mv h0] at he
  have g := hcell (l.length - 1) (by omega)
  generalize (l[l.length - 1]'(by omega)) = x at *
  have hx0 : x.toNat = 0 := by
   rcases aL9 x.toNat with h | h
   .exact h
   .rw [if_neg (by omega)] at he; cases he
  rw [hx0] at g
  have d1 : ((l.length : Int) == 0) = false := by simp; intro h; subst h; simp at h0
  have e1 : (l.length : Int) - 1 = ((l.length - 1 : Nat) : Int) := by omega
  have d2 : (((0 : Nat) : Int) == 0) = true := rfl
  simp (disch := omega) only [aD, aV, true_and, jF, Result.ok.injEq, Next.value.injEq, and_true, aA, fE, e1, aP, dM, aKO, iH, oL, dU, d1, dG, bH, aKQ, if_false, bM, g, aH, d2, aG]
theorem V2 {v : aNk} {l : List UInt8} {k : Nat} {w : aNj} (h : Bs w v l) (he : XU l = some k) (hl : l.length <= 1000000) :
 aS pg sD #[v] w (fun r w' => ∃ hi, r = .tuple #[.pointer (some ⟨hi, 0, none⟩), .int .i64 0] /\ w.heap.size <= hi /\ hi < w'.heap.size /\ Bwd w' w.heap.size hi l k /\ aW w w' eU) := by
 refine Hg ?_
 unfold H9 xG
 have h0 := (HS he).1
 obtain ⟨b, off, c, rfl, hc, hcell⟩ := OE h h0
 rw [Mv h0] at he
 have g := hcell (l.length - 1) (by omega)
 generalize (l[l.length - 1]'(by omega)) = x at *
 have hx : x.toNat < 256 := aLv x
 have hx0 : x.toNat ≠ 0 := by
  intro h; rw [if_pos h] at he; cases he
 rw [if_neg hx0] at he
 have he := aLf he
 have hb1 := Nh hx0
 have hb2 : bl x.toNat <= 8 := wH (n := 8) (by omega)
 have d1 : ((l.length : Int) == 0) = false := by simp; intro h; subst h; simp at h0
 have e1 : (l.length : Int) - 1 = ((l.length - 1 : Nat) : Int) := by omega
 have d2 : ((x.toNat : Int) == 0) = false := by simpa using hx0
 simp (disch := omega) only [aD, aV, jF, Result.ok.injEq, Next.value.injEq, and_true, true_and, aA, fE, e1, aP, dM, aKO, iH, oL, dU, d1, dG, bH, aKQ, if_false, bM, g, aH, d2, aE]
 refine (Is (h.ext (aW.dr _ eU) (bZ _)) (by omega)).mono ?_
 rintro r w1 ⟨o1, x1⟩
 have x01 : aW w w1 eU := (aW.dr w eU).seq x1
 have g1 := ahD g x01 (fun h => h)
 have hat := sM.atI o1
 have hs := o1.sl
 obtain ⟨a, c', rfl⟩ := o1.len
 have gd : (dr w).cell? ⟨b, off + (l.length - 1), none⟩ = some (.int .u8 (x.toNat : Nat)) := g
 simp (disch := omega) only [g1, aH, gd, Result.ok.injEq, Next.value.injEq, and_true, aA, true_and]
 refine (aJx hx _).mono ?_
 rintro r w2 ⟨rfl, rfl⟩
 have e2 : 8 * ((l.length - 1 : Nat) : Int) + (bl x.toNat : Nat) - 1 = (k : Int) := by omega
 simp (disch := omega) only [bN, aP, aA, fE, e2, gF, true_and]
 refine nK fun w3 o3 x3 s3 => ?_
 simp only [Value.cells] at o3
 exact ⟨_, rfl, x01.size, by omega, ⟨_, o3, hs.ext x3 (bZ _), hat⟩, x01.seq x3⟩
theorem aqJ {l : List UInt8} {lo hi : Nat} {left : Int} {w : aNj} (h : Bwd w lo hi l left) :
 aS pg qO #[.pointer (some ⟨hi, 0, none⟩)] w (fun r w' => r = .int .i64 left /\ w' = w) := by
 refine R6 ?_
 obtain ⟨v, o, hs, hat⟩ := h
 have c1 := o.cell (off := 1)
 simp only [aKM, aKN] at c1
 unfold Oq Ax
 simp (disch := omega) only [aD, fA, aK8, qR, aA, dZ, aKP, bO, and_true, c1, aH, aE]
theorem amQ {l : List UInt8} {lo hi n : Nat} {left : Int} {w : aNj} (h : Bwd w lo hi l left) (hlh : lo <= hi) (hn : n <= 56) (h1 : left <= 8 * l.length) (h2 : -1000000000 <= left) (hl : l.length <= 1000000) :
 aS pg qU #[.pointer (some ⟨hi, 0, none⟩), .int .i64 n] w (fun r w' =>
  r = .int .u64 (qF ((aZ l).take left.toNat) n) /\ Bwd w' lo hi l (left - n) /\ aW w w' (fun y => y = hi)) := by
 refine R1 ?_
 unfold Ob Av
 by_cases hn0 : n = 0
 .subst hn0
  have d1 : decide (((0 : Nat) : Int) < 1) = true := rfl
  simp (disch := omega) only [aD, fA, aK8, qR, jF, and_true, aA, dZ, aKP, bO, true_and, gT, eQ, dG, bH, aKQ, if_false, bM, aU, d1, jI, if_true, aG, cY]
  have h0 : qF ((aZ l).take left.toNat) 0 = 0 := by
   have := sO ((aZ l).take left.toNat) 0
   rw [Nat.pow_zero] at this; omega
  exact ⟨by rw [h0] <;> rfl, by simpa using h, aW.refl _ _⟩
 obtain ⟨v, o, hs, hat⟩ := h
 have c0 := o.cell (off := 0)
 have c1 := o.cell (off := 1)
 have od := jW o
 have c0d := od.cell (off := 0)
 have c1d := od.cell (off := 1)
 simp only [aKM, aKN] at c0 c1 c0d c1d
 have d1 : decide ((n : Int) < 1) = false := by simp; omega
 have d2 : decide ((56 : Int) < (n : Int)) = false := by simp; omega
 obtain ⟨k0, hk0⟩ : ∃ k0, k0 = left.toNat := ⟨_, rfl⟩
 obtain ⟨th, hth⟩ : ∃ th, th = min n k0 := ⟨_, rfl⟩
 have e1 : (if (0 : Int) > left then 0 else left) = (k0 : Int) := by split <;> omega
 have e2 : (if (n : Int) < (k0 : Int) then (n : Int) else (k0 : Int)) = (th : Int) := by split <;> omega
 have e3 : (k0 : Int) - (th : Int) = ((k0 - th : Nat) : Int) := by omega
 have e4 : (n : Int) - (th : Int) = ((n - th : Nat) : Int) := by omega
 rw [<- hk0]
 have hlen : ((aZ l).take k0).length = k0 := by rw [aK2, lW]; omega
 have hlast : qF ((aZ l).take k0) n = vX (((aZ l).drop (k0 - th)).take th) * 2 ^ (n - th) := by
  unfold qF
  rw [hlen, <- hth, List.drop_take, show k0 - (k0 - th) = th from by omega]
 have hlt := sO ((aZ l).take k0) n
 have hp : 2 ^ n <= 2 ^ 56 := aKY (by omega) hn
 have e5 : IntKind.u64.wrap (((vX (((aZ l).drop (k0 - th)).take th) : Nat) : Int) * 2 ^ (min (n - th) IntKind.u64.bits)) = ((qF ((aZ l).take k0) n : Nat) : Int) := by
  rw [show min (n - th) IntKind.u64.bits = n - th from aLH (by have h64 : IntKind.u64.bits = 64 := rfl; omega), hlast]
  have e : ((vX (((aZ l).drop (k0 - th)).take th) : Nat) : Int) * 2 ^ (n - th) = ((vX (((aZ l).drop (k0 - th)).take th) * 2 ^ (n - th) : Nat) : Int) := by simp
  rw [e]
  rw [hlast] at hlt
  exact kR (by omega) (by omega)
 simp (disch := omega) only [aD, fA, aK8, qR, jF, and_true, aA, dZ, aKP, bO, true_and, gT, eQ, dG, bH, aKQ, if_false, bM, aU, d1, dH, d2, c1, aH, AD, e1, LO, e2, c0d, c1d, fE, e4, aP, Result.ok.injEq, Next.value.injEq, fY, kR, e3, aE]
 refine (aGS (l := l) (st := k0 - th) (n := th) (hs.ext (aW.dr _ eU) (bZ _)) (by omega) (by omega) (by omega)).mono ?_
 rintro r w1 ⟨rfl, rfl⟩
 simp (disch := omega) only [pA, aKO, e5, c1d, aH, aA, fE, aP, true_and]
 refine oY od rfl (by simp) fun w2 o2 x2 s2 => ?_
 simp only [aKS, aKR] at o2
 have x02 : aW w w2 (fun y => y = hi) := (aW.dr _ _).seq x2
 exact ⟨⟨_, o2, hs.ext x02 (hat _ fun b hb hh => by omega), hat⟩, x02⟩
end Go.Proofs.YtgpimhlgaokobaaGreat
namespace Go.En
open Go Go.RowKit
section
variable {P : Program} {w : aNj} {t e : TypeId} {k : IntKind}
theorem aFb {i : TypeInfo} {z : aNk} (hu : P.underlying t = some (.slice e)) (hi : P.info? e = some i) (h1 : i.size = 1) (hz : i.zero = some z) (hz1 : one z = true) {m n : Int} (h0 : 0 <= m) (hmn : m <= n) (hn : i.bytes * n <= 2 ^ 48) (hn2 : n <= 9223372036854775807)
 {K : aNk -> aNj -> Prop}
 (hk : ∀ w', eM w' w.heap.size (List.replicate n.toNat z) -> aW w w' eU -> w'.heap.size = w.heap.size + 1 -> K (.slice (some ⟨w.heap.size, 0, none⟩) m.toNat n.toNat) w') :
 aD P (qA t (.int k m) (.int k n)) w K := by
 have hw : IntKind.i64.wrap n = n := aP (by omega) hn2
 have hwm : IntKind.i64.wrap m = m := aP (by omega) (by omega)
 have hcells : z.cells = #[z] := aoJ hz1
 have harr : (Array.range n.toNat).map (fun j => (#[z] : Array aNk)[j % (#[z] : Array aNk).size]!) = (List.replicate n.toNat z).toArray := by
  apply Array.ext
  .simp
  .intro j h1 h2; simp [Nat.mod_one]
 have hz' : (zeroValue e).run P w = .ok z w := by simp [zeroValue, typeInfo, hi, hz]
 have : (qA t (.int k m) (.int k n)).run P w = .ok (.value (.slice (some ⟨w.heap.size, 0, none⟩) m.toNat n.toNat)) (w.alloc (.cells (List.replicate n.toNat z).toArray e)) := by
  unfold qA
  rw [uO]
  have t1 : (decide (n < 0) || decide ((i.bytes : Int) * n > 2 ^ 48) || decide (m < 0) || decide (m > n)) = false := by
   simp only [aMG, decide_eq_false_iff_not]; omega
  by_cases hn0 : n.toNat = 0
  .simp only [Instr.makeSlice, underlying, typeInfo, asInt, asIntOf, pure_bind, Sem.run_bind, run_program, Result.andThen_ok, hu, hi, Sem.run_pure, hw, hwm, t1, aKQ, if_false, run_askRoom, kX hi, h1, aMc, hn0, if_true, newRow, run_newObj]
   have : (Array.range 0).map (fun x => (#[] : Array aNk)[x % (#[] : Array aNk).size]!) = (List.replicate 0 z).toArray := by simp
   rw [this]
   rfl
  .simp only [Instr.makeSlice, underlying, typeInfo, asInt, asIntOf, pure_bind, Sem.run_bind, run_program, Result.andThen_ok, hu, hi, Sem.run_pure, hw, hwm, t1, aKQ, if_false, run_askRoom, kX hi, h1, aMc, hn0, hz', hcells, newRow, run_newObj, harr]
   rfl
 unfold aD
 rw [this]
 exact hk _ (eM.alloc _ _ _) (aW.alloc _ _ _) (by simp)
end
end Go.En
namespace Go.En
open Go
theorem OSS.ext {w w' : aNj} {S M : Nat -> Prop} {sz n : Nat} {v : aNk} {l : List aNk} (h : OSS w S sz v n l) (hx : aW w w' M) (hM : ∀ b, S b -> ¬ M b) : OSS w' S sz v n l := by
 refine ⟨h.1, ?_⟩
 rcases h.2 with h2 | ⟨b, c, rest, h1, h2, h3, h4, h5⟩
 .exact .inl h2
 .exact .inr ⟨b, c, rest, h1, h2, h3.ext hx (hM b h2), h4, h5⟩
theorem sM.ne {w : aNj} {base p sz n : Nat} {v : aNk} {l : List aNk} (h : sM w base sz v n l) (hp : w.heap.size <= p) : OSS w (fun b => base <= b /\ b ≠ p) sz v n l := by
 refine ⟨h.1, ?_⟩
 rcases h.2 with h2 | ⟨b, c, rest, h1, h2, h3, h4, h5⟩
 .exact .inl h2
 .have := h3.lt
  exact .inr ⟨b, c, rest, h1, ⟨h2, by omega⟩, h3, h4, h5⟩
theorem OSS.osl {w : aNj} {base p sz n : Nat} {v : aNk} {l : List aNk} (h : OSS w (fun b => base <= b /\ b ≠ p) sz v n l) : sM w base sz v n l := by
 refine ⟨h.1, ?_⟩
 rcases h.2 with h2 | ⟨b, c, rest, h1, h2, h3, h4, h5⟩
 .exact .inl h2
 .exact .inr ⟨b, c, rest, h1, h2.1, h3, h4, h5⟩
theorem OSS.len {w : aNj} {S : Nat -> Prop} {sz n : Nat} {v : aNk} {l : List aNk} (h : OSS w S sz v n l) : ∃ a c, v = .slice a n c := by
 rcases h.2 with ⟨h1, rfl⟩ | ⟨b, c, rest, h1, _⟩
 .exact ⟨_, _, h1⟩
 .exact ⟨_, _, h1⟩
end Go.En
namespace Go.Proofs.YtgpimhlgaokobaaGreat
open Go Go.En Go.Pu
set_option maxRecDepth 4000
theorem HtV.ext {w w' : aNj} {base : Nat} {C : List (Nat × Nat)} {v : aNk} {M : Nat -> Prop} (h : HtV w base C v) (x : aW w w' M) (hM : ∀ b, base <= b -> ¬ M b) : HtV w' base C v := by
 obtain ⟨b, h1, h2, h3⟩ := h
 exact ⟨b, h1, h2, h3.ext x (hM b h2)⟩
def rS (C : List (Nat × Nat)) (l : List UInt8) (n : Nat) : Except Int (List Nat) := match XU l with
 | none => .error 11
 | some k =>
   if (B3 C (pE C) (aZ l) n (k : Int)).2 < 0 then .error 11
   else if 0 < (B3 C (pE C) (aZ l) n (k : Int)).2 then .error 15
   else .ok (B3 C (pE C) (aZ l) n (k : Int)).1
theorem avK {C : List (Nat × Nat)} {m : Nat} {B : List Bool} (hF : XF C m) : ∀ {n : Nat} {left : Int}, ∀ s ∈ (B3 C m B n left).1, s < C.length
 | 0, _, s, hs => by cases hs
 | n + 1, left, s, hs => by
   rw [B3] at hs
   rcases aLF.1 hs with rfl | hs
   .exact auX (amL hF (Kt _ _ _))
   .exact avK hF s hs
theorem alJ {C : List (Nat × Nat)} {m : Nat} {B : List Bool} : ∀ (n : Nat) (left : Int), B3 C m B (n + 1) left =
 ((B3 C m B n left).1 ++ [Eo C m (LL B (B3 C m B n left).2 m)], (B3 C m B n left).2 - bitsOf C (Eo C m (LL B (B3 C m B n left).2 m)))
 | 0, left => rfl
 | n + 1, left => by
   rw [B3, alJ n]
   rw [B3]
   simp
theorem aBK {C : List (Nat × Nat)} {m : Nat} {B : List Bool} (h : ∀ s, bitsOf C s <= 11) : ∀ (n : Nat) (left : Int), (B3 C m B n left).2 <= left /\ left - 11 * n <= (B3 C m B n left).2
 | 0, left => ⟨Int.le_refl _, by simp [B3]⟩
 | n + 1, left => by
   have := aBK (m := m) (B := B) h n (left - bitsOf C (Eo C m (LL B left m)))
   have := h (Eo C m (LL B left m))
   rw [B3]
   simp only
   omega
theorem aqL {a b : Nat} (ha : a < 2 ^ 62) (hb : b < 2 ^ 62) : orI .i64 (a : Int) (b : Int) = ((a ||| b : Nat) : Int) := by
 have h := Nat.or_lt_two_pow ha hb
 unfold orI
 have e : IntKind.i64.bits = 64 := rfl
 rw [e, BitVec.ofInt_natCast, BitVec.ofInt_natCast, BitVec.toNat_or, BitVec.toNat_ofNat, BitVec.toNat_ofNat, aLt (by omega), aLt (by omega)]
 exact aP (by omega) (by omega)
abbrev u8n (m : List Nat) : List aNk := m.map fun (x : Nat) => Value.int .u8 x
def TR (w : aNj) (base : Nat) (o : Except Int (List Nat)) (r : aNk) : Prop := match o with
 | .error e => r = .tuple #[.slice none 0 0, .int .i64 e]
 | .ok m => ∃ v, r = .tuple #[v, .int .i64 0] /\ sM w base 1 v m.length (u8n m)
theorem aCU {t v : aNk} {C : List (Nat × Nat)} {l : List UInt8} {n base : Nat} {w : aNj} (hF : XF C (pE C)) (hm : pE C <= 11) (hCl : C.length <= 256) (ht : HtV w base C t) (h : Bs w v l) (hl : l.length <= 1000000) (hn : n <= 131072) :
 aS pg tP #[t, v, .int .i64 n] w (fun r w' => TR w' w.heap.size (rS C l n) r /\ aW w w' eU) := by
 refine TX ?_
 obtain ⟨RR, hRR⟩ : ∃ RR : aNk -> aNj -> Prop, RR = fun r w' => TR w' w.heap.size (rS C l n) r /\ aW w w' eU := ⟨_, rfl⟩
 rw [<- hRR]
 obtain ⟨pt, rfl, hpt, oT⟩ := ht
 unfold P7 Bi BA
 refine nK fun w1 o1 x1 s1 => ?_
 simp only [Value.cells] at o1
 have z1 := x1.size
 have lt1 := oT.lt
 cases he : XU l with
 | none =>
   have hR : rS C l n = .error 11 := by unfold rS; rw [he]
   refine (Um (h.ext x1 (bZ _)) he hl).mono ?_
   rintro r w2 ⟨rfl, rfl⟩
   have n1 : ((11 : Int) != 0) = true := rfl
   simp (disch := omega) only [aD, pP, pR, aA, dC, n1, aG]
   rw [hRR, hR]
   exact ⟨rfl, x1⟩
 | some k =>
   have hk := HS he
   refine (V2 (h.ext x1 (bZ _)) he hl).mono ?_
   rintro r w2 ⟨hi, rfl, hhi, hhi2, hB, x2⟩
   have n1 : ((0 : Int) != 0) = false := rfl
   simp (disch := omega) only [aD, pP, pR, aA, dC, n1, aE]
   refine aFb Tryz.underlying22 Sm rfl rfl rfl (m := 0) (n := (n : Int)) (by omega) (by omega) (by rw [show Tryz.t5.bytes = 1 from rfl]; omega) (by omega) fun w3 o3 x3 s3 => ?_
   rw [aKO] at o3 ⊢
   have t0 : (0 : Int).toNat = 0 := rfl
   rw [t0]
   have z2 := x2.size
   have z3 := x3.size
   have x03 := (x1.seq x2).seq x3
   have hbit : ∀ s, bitsOf C s <= 11 := fun s => by
    unfold bitsOf
    rw [aK0]
    cases hq : C[s]? with
    | none => simp
    | some e => have := apE (aLU hq); simp; omega
   unfold By Bh Be Bk Bw
   have hBl : ((aZ l).length : Int) = 8 * l.length := by rw [lW]; omega
   refine cU.rule (fun q (t : aNk × aNk × aNk × aNk) w' => ∃ (i th : Nat) (ov : aNk), q = n - i /\ t = (ov, .int .i64 (LL (aZ l) (B3 C (pE C) (aZ l) i (k : Int)).2 th : Nat), .int .i64 th, .int .i64 i) /\ i <= n /\ th <= pE C /\ sM w' (hi + 1) 1 ov i (u8n (B3 C (pE C) (aZ l) i (k : Int)).1) /\
    Bwd w' w1.heap.size hi l ((B3 C (pE C) (aZ l) i (k : Int)).2 - th) /\ aW w3 w' (fun y => hi <= y)) n
    ⟨0, 0, _, rfl, ?_, by omega, by omega, ⟨rfl, .inr ⟨_, n, _, rfl, by omega, o3, by simp [B3], by omega⟩⟩, ?_, aW.refl _ _⟩ ?_
   .have : LL (aZ l) (B3 C (pE C) (aZ l) 0 (k : Int)).2 0 = 0 := by have := Kt (aZ l) (B3 C (pE C) (aZ l) 0 (k : Int)).2 0; omega
    rw [this] <;> rfl
   .show Bwd w3 w1.heap.size hi l ((k : Int) - (0 : Nat))
    rw [Int.natCast_zero, Int.sub_zero]
    exact hB.ext x3 (fun _ _ _ h => h) (by omega)
   rintro q t w4 ⟨i, th, ov, rfl, rfl, hi', hth, os, hB4, x4⟩
   have z4 := x4.size
   have bd := aBK (C := C) (m := pE C) (B := aZ l) hbit i (k : Int)
   have hBs := alJ (C := C) (m := pE C) (B := aZ l) i (k : Int)
   generalize hg : B3 C (pE C) (aZ l) i (k : Int) = g at *
   obtain ⟨gs, gl⟩ := g
   simp only at *
   unfold wK
   by_cases hlt : i < n
   .have d1 : decide ((i : Int) < (n : Int)) = true := by simp; omega
    have o14 := (o1.ext (x2.seq x3) (fun h => h)).ext x4 (by omega)
    have k0 := o14.cell (off := 0)
    simp only [aKM, aKN] at k0
    have e1 : ((pE C : Nat) : Int) - (th : Int) = ((pE C - th : Nat) : Int) := by omega
    have r1 := Kt (aZ l) gl th
    have hp1 : 2 ^ th <= 2 ^ 11 := aKY (by omega) (by omega)
    have hp2 : 2 ^ (pE C - th) <= 2 ^ 11 := aKY (by omega) (by omega)
    have hmul : LL (aZ l) gl th * 2 ^ (pE C - th) <= 2 ^ 11 * 2 ^ 11 := Nat.mul_le_mul (by omega) hp2
    have e2 := afS (a := LL (aZ l) gl th) (n := pE C - th) (by omega) (by omega)
    simp (disch := omega) only [aD, aU, d1, fZ, jF, and_true, fG, aKP, bN, aP, aA, bO, gZ, true_and, k0, aH, fE, e1, pA, aKO, e2, Result.ok.injEq, Next.value.injEq, aG]
    have zd : (dr w4).heap.size = w4.heap.size := rfl
    refine (amQ (hB4.ext (aW.dr w4 eU) (fun _ _ _ h => h) (by omega)) (by omega) (by omega) (by omega) (by omega) hl).mono ?_
    rintro r w5 ⟨rfl, hB5, x5⟩
    have q1 : qF ((aZ l).take (gl - (th : Int)).toNat) (pE C - th) = LL (aZ l) (gl - th) (pE C - th) := rfl
    rw [q1]
    have r2 := Kt (aZ l) (gl - th) (pE C - th)
    have z5 := x5.size
    have x45 : aW w4 w5 (fun y => hi <= y) := (aW.dr w4 _).seq (x5.mono fun y _ hy => by omega)
    have hadd := aBa (B := aZ l) (left := gl) th (pE C - th) (by omega)
    rw [show th + (pE C - th) = pE C from by omega] at hadd
    have e3 : IntKind.i64.wrap ((LL (aZ l) (gl - th) (pE C - th) : Nat) : Int) = ((LL (aZ l) (gl - th) (pE C - th) : Nat) : Int) := aP (by omega) (by omega)
    have e4 : orI .i64 ((LL (aZ l) gl th * 2 ^ (pE C - th) : Nat) : Int) ((LL (aZ l) (gl - th) (pE C - th) : Nat) : Int) = ((LL (aZ l) gl (pE C) : Nat) : Int) := by
     rw [aqL (by omega) (by omega), Nat.or_comm, ayU r2, hadd, aLm (2 ^ (pE C - th)), Nat.add_comm]
    have hX := Kt (aZ l) gl (pE C)
    have o15 := o14.ext x45 (by omega)
    have k1 := o15.cell (off := 1)
    simp only [aKM, aKN] at k1
    have hent := aGm hF hX
    obtain ⟨X, hXe⟩ : ∃ X, X = LL (aZ l) gl (pE C) := ⟨_, rfl⟩
    rw [<- hXe] at e4 hX hent hBs
    obtain ⟨sy, hsy⟩ : ∃ sy, sy = Eo C (pE C) X := ⟨_, rfl⟩
    rw [<- hsy] at hent hBs
    have hsyl : sy < C.length := by rw [hsy]; exact auX (amL hF hX)
    have hbs := hbit sy
    obtain ⟨bs, hbse⟩ : ∃ bs, bs = bitsOf C sy := ⟨_, rfl⟩
    rw [<- hbse] at hent hBs hbs
    have hbm : bs <= pE C := by
     rw [hbse]
     unfold bitsOf
     rw [aK0, aKW hsyl]
     exact apE (aLA hsyl)
    have xT : aW w w5 (fun y => hi <= y) := ((x03.mono fun _ _ h => h.elim).seq x4).seq x45
    have q2 : (aL 173 (.pointer (some ⟨pt, X * 2, none⟩))).run pg w5 = .ok (.value (.agg #[.int .u8 (sy : Nat), .int .i64 (bs : Nat)])) w5 := by
     have := ayK (off := X * 2) (oT.ext xT (by omega)) (by rw [anF, aBZ]; omega)
     rw [aEu hent] at this
     exact this
    have hX2 : (X : Int) < ((2 ^ pE C : Nat) : Int) := Int.ofNat_lt.2 hX
    have c5 : w5.cell? ⟨w.heap.size, 1, none⟩ = some (.slice (some ⟨pt, 0, none⟩) (2 ^ pE C) (2 ^ pE C)) := k1
    simp (disch := omega) only [bX, e3, k1, aH, aA, KZ, e4, iZ, aKO, aKP, q2, true_and]
    refine azG fun w6 o6 x6 s6 => ?_
    refine Xg o6 rfl (by simp [one]) (by simp) fun w7 o7 x7 s7 => ?_
    simp only [bK, aKS, aKR] at o7
    have x57 : aW w5 w7 eU := x6.new x7 (aK1 _)
    have z57 := x57.size
    have f0 := o7.cell (off := 0)
    simp only [aKM, aKN] at f0
    simp (disch := omega) only [gH, iF, aKP, aA, bO, iH, f0, aH]
    refine oZ (cells := #[.int .u8 (sy : Nat)]) (by decide) (by decide) (by kernel_rfl) fun w8 o8 x8 s8 => ?_
    have z8 := x8.size
    have x45h : aW w4 w5 (fun y => y = hi) := (aW.dr w4 _).seq x5
    have os5 := os.ext x45h (fun b hb hh => by omega)
    have os7 := ((os5.ne (aK1 _)).ext x6 (fun b _ h => h)).ext x7 (fun b h1 h2 => h1.2 h2)
    refine yN (m := 1) (news := [.int .u8 (sy : Nat)]) (i := Tryz.t5) Tryz.underlying22 Tryz.underlying22 Sm rfl rfl rfl (os7.ext x8 (fun b _ h => h)) (o8.cl (off := 0) (l := [.int .u8 (sy : Nat)]) (n := 1) rfl (fun i hi => by rw [aKP])) (by simp [one]) (fun b hb => ⟨by omega, by omega⟩) (by omega) (by rw [show Tryz.t5.bytes = 1 from rfl]; omega) (by decide) fun v9 w9 o9 x9 => ?_
    have z9 := x9.size
    have x59 : aW w5 w9 (fun y => hi + 1 <= y) := ((x57.seq x8).mono fun _ _ h => h.elim).seq (x9.mono fun y _ h => h.1)
    have k3 := (o15.ext x59 (by omega)).cell (off := 0)
    have f1 := ((o7.ext x8 (fun h => h)).ext x9 (fun h => h.2 rfl)).cell (off := 1)
    simp only [aKM, aKN] at k3 f1
    have e5 : ((pE C : Nat) : Int) - (bs : Int) = ((pE C - bs : Nat) : Int) := by omega
    have hp3 : 2 ^ (pE C - bs) <= 2 ^ 11 := aKY (by omega) (by omega)
    have e6 := afS (a := 1) (n := pE C - bs) (by omega) (by omega)
    rw [aM0] at e6
    have one1 : ((1 : Nat) : Int) = 1 := rfl
    rw [one1] at e6
    have hp0 := aLh (pE C - bs)
    have e7 : ((2 ^ (pE C - bs) : Nat) : Int) - 1 = ((2 ^ (pE C - bs) - 1 : Nat) : Int) := by omega
    have hp4 : 2 ^ pE C <= 2 ^ 11 := aKY (by omega) (by omega)
    have e8 : UD .i64 (X : Int) ((2 ^ (pE C - bs) - 1 : Nat) : Int) = ((X % 2 ^ (pE C - bs) : Nat) : Int) := by
     rw [aEj (by omega) (by omega), Nat.and_two_pow_sub_one_eq_mod]
    have hmod := (aA8 (B := aZ l) (left := gl) (a := bs) (m := pE C) (by omega) hbm).2
    rw [<- hXe] at hmod
    have e9 : (i : Int) + 1 = ((i + 1 : Nat) : Int) := by omega
    simp (disch := omega) only [k3, aH, e9, aA, f1, fE, e5, aP, pA, aKO, e6, e7, xA, e8]
    refine ⟨n - (i + 1), by omega, i + 1, pE C - bs, v9, rfl, ?_, by omega, by omega, ?_, ?_, ?_⟩
    .rw [hBs, hmod]
    .rw [hBs]
     show sM w9 (hi + 1) 1 v9 (i + 1) (u8n (gs ++ [sy]))
     unfold u8n
     rw [aLe]
     exact ⟨o9.1, o9.2.imp id fun ⟨b, c, rest, q1, q2, q3⟩ => ⟨b, c, rest, q1, q2.1, q3⟩⟩
    .rw [hBs]
     have : gl - (bs : Int) - ((pE C - bs : Nat) : Int) = gl - (th : Int) - ((pE C - th : Nat) : Int) := by omega
     show Bwd w9 w1.heap.size hi l (gl - (bs : Int) - ((pE C - bs : Nat) : Int))
     rw [this]
     exact hB5.ext x59 (fun b _ hb h => by omega) (by omega)
    .exact (x4.seq x45).trans x59 fun y _ h => by omega
   .have d1 : decide ((i : Int) < (n : Int)) = false := by simp; omega
    have hin : i = n := by omega
    subst hin
    unfold wI
    simp (disch := omega) only [aD, aU, d1, fZ, jF, and_true, fG, aKP, bN, aP, aA, bO, gZ, true_and, aE]
    refine (aqJ hB4).mono ?_
    rintro r w5 ⟨rfl, rfl⟩
    have e1 : gl - (th : Int) + (th : Int) = gl := by omega
    have xall : aW w w5 eU := x03.trans x4 fun y hy h => by omega
    have hR : rS C l i = if gl < 0 then .error 11 else if 0 < gl then .error 15 else .ok gs := by unfold rS; rw [he]; simp only [hg]
    rw [hRR, hR]
    by_cases g1 : gl < 0
    .have d2 : decide (gl < 0) = true := decide_eq_true g1
     rw [if_pos g1]
     simp (disch := omega) only [bN, e1, aP, aA, aU, d2, dH, aG]
     exact ⟨rfl, xall⟩
    .have d2 : decide (gl < 0) = false := decide_eq_false g1
     rw [if_neg g1]
     by_cases g2 : 0 < gl
     .have d3 : decide (0 < gl) = true := decide_eq_true g2
      rw [if_pos g2]
      simp (disch := omega) only [bN, e1, aP, aA, aU, d2, dH, d3, aG, aE]
      exact ⟨rfl, xall⟩
     .have d3 : decide (0 < gl) = false := decide_eq_false g2
      rw [if_neg g2]
      simp (disch := omega) only [bN, e1, aP, aA, aU, d2, dH, d3, aE]
      have hgl : gs.length = i := by have := VA (C := C) (m := pE C) (B := aZ l) (n := i) (left := (k : Int)); rw [hg] at this; exact this
      refine ⟨⟨ov, rfl, ?_⟩, xall⟩
      rw [hgl]
      rcases os.2 with h0 | ⟨b, c, rest, h1, h2, h3⟩
      .exact ⟨os.1, .inl h0⟩
      .exact ⟨os.1, .inr ⟨b, c, rest, h1, by omega, h3⟩⟩
theorem AtI.sub {a : Option Addr} {n c m c' k sz lo hi : Nat} (h : AtI (.slice a n c) lo hi) (hm : m <= n) : AtI (.slice (mU a c k sz) m c') lo hi := by
 intro M hM hin
 cases m with
 | zero => unfold inB at hin; split at hin <;> simp_all
 | succ m =>
   obtain ⟨n', rfl⟩ : ∃ n', n = n' + 1 := ⟨n - 1, by omega⟩
   have h1 := h M hM
   cases a with
   | none => unfold mU at hin; split at hin <;> exact hin
   | some x =>
     unfold mU at hin
     have h2 : M x.block := by
      split at hin
      .exact hin
      .rw [aLC] at hin
       have e : (x.add (k * sz)).block = x.block := by unfold Addr.add; split <;> rfl
       have h3 : M (x.add (k * sz)).block := hin
       rwa [e] at h3
     exact h1 h2
abbrev Bl (w : aNj) (v : aNk) (L : List Bool) : Prop := Sl w v (L.map Value.bool)
theorem aGU {w : aNj} {v : aNk} {L : List Bool} (h : Bl w v L) (h0 : 0 < L.length) : ∃ b off c, v = .slice (some ⟨b, off, none⟩) L.length c /\ L.length <= c /\ ∀ i, (h : i < L.length) -> w.cell? ⟨b, off + i, none⟩ = some (.bool L[i]) := by
 obtain ⟨b, off, c, rfl, hc, hcell⟩ := h.openV (by simpa using h0)
 refine ⟨b, off, c, by rw [aKZ], by simpa using hc, fun i hi => ?_⟩
 have := hcell i (by simpa using hi)
 simpa using this
theorem Gz {w : aNj} {v : aNk} {L : List Bool} (h : Bl w v L) : ∃ a c, v = .slice a L.length c /\ L.length <= c := by
 obtain ⟨a, n, c, rfl, hn, hc, _⟩ := h
 rw [aKZ] at hn
 subst hn
 exact ⟨a, c, rfl, hc⟩
theorem aHm (c : UInt8) : SK c = yK c.toNat 8 := rfl
theorem awI {x : ByteArray} {w : aNj} (hl : x.size <= 1000000) :
 aS pg GJ #[.string x] w (fun r w' => sM w' w.heap.size 1 r (8 * x.size) ((aZ (gA x)).map Value.bool) /\ aW w w' eU) := by
 refine asN ?_
 have hll := gR x
 unfold ayX NI Na Nx MT Ng MV MZ
 refine cU.rule (fun m (t : aNk × aNk) w' => ∃ (i : Nat) (v : aNk), m = x.size - i /\ t = (v, .int .i64 i) /\ i <= x.size /\ sM w' w.heap.size 1 v (8 * i) ((aZ ((gA x).take i)).map Value.bool) /\ aW w w' (fun y => w.heap.size <= y)) x.size
  ⟨0, _, rfl, rfl, by omega, sM.nil _ _ _, aW.refl _ _⟩ ?_
 rintro m t w1 ⟨i, v, rfl, rfl, hi, o1, x1⟩
 unfold Fk O9
 by_cases hlt : i < x.size
 .have d1 : decide ((i : Int) < (x.size : Int)) = true := by simp; omega
  obtain ⟨c, hc⟩ : ∃ c, c = (gA x)[i]'(by omega) := ⟨_, rfl⟩
  have hg : (x[i]'hlt).toNat = c.toNat := by rw [hc, PV]
  have htk : aZ ((gA x).take (i + 1)) = aZ ((gA x).take i) ++ yK c.toNat 8 := by
   rw [aLL, aKW (by omega), S6, <- hc, Option.toList, aZ, aZ, aLG, aHm]
  have hcl : c.toNat < 256 := aLv c
  generalize c.toNat = y at *
  unfold RL Ra YY Rx
  simp (disch := omega) only [aD, dS, jA, aKO, hg, aA, aU, d1, aG]
  unfold QX Qn
  refine cU.rule (fun m (t : aNk × aNk × aNk) w' => ∃ (k : Nat) (v : aNk), m = 8 - k /\ t = (v, .int .u8 (y / 2 ^ k : Nat), .int .i64 k) /\ k <= 8 /\ sM w' w.heap.size 1 v (8 * i + k) ((aZ ((gA x).take i) ++ yK y k).map Value.bool) /\ aW w w' (fun y => w.heap.size <= y)) 8
   ⟨0, v, rfl, by simp, by omega, by simpa [O6] using o1, x1⟩ ?_
  rintro m t w2 ⟨k, v2, rfl, rfl, hk, o2, x2⟩
  unfold IZ
  by_cases hk8 : k < 8
  .have d2 : decide ((k : Int) < 8) = true := by simp; omega
   obtain ⟨z, hz⟩ : ∃ z, z = y / 2 ^ k := ⟨_, rfl⟩
   have hz2 : y / 2 ^ (k + 1) = z / 2 := by rw [hz, aLr, aMl]
   have hzl : z < 256 := by have := aLP y (2 ^ k); omega
   have e1 : (z : Int).tmod 2 = ((z % 2 : Nat) : Int) := by rw [aLg (by omega)]; omega
   have e2 : (z : Int).tdiv 2 = ((z / 2 : Nat) : Int) := by rw [aK6 (by omega)]; omega
   have hbit : y.testBit k = decide (z % 2 = 1) := by rw [aMM, hz]
   have e3 : (((z % 2 : Nat) : Int) == 1) = y.testBit k := by
    rw [hbit]
    have : z % 2 = 0 ∨ z % 2 = 1 := by omega
    rcases this with h | h <;> simp [h]
   have hbs := abG y k
   generalize y.testBit k = bt at *
   rw [<- hz]
   simp (disch := omega) only [aD, aU, d2, rH, e1, oP, e2, xB, bN, aP, aA, dU, e3, aG]
   refine aDZ (cells := #[.bool bt]) (by decide) (by decide) (by kernel_rfl) fun w3 o3 x3 s3 => ?_
   refine abI (o2.ext x3 (fun _ _ h => h)) (o3.cl (off := 0) (l := [.bool bt]) (n := 1) rfl (fun i hi => by rw [aKP])) (by simp [one]) (aLT x2.size x3.size) (by omega) fun v4 w4 o4 x4 => ?_
   refine ⟨8 - (k + 1), by omega, k + 1, v4, rfl, ?_, by omega, ?_, ?_⟩
   .rw [hz2] <;> rfl
   .rw [hbs, <- aLj, aLe]
    exact o4
   .exact (x2.seq (x3.mono fun _ _ h => h.elim)).seq x4
  .have d2 : decide ((k : Int) < 8) = false := by simp; omega
   obtain rfl : k = 8 := by omega
   rw [<- htk] at o2
   unfold IK
   simp (disch := omega) only [aD, aU, d2, rH, oP, bN, aP, aA, dU, aE]
   exact ⟨x.size - (i + 1), by omega, i + 1, _, rfl, rfl, by omega, o2, x2⟩
 .have d1 : decide ((i : Int) < (x.size : Int)) = false := by simp; omega
  obtain rfl : i = x.size := by omega
  rw [aLn (by omega)] at o1
  unfold II
  simp (disch := omega) only [aD, dS, aA, aU, d1, aE]
  exact ⟨o1, x1.mono fun b hb h => Nat.not_le_of_lt hb h⟩
theorem aqP {L : List Bool} {v : aNk} {w : aNj} (h : Bl w v L) (hl : L.length <= 60) :
 aS pg Bt #[v] w (fun r w' => r = .int .u64 (vX L : Nat) /\ w' = w) := by
 refine aiP ?_
 obtain ⟨a, c, hv, hc⟩ := Gz h
 subst hv
 unfold afB HE Hi Lz Jy LA
 simp (disch := omega) only [aD, lE, aA, fE, aP]
 unfold KG Jx
 refine cU.rule (fun m (t : aNk × aNk) w' => t = (.int .u64 (vX (L.drop m) : Nat), .int .i64 ((m : Int) - 1)) /\ m <= L.length /\ w' = w) L.length
  ⟨by rw [List.drop_length] <;> rfl, by omega, rfl⟩ ?_
 rintro m t w1 ⟨rfl, hm, rfl⟩
 unfold Di Kw
 cases m with
 | zero =>
   have d1 : decide ((0 : Int) <= ((0 : Nat) : Int) - 1) = false := rfl
   unfold C9
   simp (disch := omega) only [aD, nE, d1, oL, aA, bN, and_true, aE]
   simp
 | succ j =>
   have e0 : ((j + 1 : Nat) : Int) - 1 = (j : Int) := by omega
   have d1 : decide ((0 : Int) <= (j : Int)) = true := by simp
   obtain ⟨b, off, c', e, _, hcell⟩ := aGU h (by omega)
   cases e
   have g := hcell j (by omega)
   have hd : L.drop j = L[j] :: L.drop (j + 1) := aLo (by omega)
   have hlt := afK (L.drop j)
   rw [aK7] at hlt
   have hp : 2 ^ (L.length - j) <= 2 ^ 60 := aKY (by omega) (by omega)
   generalize L[j] = bt at *
   have hn : vX (L.drop j) = bt.toNat + 2 * vX (L.drop (j + 1)) := by rw [hd, vX]
   generalize vX (L.drop (j + 1)) = x at *
   cases bt with
   | true =>
     have hn : vX (L.drop j) = 1 + 2 * x := hn
     rw [e0]
     simp (disch := omega) only [aD, nE, d1, oL, kR, nN, aKO, aA, tW, bN, g, aH, aG]
     unfold zZ
     simp (disch := omega) only [aD, fE, aP, aA, and_true]
     exact ⟨j, by omega, by rw [hn]; simp; omega, by omega⟩
   | false =>
     have hn : vX (L.drop j) = 2 * x := by rw [hn]; simp
     rw [e0]
     simp (disch := omega) only [aD, nE, d1, oL, kR, nN, aKO, aA, tW, bN, g, aH, aE, aG]
     unfold zZ
     simp (disch := omega) only [aD, fE, aP, aA, and_true]
     exact ⟨j, by omega, by rw [hn]; simp; omega, by omega⟩
end Go.Proofs.YtgpimhlgaokobaaGreat
namespace Go.Pu
def rW : List UInt8 -> Nat
 | [] => 0
 | c :: l => c.toNat + 256 * rW l
theorem PT : ∀ l : List UInt8, rW l < 256 ^ l.length
 | [] => by simp [rW]
 | c :: l => by
   have := PT l
   have hc := c.toNat_lt
   rw [rW, aLa, aLr]; omega
theorem apF (c : UInt8) : ∀ l : List UInt8, rW (l ++ [c]) = rW l + 256 ^ l.length * c.toNat
 | [] => by simp [rW]
 | d :: l => by
   rw [aLV, rW, apF c l, rW, aLa, aLr, aM1, aMm, aLm (256 ^ l.length) 256, aMZ]
theorem aD1 (i : Nat) : 256 ^ i = 2 ^ (8 * i) := by rw [Nat.pow_mul]
theorem aHY (l : List UInt8) (c : UInt8) : rW l ||| (c.toNat * 2 ^ (8 * l.length)) = rW (l ++ [c]) := by
 have := PT l
 rw [aD1] at this
 rw [ayU this, apF, aD1]
def pQ (x : Nat) : Nat -> List UInt8
 | 0 => []
 | n + 1 => UInt8.ofNat (x % 256) :: pQ (x / 256) n
theorem oC : ∀ (n x : Nat), (pQ x n).length = n
 | 0, _ => rfl
 | n + 1, x => by rw [pQ, aLa, oC n]
theorem anV : ∀ (n x : Nat), rW (pQ x n) = x % 256 ^ n
 | 0, x => by simp [pQ, rW, Nat.mod_one]
 | n + 1, x => by
   rw [pQ, rW, anV n, aLr, aLm (256 ^ n) 256, Nat.mod_mul]
   have : (UInt8.ofNat (x % 256)).toNat = x % 256 := by
    rw [UInt8.toNat_ofNat']; omega
   rw [this]
theorem aAc : ∀ (n x : Nat), pQ x (n + 1) = pQ x n ++ [UInt8.ofNat (x / 256 ^ n % 256)]
 | 0, x => by simp [pQ]
 | n + 1, x => by
   rw [pQ, aAc n (x / 256), pQ, aLV, aMl, aLr, aLm (256 ^ n) 256]
end Go.Pu
namespace Go.Proofs.YtgpimhlgaokobaaGreat
open Go Go.En Go.Pu
set_option maxRecDepth 4000
def AtS (v : aNk) (S : Nat -> Prop) : Prop := ∀ M : Nat -> Prop, (∀ b, S b -> ¬ M b) -> ¬ inB v M
theorem AtI.toS {v : aNk} {lo hi : Nat} {S : Nat -> Prop} (h : AtI v lo hi) (hS : ∀ b, lo <= b -> b < hi -> S b) : AtS v S := fun M hM => h M fun b h1 h2 => hM b (hS b h1 h2)
theorem AtS.mono {v : aNk} {S T : Nat -> Prop} (h : AtS v S) (hT : ∀ b, S b -> T b) : AtS v T := fun M hM => h M fun b hb => hM b (hT b hb)
theorem AtS.toI {v : aNk} {S : Nat -> Prop} {lo hi : Nat} (h : AtS v S) (hS : ∀ b, S b -> lo <= b /\ b < hi) : AtI v lo hi := fun M hM => h M fun b hb => hM b (hS b hb).1 (hS b hb).2
theorem AtS.nil (S : Nat -> Prop) : AtS (.slice none 0 0) S := fun M _ h => h
theorem AtS.sub {a : Option Addr} {n c m c' k mx sz : Nat} {S : Nat -> Prop} (h : AtS (.slice a n c) S) (hm : m <= n) : AtS (.slice (mU a mx k sz) m c') S := by
 intro M hM hin
 cases m with
 | zero => unfold inB at hin; split at hin <;> simp_all
 | succ m =>
   obtain ⟨n', rfl⟩ : ∃ n', n = n' + 1 := ⟨n - 1, by omega⟩
   have h1 := h M hM
   cases a with
   | none => unfold mU at hin; split at hin <;> exact hin
   | some x =>
     unfold mU at hin
     have h2 : M x.block := by
      split at hin
      .exact hin
      .rw [aLC] at hin
       have e : (x.add (k * sz)).block = x.block := by unfold Addr.add; split <;> rfl
       have h3 : M (x.add (k * sz)).block := hin
       rwa [e] at h3
     exact h1 h2
theorem aJV {w : aNj} {a : Option Addr} {n c : Nat} {l : List aNk} (h : Sl w (.slice a n c) l) {k : Nat} (hk : k <= n) : Sl w (.slice (mU a k 0 1) (k - 0) (k - 0)) (l.take k) := by
 obtain ⟨a', n', c', e, hn, hc, h⟩ := h
 cases e
 refine ⟨_, _, _, rfl, by rw [aK2]; omega, aK1 _, fun h0 => ?_⟩
 obtain ⟨b, off, rfl, h2⟩ := h (by omega)
 have hs : mU (some ⟨b, off, none⟩) k 0 1 = some ⟨b, off + 0 * 1, none⟩ := by unfold mU; rw [if_neg (by omega)] <;> rfl
 refine ⟨b, off, by rw [hs]; simp, fun i hi => ?_⟩
 rw [aLB (by omega)]
 exact h2 i (by omega)
def Rdr (w : aNj) (lo hi p : Nat) (l : List UInt8) (e : Int) : Prop := lo <= p /\ p < hi /\ ∃ v, eM w p [v, .int .i64 e] /\ Bs w v l /\ AtS v (fun b => lo <= b /\ b < hi /\ b ≠ p)
theorem Rdr.ext {w w' : aNj} {lo hi p : Nat} {l : List UInt8} {e : Int} {M : Nat -> Prop} (h : Rdr w lo hi p l e) (x : aW w w' M) (hM : ∀ b, lo <= b -> b < hi -> ¬ M b) : Rdr w' lo hi p l e := by
 obtain ⟨h0, h0', v, h1, h2, h3⟩ := h
 exact ⟨h0, h0', v, h1.ext x (hM _ h0 h0'), h2.ext x (h3 M fun b hb => hM b hb.1 hb.2.1), h3⟩
theorem Rdr.lt {w : aNj} {lo hi p : Nat} {l : List UInt8} {e : Int} (h : Rdr w lo hi p l e) : p < w.heap.size := by
 obtain ⟨_, _, v, h1, _⟩ := h; exact h1.lt
theorem arN {v : aNk} {l : List UInt8} {w : aNj} (h : Bs w v l) (hl : l.length <= 1000000000) :
 aS pg uN #[v] w (fun r w' => ∃ p, r = .pointer (some ⟨p, 0, none⟩) /\ Rdr w' w.heap.size w'.heap.size p l 0 /\ aW w w' eU) := by
 refine Vb ?_
 unfold Se Cj
 refine (Is h hl).mono ?_
 rintro r w1 ⟨ho, x1⟩
 have hat := sM.atI ho
 have hs := ho.sl
 obtain ⟨va, vc, rfl⟩ := ho.len
 simp (disch := omega) only [aD, iE, aA]
 refine nK fun w2 o2 x2 s2 => ?_
 have o2 : eM w2 w1.heap.size [.slice va l.length vc, .int .i64 0] := o2
 have hz := o2.lt
 exact ⟨w1.heap.size, rfl, ⟨x1.size, hz, _, o2, hs.ext x2 (bZ _), hat.toS fun b h1 h2 => ⟨h1, by omega, by omega⟩⟩, x1.seq x2⟩
def Af (l : List UInt8) (e : Int) (n : Nat) : List UInt8 × List UInt8 × Int := if e ≠ 0 then ([], l, e) else if l.length < n then ([], l, 10) else (l.take n, l.drop n, 0)
theorem aCd {lo hi p n : Nat} {l : List UInt8} {e : Int} {w : aNj} (h : Rdr w lo hi p l e) (hl : l.length <= 1000000000) (hn : n <= 1000000000) :
 aS pg sP #[.pointer (some ⟨p, 0, none⟩), .int .i64 n, .bool true] w (fun r w' => Bs w' r (Af l e n).1 /\ AtS r (fun b => lo <= b /\ b < hi /\ b ≠ p) /\ Rdr w' lo hi p (Af l e n).2.1 (Af l e n).2.2 /\ aW w w' (fun y => y = p)) := by
 refine SO ?_
 unfold OM Ar
 have h' := h
 obtain ⟨h0, h0', v, o, hb, hat⟩ := h'
 obtain ⟨va, vc, rfl, hvc⟩ := hb.len
 rw [aKZ] at hb hat o hvc
 have c0 := o.cell (off := 0)
 have c1 := o.cell (off := 1)
 simp only [aKM, aKN] at c0 c1
 by_cases he : e = 0
 rotate_left
 .have n1 : (e != 0) = true := by simpa using he
  have ht : Af l e n = ([], l, e) := by unfold Af; rw [if_pos he]
  rw [ht]
  simp (disch := omega) only [aD, qR, pM, aLb, aA, fQ, aKP, fT, eQ, aE, gQ, c1, aH, dC, n1, aG]
  exact ⟨Sl.nil _, AtS.nil _, h, aW.refl _ _⟩
 subst he
 have n1 : ((0 : Int) != 0) = false := rfl
 by_cases hsh : l.length < n
 .have d1 : decide ((l.length : Int) < (n : Int)) = true := by simp; omega
  have ht : Af l 0 n = ([], l, 10) := by unfold Af; rw [if_neg (by decide), if_pos hsh]
  rw [ht]
  simp (disch := omega) only [aD, qR, pM, aLb, aA, fQ, aKP, fT, eQ, aE, gQ, c1, aH, dC, n1, c0, aV, dH, d1, aG]
  refine EV o rfl (by simp) fun w1 o1 x1 s1 => ?_
  simp only [aKS, aKR] at o1
  exact ⟨Sl.nil _, AtS.nil _, ⟨h0, h0', _, o1, hb.ext x1 (hat _ fun b hb => hb.2.2), hat⟩, x1⟩
 .have d1 : decide ((l.length : Int) < (n : Int)) = false := by simp; omega
  have ht : Af l 0 n = (l.take n, l.drop n, 0) := by unfold Af; rw [if_neg (by decide), if_neg hsh]
  rw [ht]
  simp (disch := omega) only [aD, qR, pM, aLb, aA, fQ, aKP, fT, eQ, aE, gQ, c1, aH, dC, n1, c0, aV, dH, d1, lB, aKO, eH]
  refine yM o rfl (by simp [one]) fun w1 o1 x1 s1 => ?_
  simp only [aKS, aKR] at o1
  have hbn : Bs w (.slice (mU va n 0 1) (n - 0) (n - 0)) (l.take n) := by
   have := aJV hb (k := n) (by omega)
   rwa [<- aME] at this
  have hbd : Bs w (.slice (mU va vc n 1) (l.length - n) (vc - n)) (l.drop n) := by
   have := hb.drop' (k := n) (by omega)
   rwa [<- aMx] at this
  have hn1 := hat.sub (mx := n) (k := 0) (sz := 1) (m := n - 0) (c' := n - 0) (by omega)
  have hn2 := hat.sub (mx := vc) (k := n) (sz := 1) (m := l.length - n) (c' := vc - n) (by omega)
  exact ⟨hbn.ext x1 (hn1 _ fun b hb => hb.2.2), hn1, ⟨h0, h0', _, o1, hbd.ext x1 (hn2 _ fun b hb => hb.2.2), hn2⟩, x1⟩
theorem aHl {lo hi p : Nat} {l : List UInt8} {e : Int} {w : aNj} (h : Rdr w lo hi p l e) :
 aS pg wJ #[.pointer (some ⟨p, 0, none⟩)] w (fun r w' => r = .int .i64 l.length /\ w' = w) := by
 refine R0 ?_
 unfold MC Al
 obtain ⟨h0, h0', v, o, hb, hat⟩ := h
 obtain ⟨va, vc, rfl, hvc⟩ := hb.len
 rw [aKZ] at hb hat o hvc
 have c0 := o.cell (off := 0)
 simp only [aKM, aKN] at c0
 simp (disch := omega) only [aD, eF, aK8, qR, aA, fT, eQ, and_true, c0, aH, aV, aE]
theorem auT {lo hi p : Nat} {l : List UInt8} {e : Int} {w : aNj} (h : Rdr w lo hi p l e) :
 aS pg rM #[.pointer (some ⟨p, 0, none⟩)] w (fun r w' => r = .int .i64 e /\ w' = w) := by
 refine TT ?_
 unfold Qh Bp
 obtain ⟨h0, h0', v, o, hb, hat⟩ := h
 have c1 := o.cell (off := 1)
 simp only [aKM, aKN] at c1
 simp (disch := omega) only [aD, eF, aK8, qR, aA, fQ, aKP, gQ, and_true, c1, aH, aE]
theorem aFw {lo hi p n : Nat} {l : List UInt8} {e : Int} {w : aNj} (h : Rdr w lo hi p l e) (hl : l.length <= 1000000000) (hn : n <= 1000000000) :
 aS pg vJ #[.pointer (some ⟨p, 0, none⟩), .int .i64 n] w (fun r w' => Bs w' r (Af l e n).1 /\ AtS r (fun b => lo <= b /\ b < hi /\ b ≠ p) /\ Rdr w' lo hi p (Af l e n).2.1 (Af l e n).2.2 /\ aW w w' (fun y => y = p)) := by
 refine Q4 ?_
 unfold LV yW
 have d1 : decide ((0 : Int) <= (n : Int)) = true := by simp
 simp (disch := omega) only [aD, eF, aK8, nE, d1, aA, aE]
 refine (aCd h hl hn).mono ?_
 rintro r w1 hr
 exact hr
theorem avR {lo hi p n : Nat} {l : List UInt8} {e : Int} {w : aNj} (h : Rdr w lo hi p l e) (hl : l.length <= 1000000000) (hn : 1 <= n /\ n <= 8) :
 aS pg rE #[.pointer (some ⟨p, 0, none⟩), .int .i64 n] w (fun r w' => r = .int .u64 (rW (Af l e n).1 : Nat) /\ Rdr w' lo hi p (Af l e n).2.1 (Af l e n).2.2 /\ aW w w' (fun y => y = p)) := by
 refine PB ?_
 unfold I2 xI xO xL xW yC
 have d1 : decide ((1 : Int) <= (n : Int)) = true := by simp; omega
 have d2 : decide ((n : Int) <= 8) = true := by simp; omega
 simp (disch := omega) only [aD, eF, aK8, nE, d1, aA, pZ, bH, if_true, bM, zL, d2, aE]
 refine (aCd h hl (by omega)).mono ?_
 rintro r w1 ⟨hb, hat, hr, x1⟩
 obtain ⟨t, ht⟩ : ∃ t, t = (Af l e n).1 := ⟨_, rfl⟩
 have htl : t.length <= 8 := by
  rw [ht]; unfold Af
  split
  .simp
  .split
   .simp
   .simp; omega
 rw [<- ht] at hb ⊢
 obtain ⟨va, vc, rfl, hvc⟩ := hb.len
 rw [aKZ] at hb hvc hat
 simp (disch := omega) only [aKZ, aV, aA]
 unfold xQ xM
 refine cU.rule (fun m s w' => ∃ i : Nat, m = t.length - i /\ i <= t.length /\ s = (.int .u64 (rW (t.take i) : Nat), .int .i64 i) /\ w' = w1) t.length ⟨0, rfl, by omega, rfl, rfl⟩ ?_
 rintro m s w2 ⟨i, rfl, hi, rfl, hw⟩
 rw [hw]; clear hw w2
 unfold tF
 by_cases hlt : i < t.length
 .have d3 : decide ((i : Int) < (t.length : Int)) = true := by simp; omega
  obtain ⟨c, hc⟩ : ∃ c, c = t[i]'hlt := ⟨_, rfl⟩
  have htk : t.take (i + 1) = t.take i ++ [c] := by rw [aLL, aKW hlt, <- hc] <;> rfl
  have hor := aHY (t.take i) c
  rw [<- htk, aK2, aLH (by omega)] at hor
  have hcl : c.toNat < 256 := aLv c
  obtain ⟨b, off, c', hv, hcc, hcell⟩ := hb.openV (by rw [aKZ]; omega)
  have g1 := hcell i (by rw [aKZ]; exact hlt)
  rw [aKZ] at hv
  cases hv
  rw [aL3, <- hc] at g1
  simp only [vC] at g1
  generalize c.toNat = cx at *
  have hp : 2 ^ (8 * i) <= 2 ^ 56 := aKY (by omega) (by omega)
  have hm : cx * 2 ^ (8 * i) <= 255 * 2 ^ 56 := Nat.mul_le_mul (by omega) hp
  have hb0 := PT (t.take i)
  have hb1 := PT (t.take (i + 1))
  rw [aK2, aLH (by omega)] at hb0 hb1
  have hq : 256 ^ i <= 256 ^ 7 := aKY (by omega) (by omega)
  have e0 : ((8 : Int) * (i : Int)) = ((8 * i : Nat) : Int) := by omega
  have e5 : IntKind.u64.wrap ((cx : Int) * 2 ^ (min (8 * i) IntKind.u64.bits)) = ((cx * 2 ^ (8 * i) : Nat) : Int) := by
   rw [show min (8 * i) IntKind.u64.bits = 8 * i from aLH (by have : IntKind.u64.bits = 64 := rfl
                                                              omega)]
   have e : (cx : Int) * 2 ^ (8 * i) = ((cx * 2 ^ (8 * i) : Nat) : Int) := by simp
   rw [e]
   exact kR (by omega) (by omega)
  have e6 := aAZ (a := rW (t.take i)) (b := cx * 2 ^ (8 * i)) (by omega) (by omega)
  rw [hor] at e6
  have e7 : IntKind.u64.wrap (cx : Int) = (cx : Int) := kR (by omega) (by omega)
  simp (disch := omega) only [aD, aU, d3, dM, aKO, oL, e0, aP, bN, aA, fY, kR, iH, g1, aH, iP, e7, pA, e5, KZ, e6, and_true, aG]
  exact ⟨t.length - (i + 1), by omega, i + 1, rfl, by omega, rfl⟩
 .have d3 : decide ((i : Int) < (t.length : Int)) = false := by simp; omega
  obtain rfl : i = t.length := by omega
  simp (disch := omega) only [aD, aU, d3, oL, aP, bN, aA, fY, kR, aE]
  unfold tE
  rw [aMz]
  exact ⟨rfl, hr, x1⟩
theorem ayZ {v : aNk} {l : List UInt8} {w : aNj} (h : Bs w v l) (hl : l.length <= 100000) (hd : jD (cF l) = 0) :
 aS pg Aj #[v] w (fun r w' => r = .tuple #[.agg #[.int .i64 0, .slice none 0 0], .int .i64 1] /\ aW w w' eU) := by
 refine S1 ?_
 unfold WA CY Dj
 refine wW fun w1 o1 x1 s1 => ?_
 refine (anH (h.ext x1 (bZ _)) hl hd).mono ?_
 rintro r w2 ⟨rfl, rfl⟩
 have n0 : ((1 : Int) != 0) = true := rfl
 simp (disch := omega) only [aD, pP, pR, kJ, aA, dC, n0, aG]
 refine uZ o1 rfl (by simp [one]) (by simp) fun w3 o3 x3 s3 => ?_
 refine Xi o3 (by simp [bK]) ?_
 simp only [bK, aKS, aKR, aKU, aKT, aKX]
 exact ⟨trivial, x1.new x3 (aK1 _)⟩
abbrev wC (wl : List UInt8) : List (Nat × Nat) := pH (cF wl) (jD (cF wl))
structure WOk (wl : List UInt8) : Prop where
 d0 : jD (cF wl) ≠ 0
theorem WOk.full {wl : List UInt8} (h : jD (cF wl) ≠ 0) : XF (wC wl) (pE (wC wl)) /\ pE (wC wl) <= 11 /\ (wC wl).length <= 256 := by
 obtain ⟨h1, h2⟩ := awM rfl h
 have h3 := yA rfl h
 exact ⟨h1, aLT h2 h3.2.1, by rw [uC]; exact h3.2.2.2.1⟩
def UC (wl s : List UInt8) (n : Nat) : Except Int (List Nat) := if jD (cF wl) = 0 then .error 1 else rS (wC wl) s n
theorem aCD {lv v : aNk} {wl l : List UInt8} {n : Nat} {w : aNj} (hw : Bs w lv wl) (hwl : wl.length <= 100000) (h : Bs w v l) (hl : l.length <= 1000000) (hn : n <= 131072) :
 aS pg Ip #[lv, v, .int .i64 n] w (fun r w' => TR w' w.heap.size (UC wl l n) r /\ aW w w' eU) := by
 refine aqI ?_
 unfold arL Mz
 by_cases hd : jD (cF wl) = 0
 .refine (ayZ hw hwl hd).mono ?_
  rintro r w1 ⟨rfl, x1⟩
  have n0 : ((1 : Int) != 0) = true := rfl
  simp (disch := omega) only [aD, pP, pR, aU, aA, bH, dC]
  refine wW fun w2 o2 x2 s2 => ?_
  refine uZ o2 rfl (by simp [one]) (by simp) fun w3 o3 x3 s3 => ?_
  simp (disch := omega) only [n0, aG]
  unfold UC
  rw [if_pos hd]
  exact ⟨rfl, x1.seq (x2.new x3 (aK1 _))⟩
 .obtain ⟨hF, hm, hC⟩ := WOk.full hd
  refine (aC1 hw rfl hd).mono ?_
  rintro r w1 ⟨t, rfl, ht, x1⟩
  have n0 : ((0 : Int) != 0) = false := rfl
  obtain ⟨b, rfl, hb, ob⟩ := ht
  simp (disch := omega) only [aD, pP, pR, aU, aA, bH, dC]
  refine wW fun w2 o2 x2 s2 => ?_
  refine uZ o2 rfl (by simp [one]) (by simp) fun w3 o3 x3 s3 => ?_
  simp only [bK, aKS, aKR] at o3
  have x13 : aW w1 w3 eU := x2.new x3 (aK1 _)
  have x03 := x1.seq x13
  have d1 : decide ((n : Int) < 0) = false := decide_eq_false (by omega)
  have d2 : decide (131072 < (n : Int)) = false := decide_eq_false (by omega)
  have q1 := Nv (off := 0) o3 (by simp)
  simp only [aKU, aKT, aKX] at q1
  simp (disch := omega) only [n0, d1, dG, aKQ, if_false, bM, dH, d2, aA, q1, aE]
  refine (aCU (base := 0) hF hm hC ⟨b, rfl, aMJ _, ob.ext x13 (fun h => h)⟩ (h.ext x03 (bZ _)) hl hn).mono ?_
  rintro r w4 ⟨hr, x4⟩
  unfold UC
  rw [if_neg hd]
  have z03 := x03.size
  cases hs : rS (wC wl) l n with
  | error e =>
    rw [hs] at hr
    obtain rfl : r = .tuple #[.slice none 0 0, .int .i64 e] := hr
    simp (disch := omega) only [pP, pR, aA]
    exact ⟨rfl, x03.seq x4⟩
  | ok m =>
    rw [hs] at hr
    obtain ⟨ov, rfl, os⟩ := hr
    simp (disch := omega) only [pP, pR, aA]
    refine ⟨⟨ov, rfl, ?_⟩, x03.seq x4⟩
    rcases os.2 with h0 | ⟨b, c, rest, h1, h2, h3⟩
    .exact ⟨os.1, .inl h0⟩
    .exact ⟨os.1, .inr ⟨b, c, rest, h1, by omega, h3⟩⟩
theorem aCt {n q : Nat} (hn : n <= 131072) (hq : q = (n + 3) / 4) (w : aNj) :
 aS pg Fb #[.int .i64 n] w (fun r w' => r = .tuple #[.agg #[.int .i64 (q : Nat), .int .i64 (q : Nat), .int .i64 (q : Nat), .int .i64 ((n : Int) - 3 * (q : Int))], .bool (decide (3 * (q : Int) <= (n : Int)))] /\ aW w w' eU) := by
 refine atS ?_
 unfold awN QF
 have e1 : (n : Int) + 4 - 1 = ((n + 3 : Nat) : Int) := by omega
 have e2 : ((n + 3 : Nat) : Int).tdiv 4 = (q : Int) := by rw [aK6 (by omega)]; omega
 have e3 : IntKind.i64.wrap (q : Int) = (q : Int) := aP (by omega) (by omega)
 generalize hK : (fun (t2 : aNk) (w : aNj) => _) = K
 refine To fun w1 o1 x1 s1 => ?_
 simp (disch := omega) only [hK.symm, aD, bN, aP, aA, fE, e1, oP, e2, e3, oL, nE, dD]
 refine Wb o1 rfl (by simp [one]) (by simp) fun w2 o2 x2 s2 => ?_
 refine aCv o2 (by simp [bK]) ?_
 simp only [bK, aKS, aKR, aKU, aKT, aKX]
 exact ⟨trivial, x1.new x2 (aK1 _)⟩
def Et (C : List (Nat × Nat)) : List UInt8 -> List (Nat × Nat) -> Except Int (List Nat)
 | _, [] => .ok []
 | l, (k, n) :: r => match rS C (l.take k) n with
   | .error e => .error e
   | .ok m => (match Et C (l.drop k) r with
     | .error e => .error e
     | .ok m' => .ok (m ++ m'))
def VQ (acc : List Nat) (x : Except Int (List Nat)) : Except Int (List Nat) := match x with
 | .error e => .error e
 | .ok m => .ok (acc ++ m)
theorem apB {C : List (Nat × Nat)} {l : List UInt8} {k n : Nat} {r : List (Nat × Nat)} (acc : List Nat) : VQ acc (Et C l ((k, n) :: r)) = match rS C (l.take k) n with
 | .error e => .error e
 | .ok m => VQ (acc ++ m) (Et C (l.drop k) r) := by
 rw [Et]
 cases rS C (l.take k) n with
 | error e => rfl
 | ok m =>
   simp only
   cases Et C (l.drop k) r with
   | error e => rfl
   | ok m' => simp [VQ]
def nA (l : List UInt8) : Nat := rW (l.take 2)
def nB (l : List UInt8) : Nat := rW ((l.drop 2).take 2)
def nC (l : List UInt8) : Nat := rW ((l.drop 4).take 2)
def Jh (wl l : List UInt8) (n : Nat) : Except Int (List Nat) :=
 if jD (cF wl) = 0 then .error 1
 else if n < 3 * ((n + 3) / 4) then .error 11
 else if l.length < 6 then .error 10
 else if (l.drop 6).length < nA l + nB l + nC l then .error 10
 else Et (wC wl) (l.drop 6) [(nA l, (n + 3) / 4), (nB l, (n + 3) / 4), (nC l, (n + 3) / 4), ((l.drop 6).length - (nA l + nB l + nC l), n - 3 * ((n + 3) / 4))]
def nx (l : List UInt8) : Nat -> List UInt8 × Int
 | 0 => (l, 0)
 | i + 1 => ((Af (nx l i).1 (nx l i).2 2).2.1, (Af (nx l i).1 (nx l i).2 2).2.2)
def nv (l : List UInt8) (i : Nat) : Nat := rW (Af (nx l i).1 (nx l i).2 2).1
theorem aDl (l : List UInt8) : ∀ i, (nx l i).1.length <= l.length
 | 0 => aK1 _
 | i + 1 => by
   have := aDl l i
   rw [nx]
   unfold Af
   split
   .exact this
   .split
    .exact this
    .simp only [aK7]; omega
theorem aIM {l : List UInt8} (h : 6 <= l.length) : nx l 1 = (l.drop 2, 0) /\ nx l 2 = (l.drop 4, 0) /\ nx l 3 = (l.drop 6, 0) /\ nv l 0 = nA l /\ nv l 1 = nB l /\ nv l 2 = nC l := by
 have t : ∀ m : List UInt8, 2 <= m.length -> Af m 0 2 = (m.take 2, m.drop 2, 0) := fun m hm => by
  unfold Af; rw [if_neg (by simp), if_neg (by omega)]
 have h1 : nx l 1 = (l.drop 2, 0) := by rw [nx, nx, t l (by omega)]
 have h2 : nx l 2 = (l.drop 4, 0) := by rw [nx, h1, t _ (by rw [aK7]; omega), aMK]
 have h3 : nx l 3 = (l.drop 6, 0) := by rw [nx, h2, t _ (by rw [aK7]; omega), aMK]
 refine ⟨h1, h2, h3, ?_, ?_, ?_⟩
 .unfold nv nA; rw [nx, t l (by omega)]
 .unfold nv nB; rw [h1, t _ (by rw [aK7]; omega)]
 .unfold nv nC; rw [h2, t _ (by rw [aK7]; omega)]
theorem aGn {l : List UInt8} (h : l.length < 6) : (nx l 3).2 = 10 := by
 have e : ∀ (m : List UInt8), Af m 10 2 = ([], m, 10) := fun m => rfl
 have t : ∀ m : List UInt8, 2 <= m.length -> Af m 0 2 = (m.take 2, m.drop 2, 0) := fun m hm => by
  unfold Af; rw [if_neg (by simp), if_neg (by omega)]
 have b : ∀ m : List UInt8, m.length < 2 -> Af m 0 2 = ([], m, 10) := fun m hm => by
  unfold Af; rw [if_neg (by simp), if_pos hm]
 rcases aK9 l.length 2 with h1 | h1
 .rw [nx, nx, nx, nx, b l h1] <;> rfl
 .rcases aK9 l.length 4 with h2 | h2
  .rw [nx, nx, nx, nx, t l h1]; simp only; rw [b _ (by rw [aK7]; omega)] <;> rfl
  .rw [nx, nx, nx, nx, t l h1]; simp only; rw [t _ (by rw [aK7]; omega)]; simp only; rw [b _ (by rw [aK7, aK7]; omega)]
theorem ayM {l : List UInt8} {e : Int} : rW (Af l e 2).1 < 65536 := by
 have h : ∀ m : List UInt8, m.length <= 2 -> rW m < 65536 := fun m hm => by
  match m, hm with
  | [], _ => decide
  | [a], _ => have := aLv a; simp [rW]; omega
  | [a, b], _ => have := aLv a; have := aLv b; simp [rW]; omega
 apply h
 unfold Af
 split
 .simp
 .split
  .simp
  .simp only [aK2]; omega
def l4 (l : List UInt8) (i : Nat) (d : Int) : List aNk := [.int .i64 (if 0 < i then nv l 0 else 0 : Nat), .int .i64 (if 1 < i then nv l 1 else 0 : Nat), .int .i64 (if 2 < i then nv l 2 else 0 : Nat), .int .i64 d]
theorem aI5 (l : List UInt8) {i : Nat} (h : i < 3) : (l4 l i 0).set i (.int .i64 (nv l i : Nat)) = l4 l (i + 1) 0 := by
 rcases (show i = 0 ∨ i = 1 ∨ i = 2 by omega) with rfl | rfl | rfl <;> rfl
theorem Ah {w : aNj} {base base' sz n : Nat} {v : aNk} {l : List aNk} (h : sM w base sz v n l) (hb : base' <= base) : sM w base' sz v n l := by
 rcases h.2 with h0 | ⟨b, c, rest, h1, h2, h3⟩
 .exact ⟨h.1, .inl h0⟩
 .exact ⟨h.1, .inr ⟨b, c, rest, h1, by omega, h3⟩⟩
theorem Xr {C : List (Nat × Nat)} {l : List UInt8} {n : Nat} {e : Int} (h : rS C l n = .error e) : e = 11 ∨ e = 15 := by
 unfold rS at h
 split at h
 .cases h; exact .inl rfl
 .split at h
  .cases h; exact .inl rfl
  .split at h
   .cases h; exact .inr rfl
   .cases h
theorem amJ {C : List (Nat × Nat)} {l : List UInt8} {n : Nat} {m : List Nat} (h : rS C l n = .ok m) : m.length = n := by
 unfold rS at h
 split at h
 .cases h
 .split at h
  .cases h
  .split at h
   .cases h
   .cases h; exact VA
theorem aAW {lv v : aNk} {wl l : List UInt8} {n : Nat} {w : aNj} (hw : Bs w lv wl) (hwl : wl.length <= 100000) (h : Bs w v l) (hl : l.length <= 1000000) (hn : n <= 131072) :
 aS pg FE #[lv, v, .int .i64 n] w (fun r w' => TR w' w.heap.size (Jh wl l n) r /\ aW w w' eU) := by
 refine aiT ?_
 obtain ⟨RR, hRR⟩ : ∃ RR : aNk -> aNj -> Prop, RR = fun r w' => TR w' w.heap.size (Jh wl l n) r /\ aW w w' eU := ⟨_, rfl⟩
 rw [<- hRR]
 have err : ∀ {e : Int} {w' : aNj}, Jh wl l n = .error e -> aW w w' eU -> RR (.tuple #[.slice none 0 0, .int .i64 e]) w' := fun h x => by
  rw [hRR, h]; exact ⟨rfl, x⟩
 unfold ahT H0 Hk
 by_cases hd : jD (cF wl) = 0
 .refine (ayZ hw hwl hd).mono ?_
  rintro r w1 ⟨rfl, x1⟩
  have n0 : ((1 : Int) != 0) = true := rfl
  simp (disch := omega) only [aD, pP, pR, aU, aA, bH, dC]
  refine wW fun w2 o2 x2 s2 => ?_
  refine uZ o2 rfl (by simp [one]) (by simp) fun w3 o3 x3 s3 => ?_
  simp (disch := omega) only [n0, aG]
  exact err (by unfold Jh; rw [if_pos hd]) (x1.seq (x2.new x3 (aK1 _)))
 .obtain ⟨hF, hm, hC⟩ := WOk.full hd
  refine (aC1 hw rfl hd).mono ?_
  rintro r w1 ⟨t, rfl, ht, x1⟩
  have n0 : ((0 : Int) != 0) = false := rfl
  obtain ⟨b, rfl, hb, ob⟩ := ht
  simp (disch := omega) only [aD, pP, pR, aU, aA, bH, dC]
  refine wW fun w2 o2 x2 s2 => ?_
  refine uZ o2 rfl (by simp [one]) (by simp) fun w3 o3 x3 s3 => ?_
  simp only [bK, aKS, aKR] at o3
  have x13 : aW w1 w3 eU := x2.new x3 (aK1 _)
  have x03 := x1.seq x13
  have z1 := x1.size
  have z13 := x13.size
  have lb := ob.lt
  have ob3 := ob.ext x13 (fun h => h)
  obtain ⟨p8, hp8⟩ : ∃ p, p = w1.heap.size := ⟨_, rfl⟩
  rw [<- hp8] at o3 ⊢
  have l3 := o3.lt
  have d1 : decide ((n : Int) < 0) = false := decide_eq_false (by omega)
  have d2 : decide (131072 < (n : Int)) = false := decide_eq_false (by omega)
  obtain ⟨q, hq⟩ : ∃ q, q = (n + 3) / 4 := ⟨_, rfl⟩
  simp (disch := omega) only [n0, d1, dG, aKQ, if_false, bM, dH, d2, aA, aE]
  refine (aCt hn hq w3).mono ?_
  rintro r w4 ⟨rfl, x4⟩
  simp (disch := omega) only [pP, pR, aA, pM]
  refine To fun w5 o5 x5 s5 => ?_
  refine Wb o5 rfl (by simp [one]) (by simp) fun w6 o6 x6 s6 => ?_
  simp only [bK, aKS, aKR] at o6
  have x46 : aW w4 w6 eU := x5.new x6 (aK1 _)
  have x36 := x4.seq x46
  have x06 := x03.seq x36
  obtain ⟨p10, hp10⟩ : ∃ p, p = w4.heap.size := ⟨_, rfl⟩
  rw [<- hp10] at o6 ⊢
  have l6 := o6.lt
  by_cases h3 : n < 3 * q
  .have d3 : decide (3 * (q : Int) <= (n : Int)) = false := decide_eq_false (by omega)
   simp (disch := omega) only [d3, aLi, aG]
   exact err (by unfold Jh; rw [if_neg hd, <- hq, if_pos h3]) x06
  have d3 : decide (3 * (q : Int) <= (n : Int)) = true := decide_eq_true (by omega)
  simp (disch := omega) only [d3, aLb, aE]
  refine (arN (h.ext x06 (bZ _)) (by omega)).mono ?_
  rintro r w7 ⟨p, rfl, hr7, x7⟩
  refine To fun w8 o8 x8 s8 => ?_
  have z7 := x7.size
  have z36 := x36.size
  have hp := hr7.1
  have hp2 := hr7.2.1
  have hr8 := hr7.ext x8 (fun _ _ _ h => h)
  obtain ⟨p13, hp13⟩ : ∃ p, p = w7.heap.size := ⟨_, rfl⟩
  rw [<- hp13] at o8 ⊢
  have z8 := x8.size
  have x08 := (x06.seq x7).seq x8
  have o38 := ((o3.ext x36 (fun h => h)).ext x7 (fun h => h)).ext x8 (fun h => h)
  have o68 := (o6.ext x7 (fun h => h)).ext x8 (fun h => h)
  have ob8 := ((ob3.ext x36 (fun h => h)).ext x7 (fun h => h)).ext x8 (fun h => h)
  unfold HY Ho HX
  simp (disch := omega) only [true_and]
  unfold HB Hn
  refine cU.rule (fun m (t : aNk) w' => ∃ i : Nat, m = 3 - i /\ t = .int .i64 i /\ i <= 3 /\ eM w' p13 (l4 l i 0) /\ Rdr w' w6.heap.size w7.heap.size p (nx l i).1 (nx l i).2 /\ aW w8 w' (fun y => y = p ∨ y = p13)) 3
   ⟨0, rfl, rfl, by omega, o8, hr8, aW.refl _ _⟩ ?_
  rintro m t w9 ⟨i, rfl, rfl, hi, o9, hr9, x9⟩
  have z9 := x9.size
  unfold B0
  by_cases hlt : i < 3
  .have d4 : decide ((i : Int) < 3) = true := by simp; omega
   have hnl := aDl l i
   simp (disch := omega) only [aD, aU, d4, nL, aKO, aKP, bN, aP, aA, aG]
   refine (avR (n := 2) hr9 (by omega) ⟨by omega, by omega⟩).mono ?_
   rintro r wa ⟨rfl, hra, xa⟩
   have hnv : rW (Af (nx l i).1 (nx l i).2 2).1 = nv l i := rfl
   rw [hnv]
   have hn2 := ayM (l := (nx l i).1) (e := (nx l i).2)
   rw [hnv] at hn2
   have e1 : IntKind.i64.wrap ((nv l i : Nat) : Int) = ((nv l i : Nat) : Int) := aP (by omega) (by omega)
   have e2 : (i : Int) + 1 = ((i + 1 : Nat) : Int) := by omega
   simp (disch := omega) only [bX, e1, e2, aA]
   refine oY (o9.ext xa (by omega)) rfl (by simp [l4]; omega) fun wb o_b xb sb => ?_
   rw [aI5 l hlt] at o_b
   try simp (disch := omega) only [true_and]
   exact ⟨3 - (i + 1), by omega, i + 1, rfl, rfl, by omega, o_b, hra.ext xb (fun y _ hy => by omega), (x9.seq (xa.mono fun _ _ h => .inl h)).seq (xb.mono fun _ _ h => .inr h)⟩
  .have d4 : decide ((i : Int) < 3) = false := by simp; omega
   obtain rfl : i = 3 := by omega
   simp (disch := omega) only [aD, aU, d4, nL, aKO, aKP, bN, aP, aA, aE]
   unfold JY Lx
   have b0 : nv l 0 < 65536 := ayM
   have b1 : nv l 1 < 65536 := ayM
   have b2 : nv l 2 < 65536 := ayM
   have hnl := aDl l 3
   have od := jW o9
   have k0 := od.cell (off := 0)
   have k1 := od.cell (off := 1)
   have k2 := od.cell (off := 2)
   simp only [l4, aKM, aKN] at k0 k1 k2
   have i0 : (if 0 < 3 then nv l 0 else 0) = nv l 0 := rfl
   have i1 : (if 1 < 3 then nv l 1 else 0) = nv l 1 := rfl
   have i2 : (if 2 < 3 then nv l 2 else 0) = nv l 2 := rfl
   rw [i0] at k0
   rw [i1] at k1
   rw [i2] at k2
   have t0 : (0 : Int).toNat = 0 := rfl
   have t1 : (1 : Int).toNat = 1 := rfl
   have t2 : (2 : Int).toNat = 2 := rfl
   have t3 : (3 : Int).toNat = 3 := rfl
   obtain ⟨N3, hN3⟩ : ∃ N, N = (nx l 3).1.length := ⟨_, rfl⟩
   obtain ⟨D, hD⟩ : ∃ D : Int, D = (N3 : Int) - nv l 0 - nv l 1 - nv l 2 := ⟨_, rfl⟩
   have hrd := hr9.ext (aW.dr w9 eU) (fun _ _ _ h => h)
   simp (disch := omega) only [aD, nL, aKP, jF, Result.ok.injEq, Next.value.injEq, and_true, aA, true_and, bO]
   refine (aHl hrd).mono ?_
   rintro r wa ⟨rfl, rfl⟩
   rw [<- hN3]
   simp (disch := omega) only [t0, k0, aH, Result.ok.injEq, Next.value.injEq, and_true, t1, k1, t2, k2, t3, aA, true_and, fE, aP]
   rw [<- hD]
   refine oY od rfl (by simp [l4]) fun wb o_b xb sb => ?_
   have o_b : eM wb p13 (l4 l 3 D) := o_b
   have zd : (dr w9).heap.size = w9.heap.size := rfl
   have hrb := hrd.ext xb (fun y _ hy => by omega)
   have x9b : aW w8 wb (fun y => y = p ∨ y = p13) := (x9.seq (aW.dr _ _)).seq (xb.mono fun _ _ h => .inr h)
   have x0b : aW w wb eU := x08.trans x9b fun y hy h => by omega
   refine (auT hrb).mono ?_
   rintro r wc ⟨rfl, rfl⟩
   rcases aK9 l.length 6 with h6 | h6
   .have he := aGn h6
    rw [he]
    have n1 : ((10 : Int) != 0) = true := rfl
    simp (disch := omega) only [dC, n1, aA, jI, bH, if_true, aG, cY]
    exact err (by unfold Jh; rw [if_neg hd, <- hq, if_neg h3, if_pos h6]) x0b
   .obtain ⟨_, _, e3, g0, g1, g2⟩ := aIM h6
    rw [e3] at hrb hN3 ⊢
    simp only at hrb hN3
    have n1 : ((0 : Int) != 0) = false := rfl
    have k3 := o_b.cell (off := 3)
    simp only [l4, aKM, aKN] at k3
    by_cases hneg : N3 < nA l + nB l + nC l
    .have d5 : decide (D < 0) = true := decide_eq_true (by omega)
     simp (disch := omega) only [dC, n1, aA, dG, bH, aKQ, if_false, bM, bO, k3, aH, aU, d5, aG]
     exact err (by unfold Jh; rw [if_neg hd, <- hq, if_neg h3, if_neg (by omega), <- hN3, if_pos hneg]) x0b
    .have d5 : decide (D < 0) = false := decide_eq_false (by omega)
     simp (disch := omega) only [dC, n1, aA, dG, bH, aKQ, if_false, bM, bO, k3, aH, aU, d5, aE]
     obtain ⟨L4, hL4⟩ : ∃ L, L = [(nA l, q), (nB l, q), (nC l, q), (N3 - (nA l + nB l + nC l), n - 3 * q)] := ⟨_, rfl⟩
     have hH : Jh wl l n = Et (wC wl) (l.drop 6) L4 := by
      unfold Jh
      rw [if_neg hd, <- hq, if_neg h3, if_neg (by omega), <- hN3, if_neg hneg, hL4]
     have cells : ∀ i, i < 4 -> ∃ (k m : Nat), L4[i]? = some (k, m) /\ (l4 l 3 D)[i]? = some (.int .i64 (k : Nat)) /\ [Value.int .i64 (q : Nat), .int .i64 (q : Nat), .int .i64 (q : Nat), .int .i64 ((n : Int) - 3 * (q : Int))][i]? = some (.int .i64 (m : Nat)) /\ m <= n := fun i hi => by
      rcases (show i = 0 ∨ i = 1 ∨ i = 2 ∨ i = 3 by omega) with rfl | rfl | rfl | rfl
      .exact ⟨nA l, q, by rw [hL4] <;> rfl, by rw [<- g0] <;> rfl, rfl, by omega⟩
      .exact ⟨nB l, q, by rw [hL4] <;> rfl, by rw [<- g1] <;> rfl, rfl, by omega⟩
      .exact ⟨nC l, q, by rw [hL4] <;> rfl, by rw [<- g2] <;> rfl, rfl, by omega⟩
      .refine ⟨N3 - (nA l + nB l + nC l), n - 3 * q, by rw [hL4] <;> rfl, ?_, ?_, by omega⟩
       .show some (Value.int .i64 D) = _
        rw [show D = ((N3 - (nA l + nB l + nC l) : Nat) : Int) from by omega]
       .show some (Value.int .i64 ((n : Int) - 3 * (q : Int))) = _
        rw [show (n : Int) - 3 * (q : Int) = ((n - 3 * q : Nat) : Int) from by omega]
     have hsum : (L4.map (·.1)).sum = (l.drop 6).length := by rw [hL4, <- hN3]; simp; omega
     have z0b := x0b.size
     have z9b := x9b.size
     have o8b := o38.ext x9b (by omega)
     have o10b := o68.ext x9b (by omega)
     have obb := ob8.ext x9b (by omega)
     unfold KH JL KV
     try simp (disch := omega) only [true_and]
     unfold Li KY
     refine cU.rule (fun z (t : aNk × aNk) w' => ∃ (i : Nat) (acc : List Nat) (li : List UInt8) (ov : aNk), z = 4 - i /\ t = (ov, .int .i64 i) /\ i <= 4 /\ sM w' wc.heap.size 1 ov acc.length (u8n acc) /\ Rdr w' w6.heap.size w7.heap.size p li 0 /\
      Et (wC wl) (l.drop 6) L4 = VQ acc (Et (wC wl) li (L4.drop i)) /\ li.length = ((L4.drop i).map (·.1)).sum /\ li.length <= l.length /\ acc.length <= i * 131072 /\ aW wc w' (fun y => y = p)) 4
      ⟨0, [], l.drop 6, _, rfl, rfl, by omega, sM.nil _ _ _, hrb, ?_, by rw [aKU, hsum], by rw [aK7]; omega, by simp, aW.refl _ _⟩ ?_
     .rw [aKU]
      cases Et (wC wl) (l.drop 6) L4 with
      | error e => rfl
      | ok m => simp [VQ]
     rintro z t wd ⟨i, acc, li, ov, rfl, rfl, hi4, os, hrd4, hres, hls, hll, hal, xd⟩
     have zd4 := xd.size
     unfold CH
     by_cases hlt4 : i < 4
     .have d6 : decide ((i : Int) < 4) = true := by simp; omega
      obtain ⟨k, m, hLi, hc1, hc2, hmn⟩ := cells i hlt4
      have hdrop : L4.drop i = (k, m) :: L4.drop (i + 1) := by
       rw [aLo (aLK.1 hLi).1, (aLK.1 hLi).2]
      rw [hdrop] at hres hls
      rw [aL0, List.sum_cons] at hls
      simp only at hls
      have od13 := jW (o_b.ext xd (by omega))
      have m1 := od13.cell (off := i)
      rw [hc1] at m1
      have t8' : ∀ {w' : aNj}, aW wd w' (fun y => y = p) -> (aL 122 (.pointer (some ⟨p8, 0, none⟩))).run pg w' = .ok (.value (.agg #[.int .i64 (pE (wC wl) : Nat), .slice (some ⟨b, 0, none⟩) (2 ^ pE (wC wl)) (2 ^ pE (wC wl))])) w' := fun x => by
       have := Nv (off := 0) ((o8b.ext xd (by omega)).ext x (by omega)) (by simp)
       simp only [aKU, aKT, aKX] at this
       exact this
      have q1 := t8' (aW.dr wd _)
      have m2d := (jW (o10b.ext xd (by omega))).cell (off := i)
      rw [hc2] at m2d
      simp (disch := omega) only [aD, aU, d6, nL, aKO, aKP, jF, and_true, Result.ok.injEq, Next.value.injEq, bN, aP, aA, true_and, bO, q1, m1, aH, aG]
      refine (aFw (n := k) (hrd4.ext (aW.dr wd eU) (fun _ _ _ h => h)) (by omega) (by omega)).mono ?_
      rintro r we ⟨hbs, _, hre, xe⟩
      have htk : Af li 0 k = (li.take k, li.drop k, 0) := by unfold Af; rw [if_neg (by simp), if_neg (by omega)]
      rw [htk] at hbs hre
      simp only at hbs hre
      have xde : aW wd we (fun y => y = p) := (aW.dr wd _).seq xe
      have zde := xde.size
      have q2 := t8' xde
      have m2 := ((o10b.ext xd (by omega)).ext xde (by omega)).cell (off := i)
      rw [hc2] at m2
      simp (disch := omega) only [q2, m2, aH, m2d, Result.ok.injEq, Next.value.injEq, and_true, aA, true_and]
      have hbs2 := hbs
      obtain ⟨sa, sn, sc, rfl, _, _⟩ := hbs2
      refine (aCU (base := 0) hF hm hC ⟨b, rfl, aMJ _, (obb.ext xd (by omega)).ext xde (by omega)⟩ hbs (by rw [aK2]; omega) (by omega)).mono ?_
      rintro r wf ⟨hr, xf⟩
      have zf := xf.size
      have x0f : aW w wf eU := ((x0b.trans xd fun y hy h => by omega).trans xde fun y hy h => by omega).seq xf
      cases hs : rS (wC wl) (li.take k) m with
      | error e =>
        rw [hs] at hr
        obtain rfl : r = .tuple #[.slice none 0 0, .int .i64 e] := hr
        have n2 : (e != 0) = true := by have := Xr hs; simp; omega
        simp (disch := omega) only [pP, pR, aA, dC, n2, aG, true_and]
        exact err (by rw [hH, hres, apB, hs]) x0f
      | ok mm =>
        rw [hs] at hr
        obtain ⟨sv, rfl, osv⟩ := hr
        have hml := amJ hs
        have e2 : (i : Int) + 1 = ((i + 1 : Nat) : Int) := by omega
        simp (disch := omega) only [pP, pR, aA, dC, n1, aE, true_and]
        have osf := (os.ext xde (fun y hy h => by omega)).ext xf (fun _ _ h => h)
        refine mF (m := mm.length) (news := u8n mm) osf osv.cl (fun y hy => by obtain ⟨z, _, rfl⟩ := aLZ.1 hy; rfl) (by omega) (by omega) fun vg wg og xg => ?_
        have e3 : u8n acc ++ u8n mm = u8n (acc ++ mm) := by unfold u8n; rw [aLe]
        rw [e3, <- aKV] at og
        try simp (disch := omega) only [e2]
        refine ⟨4 - (i + 1), by omega, i + 1, acc ++ mm, li.drop k, vg, rfl, rfl, by omega, og, ?_, ?_, ?_, ?_, ?_, ?_⟩
        .exact (hre.ext xf (fun _ _ _ h => h)).ext xg (fun y _ hy h => by omega)
        .rw [hres, apB, hs]
        .rw [aK7]; omega
        .rw [aK7]; omega
        .rw [aKV]; omega
        .exact ((xd.seq xde).more xf).trans xg fun y hy h => by omega
     .have d6 : decide ((i : Int) < 4) = false := by simp; omega
      obtain rfl : i = 4 := by omega
      unfold CS
      simp (disch := omega) only [aD, aU, d6, jF, and_true, bN, aP, aA, true_and, aE]
      have hnil : L4.drop 4 = [] := by rw [hL4] <;> rfl
      rw [hnil] at hres
      have hfin : Jh wl l n = .ok acc := by rw [hH, hres]; simp [Et, VQ]
      rw [hRR, hfin]
      exact ⟨⟨ov, rfl, Ah os (by omega)⟩, x0b.trans xd fun y hy h => by omega⟩
def Cw (w : aNj) (p : Nat) (S : Nat -> Prop) (l : List UInt8) : Prop := ¬ S p /\ ∃ v, eM w p [v] /\ OSS w S 1 v l.length (l.map vC)
theorem Cw.ext {w w' : aNj} {p : Nat} {S M : Nat -> Prop} {l : List UInt8} (h : Cw w p S l) (x : aW w w' M) (hp : ¬ M p) (hM : ∀ b, S b -> ¬ M b) : Cw w' p S l := by
 obtain ⟨h0, v, h1, h2⟩ := h
 exact ⟨h0, v, h1.ext x hp, JO h2 x hM⟩
theorem Cw.lt {w : aNj} {p : Nat} {S : Nat -> Prop} {l : List UInt8} (h : Cw w p S l) : p < w.heap.size := by
 obtain ⟨_, v, h1, _⟩ := h; exact h1.lt
theorem Cw.turn {w : aNj} {p : Nat} {S T : Nat -> Prop} {l : List UInt8} (h : Cw w p S l) (hT : ∀ b, S b -> b < w.heap.size -> T b) (hp : ¬ T p) : Cw w p T l := by
 obtain ⟨h0, v, h1, h2, h3⟩ := h
 refine ⟨hp, v, h1, h2, ?_⟩
 rcases h3 with h3 | ⟨b, c, rest, g1, g2, g3, g4, g5⟩
 .exact .inl h3
 .exact .inr ⟨b, c, rest, g1, hT b g2 g3.lt, g3, g4, g5⟩
theorem So {w : aNj} {S : Nat -> Prop} {sz n : Nat} {v : aNk} {l : List aNk} (o3 : OSS w S sz v n l) : ∃ a c, v = .slice a n c := by
 rcases o3.2 with ⟨rfl, rfl⟩ | ⟨b, c, rest, rfl, _⟩
 .exact ⟨_, _, rfl⟩
 .exact ⟨_, _, rfl⟩
theorem aG1 {w : aNj} {S : Nat -> Prop} {n : Nat} {v : aNk} {l : List aNk} (o3 : OSS w S 1 v n l) : Sl w v l := by
 have : sM w 0 1 v n l := ⟨o3.1, by
  rcases o3.2 with h | ⟨b, c, rest, g1, g2, g3⟩
  .exact .inl h
  .exact .inr ⟨b, c, rest, g1, by omega, g3⟩⟩
 exact this.sl
theorem ZD (w : aNj) : aS pg sG #[] w (fun r w' => r = .pointer (some ⟨w.heap.size, 0, none⟩) /\ w.heap.size < w'.heap.size /\ Cw w' w.heap.size (fun b => w.heap.size < b) [] /\ aW w w' eU) := by
 refine U0 ?_
 unfold R7 Cg
 simp (disch := omega) only [aD, iV, aA]
 refine nK fun w1 o1 x1 s1 => ?_
 simp only [Value.cells] at o1
 exact ⟨rfl, by omega, ⟨by omega, _, o1, ⟨rfl, .inl ⟨rfl, rfl⟩⟩⟩, x1⟩
theorem avL {p : Nat} {S : Nat -> Prop} {l m : List UInt8} {v : aNk} {w : aNj} (h : Cw w p S l) (hS : ∀ b, w.heap.size <= b -> S b) (hv : Bs w v m) (hl : l.length + m.length <= 1000000000) :
 aS pg rZ #[.pointer (some ⟨p, 0, none⟩), v] w (fun r w' => r = .tuple #[] /\ Cw w' p S (l ++ m) /\ aW w w' (fun y => y = p ∨ S y)) := by
 refine Qu ?_
 unfold LN zD
 obtain ⟨h0, v0, o, os⟩ := h
 obtain ⟨va, vc, rfl⟩ := So os
 have c0 := o.cell (off := 0)
 simp only [aKM, aKN] at c0
 have lp := o.lt
 simp (disch := omega) only [aD, gE, aK8, aLi, qR, true_and, aA, fR, eQ, c0, aH, aG]
 have hcl := hv.cl
 rw [aKZ] at hcl
 refine yN (m := m.length) (news := m.map vC) (i := Tryz.t5) Tryz.underlying22 Tryz.underlying22 Sm rfl rfl rfl os hcl (avX _) (fun b hb => hS b hb) (by omega) (by rw [show Tryz.t5.bytes = 1 from rfl]; omega) (by decide) fun v3 w3 o3 x3 => ?_
 have op3 := o.ext x3 h0
 obtain ⟨a3, c3, rfl⟩ := So o3
 refine yM op3 rfl (by simp) fun w4 o4 x4 s4 => ?_
 simp only [aKS, aKR] at o4
 refine ⟨⟨h0, _, o4, ?_⟩, (x3.mono fun y _ h => .inr h).seq (x4.mono fun y _ h => .inl h)⟩
 have := JO o3 x4 (fun b hb h => h0 (h ▸ hb))
 rw [aKV, aLe]
 exact this
theorem WG {p x n : Nat} {S : Nat -> Prop} {l : List UInt8} {w : aNj} (h : Cw w p S l) (hS : ∀ b, w.heap.size <= b -> S b) (hx : x < 2 ^ 64) (hn : 1 <= n /\ n <= 8) (hl : l.length <= 100000000) :
 aS pg lF #[.pointer (some ⟨p, 0, none⟩), .int .u64 x, .int .i64 n] w (fun r w' => r = .tuple #[] /\ Cw w' p S (l ++ pQ x n) /\ aW w w' (fun y => y = p ∨ S y)) := by
 refine PI ?_
 unfold Jd xZ yE
 have d1 : decide ((n : Int) < 1) = false := by simp; omega
 have d2 : decide ((8 : Int) < (n : Int)) = false := by simp; omega
 simp (disch := omega) only [aD, fJ, aK8, true_and, aA, dG, bH, aKQ, if_false, bM, aU, d1, dH, d2, aE]
 unfold xR xU
 refine cU.rule (fun m (t : aNk) w' => ∃ i : Nat, m = n - i /\ t = .int .i64 i /\ i <= n /\ Cw w' p S (l ++ pQ x i) /\ aW w w' (fun y => y = p ∨ S y)) n
  ⟨0, rfl, rfl, by omega, by rw [pQ, aLG]; exact h, aW.refl _ _⟩ ?_
 rintro m t w1 ⟨i, rfl, rfl, hi, hw, x1⟩
 unfold tA
 by_cases hlt : i < n
 .have d3 : decide ((i : Int) < (n : Int)) = true := by simp; omega
  have e0 : ((8 : Int) * (i : Int)) = ((8 * i : Nat) : Int) := by omega
  have e1 : (x : Int).fdiv (2 ^ (min (8 * i) IntKind.u64.bits)) = ((x / 256 ^ i : Nat) : Int) := by
   rw [aD1]; exact Xp x (8 * i) (by omega)
  have e2 : IntKind.u8.wrap ((x / 256 ^ i : Nat) : Int) = (((UInt8.ofNat (x / 256 ^ i % 256)).toNat : Nat) : Int) := by
   rw [UInt8.toNat_ofNat']
   generalize x / 256 ^ i = y
   rw [show IntKind.u8.wrap (y : Int) = (y : Int) % 256 from rfl]
   omega
  obtain ⟨c, hc⟩ : ∃ c, c = UInt8.ofNat (x / 256 ^ i % 256) := ⟨_, rfl⟩
  rw [<- hc] at e2
  obtain ⟨h0, v0, o, os⟩ := hw
  obtain ⟨va, vc, rfl⟩ := So os
  have c0 := o.cell (off := 0)
  simp only [aKM, aKN] at c0
  have lp := o.lt
  have hsz := x1.size
  have hpl := oC i x
  rw [aKV, hpl] at os
  rw [aKV, hpl] at c0
  simp (disch := omega) only [aD, aU, d3, qR, oL, e0, aP, bN, aA, fR, fY, kR, sK, aKO, e1, hZ, e2, eQ, c0, aH, aG]
  refine oZ (cells := #[.int .u8 c.toNat]) (by decide) (by decide) (by kernel_rfl) fun w2 o2 x2 s2 => ?_
  refine yN (m := 1) (news := [vC c]) (i := Tryz.t5) Tryz.underlying22 Tryz.underlying22 Sm rfl rfl rfl (JO os x2 (fun _ _ h => h)) (o2.cl (off := 0) (l := [vC c]) (n := 1) rfl (fun i hi => by rw [aKP] <;> rfl)) (by simp [one, vC]) (fun b hb => hS b (by omega)) (by omega) (by rw [show Tryz.t5.bytes = 1 from rfl]; omega) (by decide) fun v3 w3 o3 x3 => ?_
  have x13 : aW w1 w3 S := (x2.mono fun _ _ h => h.elim).seq x3
  have op3 := o.ext x13 h0
  obtain ⟨a3, c3, rfl⟩ := So o3
  refine yM op3 rfl (by simp) fun w4 o4 x4 s4 => ?_
  simp only [aKS, aKR] at o4
  have x14 : aW w1 w4 (fun y => y = p ∨ S y) := (x13.mono fun y _ h => .inr h).seq (x4.mono fun y _ h => .inl h)
  refine ⟨n - (i + 1), by omega, i + 1, rfl, rfl, by omega, ⟨h0, _, o4, ?_⟩, x1.seq x14⟩
  have := JO o3 x4 (fun b hb h => h0 (h ▸ hb))
  rw [aAc, <- hc, <- aLj, aLe, aKV, aKV, oC]
  exact this
 .have d3 : decide ((i : Int) < (n : Int)) = false := by simp; omega
  obtain rfl : i = n := by omega
  simp (disch := omega) only [aD, aU, d3, qR, oL, aP, bN, aA, fR, fY, kR, sK, hZ, eQ, aE]
  exact ⟨hw, x1⟩
theorem ayL {p : Nat} {S : Nat -> Prop} {l : List UInt8} {w : aNj} (h : Cw w p S l) (hl : l.length <= 1000000000) :
 aS pg rK #[.pointer (some ⟨p, 0, none⟩)] w (fun r w' => sM w' w.heap.size 1 r l.length (l.map vC) /\ aW w w' eU) := by
 refine Tf ?_
 unfold PM Bx
 obtain ⟨h0, v0, o, os⟩ := h
 obtain ⟨va, vc, rfl⟩ := So os
 have c0 := o.cell (off := 0)
 simp only [aKM, aKN] at c0
 simp (disch := omega) only [aD, fJ, aK8, qR, aA, fR, eQ, c0, aH, aE]
 exact Is (aG1 os) hl
theorem aGQ {wl : List UInt8} (h : jD (cF wl) ≠ 0) : WrC (wC wl) := by
 obtain ⟨hF, hm, hC⟩ := WOk.full h
 refine ⟨hC, fun s e he => ?_⟩
 obtain ⟨h1, h2⟩ := hF.le s e.1 e.2 he
 exact ⟨by omega, fun h0 => aMp (h2 h0) (aKY (by omega) (by omega))⟩
theorem aA1 {wl : List UInt8} (h : jD (cF wl) ≠ 0) (s : Nat) : bitsOf (wC wl) s <= 11 := by
 unfold bitsOf
 rw [aK0]
 cases he : (wC wl)[s]? with
 | none => simp
 | some e => exact ((aGQ h).2 s e he).1
theorem azY {wl l bytes : List UInt8} (h : jD (cF wl) ≠ 0) (hall : ∀ s ∈ cF l, 0 < bitsOf (wC wl) s) (hb : auF (Sh (wC wl) (cF l) ++ [true]) bytes) : rS (wC wl) bytes l.length = .ok (cF l) := by
 obtain ⟨hF, hm, hC⟩ := WOk.full h
 obtain ⟨h1, h2⟩ := aHj hb
 have h3 := aEQ hF (T := aZ bytes) hall h2
 rw [jY] at h3
 unfold rS
 rw [h1]
 simp only
 rw [h3]
 simp
theorem aHB {wl l bytes : List UInt8} (h : jD (cF wl) ≠ 0) (hb : auF (Sh (wC wl) (cF l) ++ [true]) bytes) : bytes.length <= (11 * l.length + 8) / 8 := by
 have h1 := sV (aA1 h) (cF l)
 rw [jY] at h1
 rw [hb.len, aKV, aLE]
 omega
def aJC (w : aNj) (base : Nat) (wl l : List UInt8) (back : List UInt8 -> Except Int (List Nat)) (lim : Nat) (bad : Prop) (r : aNk) : Prop :=
 ((jD (cF wl) = 0 ∨ bad ∨ ∃ s ∈ cF l, bitsOf (wC wl) s = 0) /\ r = .tuple #[.slice none 0 0, .int .i64 1]) ∨
 (jD (cF wl) ≠ 0 /\ (∀ s ∈ cF l, 0 < bitsOf (wC wl) s) /\ ∃ v bytes, r = .tuple #[v, .int .i64 0] /\ Bs w v bytes /\ AtI v base w.heap.size /\ bytes.length <= lim /\ back bytes = .ok (cF l))
theorem aCo {lv sv : aNk} {wl l : List UInt8} {w : aNj} (hw : Bs w lv wl) (hwl : wl.length <= 100000) (h : Bs w sv l) (hl : l.length <= 131072) :
 aS pg Iq #[lv, sv] w (fun r w' => aJC w' w.heap.size wl l (fun b => UC wl b l.length) ((11 * l.length + 8) / 8) False r /\ aW w w' eU) := by
 refine alH ?_
 unfold arT MP
 by_cases hd : jD (cF wl) = 0
 .refine (anH hw hwl hd).mono ?_
  rintro r w1 ⟨rfl, rfl⟩
  have n0 : ((1 : Int) != 0) = true := rfl
  simp (disch := omega) only [aD, pP, pR, aA, dC, n0, aG]
  exact ⟨.inl ⟨.inl hd, rfl⟩, aW.refl _ _⟩
 .refine (aBC hw rfl hd).mono ?_
  rintro r w1 ⟨b, rfl, hb, ob, x1⟩
  have n0 : ((0 : Int) != 0) = false := rfl
  have h1 := h.ext x1 (bZ _)
  have hv := h1
  obtain ⟨a, c, rfl, hc⟩ := h1.len
  rw [aKZ] at hv ⊢
  have d1 : decide ((l.length : Int) > 131072) = false := decide_eq_false (by omega)
  have d2 : decide ((131072 : Int) < (l.length : Int)) = false := decide_eq_false (by omega)
  simp (disch := omega) only [aD, pP, pR, aV, aA, dH, d1, aE, dC, n0]
  have hcl : wl.length = (wC wl).length := by rw [uC, jY]
  rw [hcl]
  refine (aCe ob hv (aGQ hd) (by omega)).mono ?_
  rintro r w2 ⟨he, x2⟩
  have z1 := x1.size
  rcases he with ⟨hbad, rfl⟩ | ⟨hall, v, bytes, rfl, hbs, hheld, hat⟩
  .simp (disch := omega) only [pP, pR, aA]
   exact ⟨.inl ⟨.inr (.inr hbad), rfl⟩, x1.seq x2⟩
  .simp (disch := omega) only [pP, pR, aA]
   refine ⟨.inr ⟨hd, hall, _, bytes, rfl, hbs, fun M hM => hat M fun y h1 h2 => hM y (by omega) h2, aHB hd hheld, ?_⟩, x1.seq x2⟩
   show UC wl bytes l.length = _
   unfold UC
   rw [if_neg hd]
   exact azY hd hall hheld
def sg (l : List UInt8) (q i : Nat) : List UInt8 := if i < 3 then (l.drop (i * q)).take q else l.drop (3 * q)
theorem WM {l : List UInt8} {q i : Nat} (h : 3 * q <= l.length) : (sg l q i).length = if i < 3 then q else l.length - 3 * q := by
 unfold sg
 split
 .rename_i hi
  have : i * q <= 2 * q := aLk q (by omega)
  rw [aK2, aK7]; omega
 .rw [aK7]
theorem aHy {l : List UInt8} {q : Nat} : sg l q 0 ++ (sg l q 1 ++ (sg l q 2 ++ sg l q 3)) = l := by
 unfold sg
 simp only [show (0 : Nat) < 3 from by omega, show (1 : Nat) < 3 from by omega, show (2 : Nat) < 3 from by omega, if_true, Nat.lt_irrefl, if_false, aNg, aM0, aKU]
 have e2 : l.drop (3 * q) = (l.drop (2 * q)).drop q := by rw [aMK]; congr 1; omega
 have e1 : l.drop (2 * q) = (l.drop q).drop q := by rw [aMK]; congr 1; omega
 rw [e2, aMv, e1, aMv, aMv]
def szs (P : List (List UInt8)) : List UInt8 := (P.take 3).flatMap fun s => pQ s.length 2
theorem Xs {x n : Nat} {r : List UInt8} : (pQ x n ++ r).drop n = r := aM5 (oC n x)
theorem aoN {x n : Nat} {r : List UInt8} : (pQ x n ++ r).take n = pQ x n := aMQ (oC n x)
theorem aFy {wl l a b c d : List UInt8} (h : jD (cF wl) ≠ 0) (hq : 3 * ((l.length + 3) / 4) <= l.length) (hl : l.length <= 131072)
 (ha : rS (wC wl) a (sg l ((l.length + 3) / 4) 0).length = .ok (cF (sg l ((l.length + 3) / 4) 0))) (hb : rS (wC wl) b (sg l ((l.length + 3) / 4) 1).length = .ok (cF (sg l ((l.length + 3) / 4) 1)))
 (hc : rS (wC wl) c (sg l ((l.length + 3) / 4) 2).length = .ok (cF (sg l ((l.length + 3) / 4) 2))) (hd : rS (wC wl) d (sg l ((l.length + 3) / 4) 3).length = .ok (cF (sg l ((l.length + 3) / 4) 3)))
 (la : a.length < 65536) (lb : b.length < 65536) (lc : c.length < 65536) :
 Jh wl (szs [a, b, c, d] ++ (a ++ (b ++ (c ++ d)))) l.length = .ok (cF l) := by
 have hs : szs [a, b, c, d] = pQ a.length 2 ++ (pQ b.length 2 ++ pQ c.length 2) := by unfold szs; simp
 generalize hq' : (l.length + 3) / 4 = q at *
 have l0 := WM (i := 0) hq
 have l1 := WM (i := 1) hq
 have l2 := WM (i := 2) hq
 have l3 := WM (i := 3) hq
 simp only [show (0 : Nat) < 3 from by omega, show (1 : Nat) < 3 from by omega, show (2 : Nat) < 3 from by omega, if_true, Nat.lt_irrefl, if_false] at l0 l1 l2 l3
 rw [l0] at ha
 rw [l1] at hb
 rw [l2] at hc
 rw [l3] at hd
 rw [hs, aLj, aLj]
 generalize hY : a ++ (b ++ (c ++ d)) = Y
 have hYl : Y.length = a.length + (b.length + (c.length + d.length)) := by rw [<- hY]; simp
 have d2 : (pQ a.length 2 ++ (pQ b.length 2 ++ (pQ c.length 2 ++ Y))).drop 2 = pQ b.length 2 ++ (pQ c.length 2 ++ Y) := Xs
 have d4 : (pQ a.length 2 ++ (pQ b.length 2 ++ (pQ c.length 2 ++ Y))).drop 4 = pQ c.length 2 ++ Y := by
  rw [show 4 = 2 + 2 from rfl, <- aMK, d2]; exact Xs
 have d6 : (pQ a.length 2 ++ (pQ b.length 2 ++ (pQ c.length 2 ++ Y))).drop 6 = Y := by
  rw [show 6 = 4 + 2 from rfl, <- aMK, d4]; exact Xs
 have hlen : (pQ a.length 2 ++ (pQ b.length 2 ++ (pQ c.length 2 ++ Y))).length = 6 + Y.length := by simp [oC]; omega
 have nm : ∀ x, x < 65536 -> rW (pQ x 2) = x := fun x hx => by rw [anV]; exact aLt hx
 have eA : nA (pQ a.length 2 ++ (pQ b.length 2 ++ (pQ c.length 2 ++ Y))) = a.length := by unfold nA; rw [aoN, nm _ la]
 have eB : nB (pQ a.length 2 ++ (pQ b.length 2 ++ (pQ c.length 2 ++ Y))) = b.length := by unfold nB; rw [d2, aoN, nm _ lb]
 have eC : nC (pQ a.length 2 ++ (pQ b.length 2 ++ (pQ c.length 2 ++ Y))) = c.length := by unfold nC; rw [d4, aoN, nm _ lc]
 unfold Jh
 rw [if_neg h, hq', if_neg (by omega), if_neg (by rw [hlen]; omega), d6, eA, eB, eC, if_neg (by omega)]
 have ed : Y.length - (a.length + b.length + c.length) = d.length := by omega
 rw [ed, <- hY, Et, aMQ rfl, ha]
 simp only
 rw [aM5 rfl, Et, aMQ rfl, hb]
 simp only
 rw [aM5 rfl, Et, aMQ rfl, hc]
 simp only
 rw [aM5 rfl, Et, aLn (aK1 _), hd]
 simp only [Et, aLG]
 have := aHy (l := l) (q := q)
 conv => rhs; rw [<- this]
 simp only [cF, aLe]
theorem aHU {l : List UInt8} {q i : Nat} (hi : i < 4) (hq : 3 * q <= l.length) : (l.drop (i * q)).take (if i < 3 then q else l.length - 3 * q) = sg l q i /\
 (l.drop (i * q)).drop (if i < 3 then q else l.length - 3 * q) = if i < 3 then l.drop ((i + 1) * q) else [] := by
 unfold sg
 by_cases h : i < 3
 .simp only [if_pos h]
  refine ⟨trivial, ?_⟩
  rw [aMK]; congr 1; rw [aLD]; omega
 .simp only [if_neg h]
  obtain rfl : i = 3 := by omega
  refine ⟨aLn (by rw [aK7]; omega), aNd (by rw [aK7]; omega)⟩
structure aHC (W : aNj) (p n0 : Nat) (C : List (Nat × Nat)) (l : List UInt8) (q : Nat) (av : aNk) (P : List (List UInt8)) (SA SW : Nat -> Prop) : Prop where
 a0 : ∀ b, SA b -> n0 <= b /\ b ≠ p /\ ¬ SW b
 aw : ∀ b, SA b -> b < W.heap.size
 s0 : ∀ b, SW b -> n0 <= b /\ b < W.heap.size
 al : OSS W SA 1 av P.flatten.length (P.flatten.map vC)
 wr : Cw W p SW (szs P)
 held : ∀ j s, P[j]? = some s -> auF (Sh C (cF (sg l q j)) ++ [true]) s
 all : ∀ j, j < P.length -> ∀ s ∈ cF (sg l q j), 0 < bitsOf C s
theorem aB1 {P : List (List UInt8)} {s : List UInt8} : szs (P ++ [s]) = if P.length < 3 then szs P ++ pQ s.length 2 else szs P := by
 unfold szs
 by_cases h : P.length < 3
 .rw [if_pos h, aLn (by simp; omega), aLn (by omega), List.flatMap_append]; simp
 .rw [if_neg h, aMy (by omega)]
theorem aBj (P : List (List UInt8)) : (szs P).length <= 6 := by
 have : ∀ Q : List (List UInt8), (Q.flatMap fun s => pQ s.length 2).length = 2 * Q.length := by
  intro Q
  induction Q with
  | nil => rfl
  | cons s Q ih => rw [List.flatMap_cons, aKV, ih, oC, aLa]; omega
 unfold szs
 rw [this, aK2]; omega
theorem aEW {w : aNj} {S T : Nat -> Prop} {sz n : Nat} {v : aNk} {l : List aNk} (h : OSS w S sz v n l) (hT : ∀ b, S b -> b < w.heap.size -> T b) : OSS w T sz v n l := by
 refine ⟨h.1, ?_⟩
 rcases h.2 with h2 | ⟨b, c, rest, e, hb, o, hc, hn⟩
 .exact .inl h2
 .exact .inr ⟨b, c, rest, e, hT b hb o.lt, o, hc, hn⟩
theorem aoR {a : Option Addr} {n c m c' k : Nat} {M : Nat -> Prop} (h : ¬ inB (.slice a n c) M) (hm : m <= n) : ¬ inB (.slice (mU a c k 1) m c') M := by
 have := AtS.sub (a := a) (n := n) (c := c) (m := m) (c' := c') (k := k) (mx := c) (sz := 1) (S := fun y => ¬ M y) (fun N hN hh => h (agY hh fun b hb => Classical.byContradiction fun hm => hN b hm hb)) hm
 exact this M fun b hb => hb
theorem aE8 {RR : aNk -> aNj -> Prop} {l : List UInt8} {q b p n0 : Nat} {C : List (Nat × Nat)} {sv : aNk} {w0 : aNj} (hC : WrC C) (ho : eM w0 b (cc C)) (hs : Bs w0 sv l) (hq : 3 * q <= l.length) (hq2 : l.length <= 4 * q) (hq3 : q <= 32768) (hl : l.length <= 131072)
 (hn0 : n0 <= w0.heap.size) (hp : n0 <= p) (hb : b < n0) (hsv : ¬ inB sv (fun y => n0 <= y)) {SW0 : Nat -> Prop} (hw : Cw w0 p SW0 []) (hSW : ∀ y, SW0 y -> n0 <= y /\ y < w0.heap.size)
 (hbad : ∀ W, (∃ s ∈ cF l, bitsOf C s = 0) -> aW w0 W (fun y => n0 <= y) -> RR (.tuple #[.slice none 0 0, .int .i64 1]) W)
 (hok : ∀ W v P, P.length = 4 -> (∀ j s, P[j]? = some s -> auF (Sh C (cF (sg l q j)) ++ [true]) s) -> (∀ s ∈ cF l, 0 < bitsOf C s) -> Bs W v (szs P ++ P.flatten) -> AtI v w0.heap.size W.heap.size -> aW w0 W (fun y => n0 <= y) -> RR (.tuple #[v, .int .i64 0]) W) :
 BF (fun rX jG w => zQ RR rX jG w) RR sv (.slice (some ⟨b, 0, none⟩) C.length C.length) (.pointer (some ⟨p, 0, none⟩)) (.slice none 0 0)
  (.agg #[.int .i64 (q : Nat), .int .i64 (q : Nat), .int .i64 (q : Nat), .int .i64 ((l.length : Int) - 3 * (q : Int))]) (.int .i64 0) w0 := by
 unfold BF HU
 have hbits : ∀ s, bitsOf C s <= 11 := fun s => by
  unfold bitsOf
  rw [aK0]
  cases h : C[s]? with
  | none => simp
  | some e => exact (hC.2 s e h).1
 refine cU.rule (fun m (t : aNk × aNk × aNk) W => ∃ (i : Nat) (sv' av : aNk) (P : List (List UInt8)) (SA SW : Nat -> Prop), m = 4 - i /\ t = (sv', av, .int .i64 i) /\ i <= 4 /\ P.length = i /\ (i < 4 -> Bs W sv' (l.drop (i * q)) /\ ¬ inB sv' (fun y => n0 <= y)) /\
  aHC W p n0 C l q av P SA SW /\ aW w0 W (fun y => n0 <= y)) 4
  ⟨0, sv, .slice none 0 0, [], fun _ => False, SW0, rfl, rfl, by omega, rfl, fun _ => ⟨by rw [aNg]; exact hs, hsv⟩, ⟨fun _ h => h.elim, fun _ h => h.elim, hSW, ⟨rfl, .inl ⟨rfl, rfl⟩⟩, hw, fun j s h => by simp at h, fun j h => by simp at h⟩, aW.refl _ _⟩ ?_
 rintro m t W ⟨i, sv', av, P, SA, SW, rfl, rfl, hi, hPl, hsv', hE, hx⟩
 obtain ⟨hA0, hAw, hS0, hal, hwr, hheld, hall⟩ := hE
 have zW := hx.size
 unfold C6 J3
 have hpW := hwr.lt
 have hal2 := hal
 obtain ⟨aa, ac, rfl⟩ := So hal
 have hfl : P.flatten.length <= 262144 := by
  have key : ∀ (Q : List (List UInt8)), (∀ s ∈ Q, s.length <= 65536) -> Q.flatten.length <= 65536 * Q.length := by
   intro Q
   induction Q with
   | nil => intro _; simp
   | cons s Q ih =>
     intro h
     have h1 := h s (aMq ..)
     have h2 := ih fun t ht => h t (aLc _ ht)
     rw [aMF, aKV, aLa]; omega
  have := key P fun s hs => by
   obtain ⟨j, hj⟩ := List.getElem?_of_mem hs
   have h1 := hheld j s hj
   have h2 := sV hbits (cF (sg l q j))
   have h3 : (sg l q j).length <= 32768 := by rw [WM hq]; split <;> omega
   rw [jY] at h2
   rw [h1.len, aKV, aLE]
   omega
  omega
 by_cases hlt : i < 4
 .have d1 : decide ((i : Int) < 4) = true := decide_eq_true (by omega)
  obtain ⟨hsb, hin⟩ := hsv' hlt
  obtain ⟨z, hz⟩ : ∃ z, z = if i < 3 then q else l.length - 3 * q := ⟨_, rfl⟩
  obtain ⟨hsg, hsd⟩ := aHU hlt hq
  rw [<- hz] at hsg hsd
  have hsl := WM (i := i) hq
  rw [<- hz] at hsl
  have hzq : z <= 32768 := by rw [hz]; split <;> omega
  have hiq : i * q <= 3 * q := aLk q (by omega)
  have hzl : z <= (l.drop (i * q)).length := by
   rw [aK7, hz]
   split
   .have : i * q <= 2 * q := aLk q (by omega)
    omega
   .omega
  have hix : (#[.int .i64 (q : Nat), .int .i64 (q : Nat), .int .i64 (q : Nat), .int .i64 ((l.length : Int) - 3 * (q : Int))] : Array aNk)[i]? = some (.int .i64 (z : Nat)) := by
   rcases (show i = 0 ∨ i = 1 ∨ i = 2 ∨ i = 3 by omega) with rfl | rfl | rfl | rfl
   .rw [hz] <;> rfl
   .rw [hz] <;> rfl
   .rw [hz] <;> rfl
   .rw [hz]
    have : ((l.length : Int) - 3 * (q : Int)) = ((l.length - 3 * q : Nat) : Int) := by omega
    simp [this]
  have hv := hsb
  obtain ⟨a, c, rfl, hc⟩ := hsb.len
  rw [aKZ] at hv hc hin
  generalize hn : (l.drop (i * q)).length = n at *
  unfold JZ Ls Uh Ks
  simp (disch := omega) only [aD, aU, d1, jT, aKO, hix, aH, aKZ, hn, aA, iX, eH, aG]
  have hseg : Bs W (.slice (mU a c 0 1) (z - 0) (c - 0)) (sg l q i) := by
   have := Sl.take' hv (k := z) hzl
   rw [<- aME, hsg] at this
   exact this
  refine (aCe (ho.ext hx (by omega)) hseg hC (by rw [hsl]; omega)).mono ?_
  rintro r W1 ⟨he, x1⟩
  have z1 := x1.size
  have y1 : aW w0 W1 (fun y => n0 <= y) := hx.trans x1 fun _ _ h => h.elim
  rcases he with ⟨⟨s, hs1, hs2⟩, rfl⟩ | ⟨hal1, v, bytes, rfl, hbs, hheld1, hat⟩
  .have n1 : ((1 : Int) != 0) = true := rfl
   simp (disch := omega) only [pP, pR, aA, dC, n1, aG]
   refine hbad W1 ⟨s, ?_, hs2⟩ y1
   have hsub : ∀ x ∈ sg l q i, x ∈ l := fun x hx => by
    unfold sg at hx
    split at hx
    .exact aMY (aMd hx)
    .exact aMY hx
   obtain ⟨x, hx1, hx2⟩ := aLZ.1 hs1
   exact aLZ.2 ⟨x, hsub x hx1, hx2⟩
  .have n1 : ((0 : Int) != 0) = false := rfl
   have hbl : bytes.length < 65536 := by
    have h1 := sV hbits (cF (sg l q i))
    rw [jY, hsl] at h1
    rw [hheld1.len, aKV, aLE]
    omega
   have hbv := hbs
   obtain ⟨a2, c2, rfl, hc2⟩ := hbs.len
   rw [aKZ] at hbv hat
   have e1 : (i : Int) + 1 = ((i + 1 : Nat) : Int) := by omega
   have hszl := aBj P
   have fin : ∀ (W2 : aNj) (SW2 : Nat -> Prop), Cw W2 p SW2 (szs (P ++ [bytes])) -> aW W1 W2 (fun y => y = p ∨ SW y ∨ W1.heap.size <= y) -> (∀ y, SW2 y -> (SW y ∨ W1.heap.size <= y) /\ y < W2.heap.size) →
       aD pg (lO .append #[22, 22] 22 [.slice aa P.flatten.length ac, .slice a2 bytes.length c2]) W2 fun t69 w =>
        aD pg (aI .add 3 aM aM (.int .i64 i) (.int .i64 1)) w fun t70 w =>
         ∃ m, m < 4 - i /\ ∃ (i' : Nat) (sv' av : aNk) (P : List (List UInt8)) (SA SW : Nat -> Prop), m = 4 - i' /\ ((.slice (mU a c z 1) (n - z) (c - z) : aNk), t69, t70) = (sv', av, .int .i64 i') /\ i' <= 4 /\ P.length = i' /\ (i' < 4 -> Bs w sv' (l.drop (i' * q)) /\ ¬ inB sv' (fun y => n0 <= y)) /\
           aHC w p n0 C l q av P SA SW /\ aW w0 w (fun y => n0 <= y) := by
    intro W2 SW2 hw2 x2 hS2
    have z2 := x2.size
    have hbs2 : Bs W2 (.slice a2 bytes.length c2) bytes := hbv.ext x2 (hat _ fun y h1 h2 h3 => by
     rcases h3 with h3 | h3 | h3
     .omega
     .have := (hS0 y h3).2; omega
     .omega)
    have hcl := hbs2.cl
    rw [aKZ] at hcl
    have hal3 : OSS W2 (fun y => SA y ∨ W2.heap.size <= y) 1 (.slice aa P.flatten.length ac) P.flatten.length (P.flatten.map vC) := by
     refine aEW (JO (JO hal2 x1 (fun _ _ h => h)) x2 fun y hy h3 => ?_) fun y hy _ => .inl hy
     have h4 := hA0 y hy
     have h5 := hAw y hy
     rcases h3 with h3 | h3 | h3
     .exact h4.2.1 h3
     .exact h4.2.2 h3
     .omega
    refine yN (m := bytes.length) (news := bytes.map vC) (i := Tryz.t5) Tryz.underlying22 Tryz.underlying22 Sm rfl rfl rfl hal3 hcl (avX _) (fun y hy => .inr hy) (by omega) (by rw [show Tryz.t5.bytes = 1 from rfl]; omega) (by decide) fun v3 W3 o3 x3 => ?_
    have z3 := x3.size
    simp (disch := omega) only [aD, bN, e1, aP, aA]
    have y3 : aW w0 W3 (fun y => n0 <= y) := (y1.trans x2 fun y _ h => by
     rcases h with h | h | h
     .omega
     .exact (hS0 y h).1
     .omega).trans x3 fun y _ h => by
     rcases h with h | h
     .exact (hA0 y h).1
     .omega
    refine ⟨4 - (i + 1), by omega, i + 1, _, v3, P ++ [bytes], fun y => (SA y ∨ W2.heap.size <= y) /\ y < W3.heap.size, SW2, rfl, rfl, by omega, by rw [aKV, aLE, hPl], ?_, ⟨?_, fun y hy => hy.2, fun y hy => ?_, ?_, ?_, ?_, ?_⟩, y3⟩
    .intro hi4
     have hlt3 : i < 3 := by omega
     rw [if_pos hlt3] at hsd
     refine ⟨?_, aoR hin (by omega)⟩
     have := Sl.drop' hv (k := z) hzl
     rw [<- aMx, hsd] at this
     refine Sl.ext (Sl.ext (Sl.ext this x1 (bZ _)) x2 ?_) x3 ?_
     .exact fun h => aoR hin (by omega) (agY h fun y hy => by
       rcases hy with hy | hy | hy
       .omega
       .exact (hS0 y hy).1
       .omega)
     .exact fun h => aoR hin (by omega) (agY h fun y hy => by
       rcases hy with hy | hy
       .exact (hA0 y hy).1
       .omega)
    .rintro y ⟨hy | hy, hy2⟩
     .have h4 := hA0 y hy
      refine ⟨h4.1, h4.2.1, fun h => ?_⟩
      have h5 := hAw y hy
      rcases (hS2 y h).1 with h6 | h6
      .exact h4.2.2 h6
      .omega
     .refine ⟨by omega, fun h => ?_, fun h => ?_⟩
      .have := hw2.lt; omega
      .have := (hS2 y h).2; omega
    .obtain ⟨h1, h2⟩ := hS2 y hy
     refine ⟨?_, by omega⟩
     rcases h1 with h1 | h1
     .exact (hS0 y h1).1
     .omega
    .rw [List.flatten_append, List.flatten_singleton, aKV, aLe]
     exact aEW o3 fun y hy h => ⟨hy, h⟩
    .refine hw2.ext x3 (fun h => ?_) fun y hy h => ?_
     .rcases h with h | h
      .exact (hA0 p h).2.1 rfl
      .have := hw2.lt; omega
     .obtain ⟨h1, h2⟩ := hS2 y hy
      rcases h with h | h
      .rcases h1 with h1 | h1
       .exact (hA0 y h).2.2 h1
       .have := hAw y h; omega
      .omega
    .intro j s hj
     rcases aK9 j P.length with hjl | hjl
     .rw [aLd hjl] at hj; exact hheld j s hj
     .rw [aLS hjl] at hj
      have : j - P.length = 0 := by
       rcases aL9 (j - P.length) with h | h
       .exact h
       .rw [aK3 (by simp; omega)] at hj; cases hj
      rw [this] at hj
      obtain rfl : bytes = s := by simpa using hj
      obtain rfl : j = i := by omega
      exact hheld1
    .intro j hj s hs
     rw [aKV, aLE] at hj
     rcases aK9 j P.length with hjl | hjl
     .exact hall j hjl s hs
     .obtain rfl : j = i := by omega
      exact hal1 s hs
   have hwr1 : Cw W1 p (fun y => SW y ∨ W1.heap.size <= y) (szs P) := (hwr.ext x1 (fun h => h) (fun _ _ h => h)).turn (fun y hy _ => .inl hy) (fun h => by
    rcases h with h | h
    .exact hwr.1 h
    .omega)
   by_cases hi3 : i < 3
   .have d3 : decide ((i : Int) < 3) = true := decide_eq_true (by omega)
    have d4 : decide ((65536 : Int) <= (bytes.length : Int)) = false := decide_eq_false (by omega)
    have d5 : decide ((bytes.length : Int) ≥ 65536) = false := decide_eq_false (by omega)
    simp (disch := omega) only [aKZ, pP, pR, d3, aG, aA, dC, n1, aE, aV, fU, kR, nE, d4]
    refine (WG (x := bytes.length) (n := 2) hwr1 (fun y hy => .inr hy) (by omega) (by omega) (by omega)).mono ?_
    rintro r W2 ⟨rfl, hw2, x2⟩
    unfold zO zP
    have hsz : szs (P ++ [bytes]) = szs P ++ pQ bytes.length 2 := by rw [aB1, if_pos (by omega)]
    rw [<- hsz] at hw2
    exact fin W2 (fun y => (SW y ∨ W1.heap.size <= y) /\ y < W2.heap.size) (hw2.turn (fun y hy h => ⟨hy, h⟩) (fun h => hw2.1 h.1)) x2 (fun y hy => hy)
   .have d3 : decide ((i : Int) < 3) = false := decide_eq_false (by omega)
    simp (disch := omega) only [aKZ, pP, pR, d3, aE, aA, dC, n1]
    unfold zO zP
    have hsz : szs (P ++ [bytes]) = szs P := by rw [aB1, if_neg (by omega)]
    rw [<- hsz] at hwr1
    exact fin W1 (fun y => (SW y ∨ W1.heap.size <= y) /\ y < W1.heap.size) (hwr1.turn (fun y hy h => ⟨hy, h⟩) (fun h => hwr1.1 h.1)) (aW.refl _ _) (fun y hy => hy)
 .have d1 : decide ((i : Int) < 4) = false := decide_eq_false (by omega)
  obtain rfl : i = 4 := by omega
  simp (disch := omega) only [aD, aU, d1, aA, aE]
  unfold zQ
  have hwr1 : Cw W p (fun y => SW y ∨ W.heap.size <= y) (szs P) := hwr.turn (fun y hy _ => .inl hy) (fun h => by
   rcases h with h | h
   .exact hwr.1 h
   .omega)
  have hszl := aBj P
  refine (avL hwr1 (fun y hy => .inr hy) (aG1 hal2) (by omega)).mono ?_
  rintro r W2 ⟨rfl, hw2, x2⟩
  refine (ayL hw2 (by rw [aKV]; omega)).mono ?_
  rintro r W3 ⟨o3, x3⟩
  have z2 := x2.size
  have hat := sM.atI o3
  obtain ⟨a3, c3, rfl⟩ := o3.len
  refine hok W3 _ P hPl hheld ?_ o3.sl (fun M hM => hat M fun y h1 h2 => hM y (by omega) h2) ((hx.trans x2 fun y _ h => ?_).trans x3 fun _ _ h => h.elim)
  .intro s hs
   have hall' : ∀ j, j < 4 -> ∀ s ∈ cF (sg l q j), 0 < bitsOf C s := fun j hj => hall j (by omega)
   have := aHy (l := l) (q := q)
   rw [<- this] at hs
   simp only [cF, aLe, aLx] at hs
   rcases hs with hs | hs | hs | hs
   .exact hall' 0 (by omega) s hs
   .exact hall' 1 (by omega) s hs
   .exact hall' 2 (by omega) s hs
   .exact hall' 3 (by omega) s hs
  .rcases h with h | h | h
   .omega
   .exact (hS0 y h).1
   .omega
theorem aBp {lv sv : aNk} {wl l : List UInt8} {w : aNj} (hw : Bs w lv wl) (hwl : wl.length <= 100000) (h : Bs w sv l) (hl : l.length <= 131072) :
 aS pg FZ #[lv, sv] w (fun r w' => aJC w' w.heap.size wl l (fun b => Jh wl b l.length) (11 * l.length / 8 + 12) (l.length < 3 * ((l.length + 3) / 4)) r /\ aW w w' eU) := by
 refine afC ?_
 unfold ahZ Il Ic
 by_cases hd : jD (cF wl) = 0
 .refine (anH hw hwl hd).mono ?_
  rintro r w1 ⟨rfl, rfl⟩
  have n0 : ((1 : Int) != 0) = true := rfl
  simp (disch := omega) only [aD, pP, pR, aA, dC, n0, aG]
  exact ⟨.inl ⟨.inl hd, rfl⟩, aW.refl _ _⟩
 .refine (aBC hw rfl hd).mono ?_
  rintro r w1 ⟨b, rfl, hb, ob, x1⟩
  have n0 : ((0 : Int) != 0) = false := rfl
  have h1 := h.ext x1 (bZ _)
  have hv := h1
  obtain ⟨a, c, rfl, hc⟩ := h1.len
  rw [aKZ] at hv ⊢
  obtain ⟨q, hq⟩ : ∃ q, q = (l.length + 3) / 4 := ⟨_, rfl⟩
  simp (disch := omega) only [aD, pP, pR, aV, aA, dC, n0, aE]
  refine (aCt hl hq w1).mono ?_
  rintro r w2 ⟨rfl, x2⟩
  simp (disch := omega) only [pP, pR, aA, pM, bH]
  refine To fun w3 o3 x3 s3 => ?_
  refine Wb o3 rfl (by simp [one]) (by simp) fun w4 o4 x4 s4 => ?_
  simp only [bK, aKS, aKR] at o4
  have x14 : aW w1 w4 eU := (x2.seq x3).trans x4 fun y hy h => by have := x2.size; omega
  have z1 := x1.size
  have z2 := x2.size
  have z14 := x14.size
  by_cases hbad : l.length < 3 * q
  .have d1 : decide (3 * (q : Int) <= (l.length : Int)) = false := decide_eq_false (by omega)
   simp (disch := omega) only [d1, aLi, jI, if_true, aG, cY]
   exact ⟨.inl ⟨.inr (.inl (by rw [<- hq]; exact hbad)), rfl⟩, x1.seq x14⟩
  .have d1 : decide (3 * (q : Int) <= (l.length : Int)) = true := decide_eq_true (by omega)
   have d2 : decide ((l.length : Int) > 131072) = false := decide_eq_false (by omega)
   have d3 : decide ((131072 : Int) < (l.length : Int)) = false := decide_eq_false (by omega)
   simp (disch := omega) only [d1, aLb, dG, aKQ, if_false, bM, aV, aA, dH, d2, aE]
   refine (ZD w4).mono ?_
   rintro r w5 ⟨rfl, hlt5, hw5, x5⟩
   have z5 := x5.size
   unfold Ik H7 H5
   have q1 := aB8 (off := 0) (o4.ext x5 (fun h => h)) (by simp)
   simp only [aKU, aKT, aKX] at q1
   simp (disch := omega) only [aD, q1, aA]
   have x15 : aW w1 w5 eU := x14.seq x5
   have hlc : wl.length = (wC wl).length := by rw [uC, jY]
   rw [hlc]
   have hb1 := ob.lt
   refine aE8 (b := b) (n0 := w4.heap.size) (q := q) (aGQ hd) (ob.ext x15 (fun h => h)) (hv.ext x15 (bZ _)) (by omega) (by omega) (by omega) hl z5 (aK1 _) (by omega) ?_ (SW0 := fun y => w4.heap.size < y /\ y < w5.heap.size) ?_ (fun y hy => ⟨by omega, hy.2⟩) ?_ ?_
   .exact fun hh => (hv.ext x14 (bZ _)).old hh
   .exact hw5.turn (fun y hy h => ⟨hy, h⟩) (fun h => by omega)
   .intro W hbd x6
    exact ⟨.inl ⟨.inr (.inr hbd), rfl⟩, ((x1.seq x15).trans x6 fun y hy h => by omega)⟩
   .intro W v P hP hheld hall hbs hat x6
    have z6 := x6.size
    refine ⟨.inr ⟨hd, hall, v, _, rfl, hbs, fun M hM => hat M fun y h1 h2 => hM y (by omega) h2, ?_, ?_⟩, (x1.seq x15).trans x6 fun y hy h => by omega⟩
    .have hP4 : ∀ (j : Nat) (s : List UInt8), P[j]? = some s -> 8 * s.length <= 11 * (if j < 3 then q else l.length - 3 * q) + 8 := fun j s hj => by
      have h1 := hheld j s hj
      have h2 := sV (aA1 hd) (cF (sg l q j))
      have h3 := WM (l := l) (q := q) (i := j) (by omega)
      rw [jY, h3] at h2
      rw [h1.len, aKV, aLE]
      omega
     have hs6 := aBj P
     match P, hP with
     | [a, b, c, d], _ =>
       have h1 := hP4 0 a rfl
       have h2 := hP4 1 b rfl
       have h3 := hP4 2 c rfl
       have h4 := hP4 3 d rfl
       simp only [show (0 : Nat) < 3 from by omega, show (1 : Nat) < 3 from by omega, show (2 : Nat) < 3 from by omega, if_true, Nat.lt_irrefl, if_false] at h1 h2 h3 h4
       simp only [aKV, aMF, List.flatten_nil, List.length_nil]
       omega
    .show Jh wl (szs P ++ P.flatten) l.length = _
     match P, hP with
     | [a, b, c, d], _ =>
       have e : [a, b, c, d].flatten = a ++ (b ++ (c ++ d)) := by simp
       rw [e]
       have hlen : ∀ (j : Nat) (s : List UInt8), [a, b, c, d][j]? = some s -> s.length < 65536 /\ rS (wC wl) s (sg l q j).length = .ok (cF (sg l q j)) := fun j s hj => by
        have hj4 : j < 4 := by
         rcases aK9 j 4 with h | h
         .exact h
         .rw [aK3 (by simpa using h)] at hj; cases hj
        have h1 := hheld j s hj
        have h2 := sV (aA1 hd) (cF (sg l q j))
        have h3 : (sg l q j).length <= 32768 := by rw [WM (by omega)]; split <;> omega
        rw [jY] at h2
        refine ⟨by rw [h1.len, aKV, aLE]; omega, azY hd (fun x hx => hall x ?_) h1⟩
        have hsub : ∀ x ∈ sg l q j, x ∈ l := fun x hx => by
         unfold sg at hx
         split at hx
         .exact aMY (aMd hx)
         .exact aMY hx
        obtain ⟨y, hy1, hy2⟩ := aLZ.1 hx
        exact aLZ.2 ⟨y, hsub y hy1, hy2⟩
       obtain ⟨la, ha⟩ := hlen 0 a rfl
       obtain ⟨lb, hb⟩ := hlen 1 b rfl
       obtain ⟨lc, hc⟩ := hlen 2 c rfl
       obtain ⟨-, hdd⟩ := hlen 3 d rfl
       rw [hq] at ha hb hc hdd hbad
       exact aFy hd (by omega) hl ha hb hc hdd la lb lc
end Go.Proofs.YtgpimhlgaokobaaGreat
namespace Go.Pu
open Go Go.En
structure LH where
 kind : Nat
 form : Nat
 size : Nat
 count : Nat
 bytes : Nat
def mG (kind form : Nat) : Nat := if kind < 2 then (if form = 1 then 2 else if form = 3 then 3 else 1) else (if form = 2 then 4 else if form = 3 then 5 else 3)
def PS (form : Nat) : Nat := if form = 2 then 14 else if form = 3 then 18 else 10
def qS (kind form : Nat) : Nat := if kind < 2 /\ mG kind form = 1 then 3 else 4
def tD (kind form : Nat) : Nat := if kind < 2 then 20 else PS form
def mT : List UInt8 -> LH × Int
 | [] => (⟨0, 0, 0, 0, 0⟩, 10)
 | c :: r =>
   if (c :: r).length < mG (c.toNat % 4) (c.toNat / 4 % 4) then (⟨c.toNat % 4, c.toNat / 4 % 4, mG (c.toNat % 4) (c.toNat / 4 % 4), 0, 0⟩, 10)
   else
    (⟨c.toNat % 4, c.toNat / 4 % 4, mG (c.toNat % 4) (c.toNat / 4 % 4),
      rW ((c :: r).take (mG (c.toNat % 4) (c.toNat / 4 % 4))) / 2 ^ qS (c.toNat % 4) (c.toNat / 4 % 4) % 2 ^ tD (c.toNat % 4) (c.toNat / 4 % 4),
      rW ((c :: r).take (mG (c.toNat % 4) (c.toNat / 4 % 4))) / 2 ^ qS (c.toNat % 4) (c.toNat / 4 % 4) / 2 ^ tD (c.toNat % 4) (c.toNat / 4 % 4)⟩,
      if 131072 < rW ((c :: r).take (mG (c.toNat % 4) (c.toNat / 4 % 4))) / 2 ^ qS (c.toNat % 4) (c.toNat / 4 % 4) % 2 ^ tD (c.toNat % 4) (c.toNat / 4 % 4) then 12 else 0)
theorem Sy (k f : Nat) : 1 <= mG k f /\ mG k f <= 5 := by
 unfold mG; split <;> (try split) <;> (try split) <;> omega
theorem awY (f : Nat) : 10 <= PS f /\ PS f <= 18 := by
 unfold PS; split <;> (try split) <;> omega
theorem aG4 (k f : Nat) : 3 <= qS k f /\ qS k f <= 4 := by
 unfold qS; split <;> omega
theorem aGI (k f : Nat) : 10 <= tD k f /\ tD k f <= 20 := by
 have := awY f
 unfold tD; split <;> omega
theorem acB {l : List UInt8} {n : Nat} (h : n <= 5) : rW (l.take n) < 2 ^ 40 := by
 have h1 := PT (l.take n)
 have h2 : (l.take n).length <= 5 := by rw [aK2]; omega
 have h3 : 256 ^ (l.take n).length <= 256 ^ 5 := aKY (by omega) h2
 have : (256 : Nat) ^ 5 = 2 ^ 40 := by decide
 omega
theorem aCM {k f : Nat} {l : List UInt8} (hk : k < 2) : rW (l.take (mG k f)) / 2 ^ qS k f < 2 ^ 20 := by
 have h1 := PT (l.take (mG k f))
 have h2 : (l.take (mG k f)).length <= mG k f := by rw [aK2]; omega
 have h3 : 256 ^ (l.take (mG k f)).length <= 256 ^ mG k f := aKY (by omega) h2
 rw [aMD (aLh _)]
 have h4 : 256 ^ mG k f <= 2 ^ 20 * 2 ^ qS k f := by
  unfold qS mG
  rw [if_pos hk]
  by_cases h1 : f = 1
  .subst h1; simp
  .by_cases h3 : f = 3
   .subst h3; simp
   .rw [if_neg h1, if_neg h3]; simp [hk]
 omega
end Go.Pu
namespace Go.Proofs.YtgpimhlgaokobaaGreat
open Go Go.En Go.Pu
set_option maxRecDepth 4000
theorem aC7 {x n m : Nat} (h : m = n) : (x : Int).fdiv (2 ^ m) = ((x / 2 ^ n : Nat) : Int) := by
 subst h
 rw [aMn _ (by exact_mod_cast aMJ _)]
 push_cast
 rfl
theorem aBb {x n : Nat} (h : n <= 64) : (x : Int).fdiv (2 ^ min n IntKind.u64.bits) = ((x / 2 ^ n : Nat) : Int) := aC7 (by have : IntKind.u64.bits = 64 := rfl; omega)
theorem aJ7 {x n : Nat} (h : n <= 8) : (x : Int).fdiv (2 ^ min n IntKind.u8.bits) = ((x / 2 ^ n : Nat) : Int) := aC7 (by have : IntKind.u8.bits = 8 := rfl; omega)
theorem ayB {x n : Nat} (hx : x < 2 ^ 63) (hn : n <= 62) : UD .u64 (x : Int) ((2 ^ n - 1 : Nat) : Int) = ((x % 2 ^ n : Nat) : Int) := by
 have hp : 2 ^ n <= 2 ^ 62 := aKY (by omega) hn
 unfold UD
 have e : IntKind.u64.bits = 64 := rfl
 rw [e, BitVec.ofInt_natCast, BitVec.ofInt_natCast, BitVec.toNat_and, BitVec.toNat_ofNat, BitVec.toNat_ofNat, aLt (by omega), aLt (by omega), Nat.and_two_pow_sub_one_eq_mod]
 have := Nat.mod_le x (2 ^ n)
 exact kR (by omega) (by omega)
theorem aEA {x : Nat} (h : x < 256) : UD .u8 (x : Int) 3 = ((x % 4 : Nat) : Int) := by
 have : ∀ k : Fin 256, UD .u8 (k.val : Int) 3 = ((k.val % 4 : Nat) : Int) := by decide +kernel
 exact this ⟨x, h⟩
def lhV (H : LH) : aNk := .agg #[.int .i64 (H.kind : Nat), .int .i64 (H.form : Nat), .int .i64 (H.size : Nat), .int .i64 (H.count : Nat), .int .i64 (H.bytes : Nat)]
def lh0 : aNk := .agg #[.int .i64 0, .int .i64 0, .int .i64 0, .int .i64 0, .int .i64 0]
theorem aBS {R : K1} {v : aNk} {l : List UInt8} {p2 p4 kd fm sz d b : Nat} {c : List aNk} {w : aNj} (hb : Bs w v l) (hl : l.length <= 1000000) (o2 : eM w p2 c) (hc : c.length = 5) (o4 : eM w p4 [.int .i64 (kd : Nat), .int .i64 (fm : Nat), .int .i64 (sz : Nat), .int .i64 0, .int .i64 0])
 (hne : p2 ≠ p4) (h1 : 1 <= sz) (h5 : sz <= 5) (hd : 3 <= d /\ d <= 4) (hbt : 10 <= b /\ b <= 20)
 (hk : ∀ w' r, (r = if l.length < sz then .tuple #[lh0, .int .i64 10] else if 131072 < rW (l.take sz) / 2 ^ d % 2 ^ b then .tuple #[lh0, .int .i64 12] else .tuple #[lhV ⟨kd, fm, sz, rW (l.take sz) / 2 ^ d % 2 ^ b, rW (l.take sz) / 2 ^ d / 2 ^ b⟩, .int .i64 0]) -> aW w w' (fun y => y = p2 ∨ y = p4) -> R r w') :
 qH R v (.pointer (some ⟨p2, 0, none⟩)) (.pointer (some ⟨p4, 0, none⟩)) (.int .i64 (d : Nat)) (.int .i64 (b : Nat)) w := by
 have hne' : p4 ≠ p2 := fun h => hne h.symm
 unfold qH
 refine (arN hb (by omega)).mono ?_
 rintro r w1 ⟨p, rfl, hr1, x1⟩
 have z1 := x1.size
 have hp := hr1.1
 have hp2 := hr1.2.1
 have l2 := o2.lt
 have l4 := o4.lt
 have o41 := o4.ext x1 (fun h => h)
 have o21 := o2.ext x1 (fun h => h)
 have k2 := o41.cell (off := 2)
 simp only [aKM, aKN] at k2
 simp (disch := omega) only [aD, bG, aKP, gW, aA, pA, aKO, bP, cE, bO, fE, k2, aH]
 refine (avR (n := sz) hr1 (by omega) ⟨h1, by omega⟩).mono ?_
 rintro r w2 ⟨rfl, hr2, x2⟩
 have o22 := o21.ext x2 (by omega)
 have o42 := o41.ext x2 (by omega)
 have x02 : aW w w2 eU := x1.trans x2 fun y hy h => by omega
 rcases aK9 l.length sz with hs | hs
 .have ht : Af l 0 sz = ([], l, 10) := by unfold Af; rw [if_neg (by simp), if_pos hs]
  rw [ht] at hr2 ⊢
  simp only at hr2 ⊢
  have e1 := aBb (x := rW []) (n := d) (by omega)
  simp (disch := omega) only [sK, aKO, e1, aA, xA, bX]
  refine (auT hr2).mono ?_
  rintro r w3 ⟨rfl, rfl⟩
  have n1 : ((10 : Int) != 0) = true := rfl
  simp (disch := omega) only [dC, n1, aA, aG]
  refine (auT hr2).mono ?_
  rintro r w4 ⟨rfl, rfl⟩
  match c, hc with
  | [c0, c1, c2, c3, c4], _ =>
    refine rD o22 rfl (by simp [one]) (by simp) fun w5 o5 x5 s5 => ?_
    refine AI o5 (by simp [bK]) ?_
    simp only [bK, aKS, aKR, aKU, aKT, aKX]
    exact hk w5 _ (by rw [if_pos hs] <;> rfl) ((x02.mono fun _ _ h => h.elim).seq (x5.mono fun _ _ h => .inl h))
 .have ht : Af l 0 sz = (l.take sz, l.drop sz, 0) := by unfold Af; rw [if_neg (by simp), if_neg (by omega)]
  rw [ht] at hr2 ⊢
  simp only at hr2 ⊢
  have hx := acB (l := l) h5
  have e1 := aBb (x := rW (l.take sz)) (n := d) (by omega)
  have hy : rW (l.take sz) / 2 ^ d <= rW (l.take sz) := aLP _ _
  obtain ⟨Y, hY⟩ : ∃ Y, Y = rW (l.take sz) / 2 ^ d := ⟨_, rfl⟩
  rw [<- hY] at e1 hy hk
  have hpb : 2 ^ b <= 2 ^ 20 := aKY (by omega) hbt.2
  have hpb0 := aLh b
  simp (disch := omega) only [sK, aKO, e1, aA, xA, bX]
  refine (auT hr2).mono ?_
  rintro r w3 ⟨rfl, rfl⟩
  have n1 : ((0 : Int) != 0) = false := rfl
  have e2 : IntKind.u64.wrap (1 * 2 ^ min b IntKind.u64.bits) = ((2 ^ b : Nat) : Int) := by
   have h64 : IntKind.u64.bits = 64 := rfl
   rw [h64, aLH (by omega), Int.one_mul]
   have : (2 : Int) ^ b = ((2 ^ b : Nat) : Int) := by push_cast; rfl
   rw [this]
   exact kR (by omega) (by omega)
  have e3 : IntKind.u64.wrap (((2 ^ b : Nat) : Int) - 1) = ((2 ^ b - 1 : Nat) : Int) := by rw [kR (by omega) (by omega)]; omega
  have e4 := ayB (x := Y) (n := b) (by omega) (by omega)
  have e5 := aBb (x := Y) (n := b) (by omega)
  have hm1 := Nat.mod_le Y (2 ^ b)
  have hm2 := aLP Y (2 ^ b)
  have ew : ∀ z : Nat, z < 2 ^ 62 -> IntKind.i64.wrap (z : Int) = z := fun z hz => aP (by omega) (by omega)
  have e6 := ew (Y % 2 ^ b) (by omega)
  have e7 := ew (Y / 2 ^ b) (by omega)
  simp (disch := omega) only [dC, n1, e2, e3, e4, e6, e5, e7, aA, aE]
  refine oY o42 rfl (by simp) fun w4 o44 x4 s4 => ?_
  simp only [aKS, aKR] at o44
  try simp (disch := omega) only [true_and]
  refine oY o44 rfl (by simp) fun w5 o45 x5 s5 => ?_
  simp only [aKS, aKR] at o45
  have k3 := o45.cell (off := 3)
  simp only [aKM, aKN] at k3
  have x25 := x4.seq x5
  have o25 := o22.ext x25 hne
  have x05 : aW w w5 (fun y => y = p2 ∨ y = p4) := (x02.mono fun _ _ h => h.elim).seq (x25.mono fun _ _ h => .inr h)
  match c, hc with
  | [c0, c1, c2, c3, c4], _ =>
    by_cases hbig : 131072 < Y % 2 ^ b
    .have d1 : decide (131072 < ((Y % 2 ^ b : Nat) : Int)) = true := decide_eq_true (by omega)
     simp (disch := omega) only [k3, aH, aA, dH, d1, aG]
     refine rD o25 rfl (by simp [one]) (by simp) fun w6 o6 x6 s6 => ?_
     refine AI o6 (by simp [bK]) ?_
     simp only [bK, aKS, aKR, aKU, aKT, aKX]
     exact hk w6 _ (by rw [if_neg (by omega), if_pos hbig] <;> rfl) (x05.seq (x6.mono fun _ _ h => .inl h))
    .have d1 : decide (131072 < ((Y % 2 ^ b : Nat) : Int)) = false := decide_eq_false (by omega)
     have q1 := PR (off := 0) o45 (by simp)
     simp only [aKU, aKT, aKX] at q1
     simp (disch := omega) only [k3, aH, aA, dH, d1, q1, aE]
     refine rD o25 rfl (by simp [one]) (by simp) fun w6 o6 x6 s6 => ?_
     refine AI o6 (by simp [bK]) ?_
     simp only [bK, aKS, aKR, aKU, aKT, aKX]
     exact hk w6 _ (by rw [if_neg (by omega), if_neg hbig] <;> rfl) (x05.seq (x6.mono fun _ _ h => .inl h))
def OpR (l : List UInt8) (r : aNk) : Prop := r = if (mT l).2 = 0 then .tuple #[lhV (mT l).1, .int .i64 0] else .tuple #[lh0, .int .i64 (mT l).2]
theorem aJi {x0 : UInt8} {rs : List UInt8} {kd fm : Nat} {r : aNk} (hk : kd = x0.toNat % 4) (hf : fm = x0.toNat / 4 % 4)
 (hr : r = if (x0 :: rs).length < mG kd fm then .tuple #[lh0, .int .i64 10] else if 131072 < rW ((x0 :: rs).take (mG kd fm)) / 2 ^ qS kd fm % 2 ^ tD kd fm then .tuple #[lh0, .int .i64 12] else .tuple #[lhV ⟨kd, fm, mG kd fm, rW ((x0 :: rs).take (mG kd fm)) / 2 ^ qS kd fm % 2 ^ tD kd fm, rW ((x0 :: rs).take (mG kd fm)) / 2 ^ qS kd fm / 2 ^ tD kd fm⟩, .int .i64 0]) : OpR (x0 :: rs) r := by
 subst hk hf
 by_cases h1 : (x0 :: rs).length < mG (x0.toNat % 4) (x0.toNat / 4 % 4)
 .rw [if_pos h1] at hr
  simp only [OpR, mT, if_pos h1]
  rw [hr] <;> rfl
 .rw [if_neg h1] at hr
  simp only [OpR, mT, if_neg h1]
  by_cases h2 : 131072 < rW ((x0 :: rs).take (mG (x0.toNat % 4) (x0.toNat / 4 % 4))) / 2 ^ qS (x0.toNat % 4) (x0.toNat / 4 % 4) % 2 ^ tD (x0.toNat % 4) (x0.toNat / 4 % 4)
  .rw [if_pos h2] at hr
   simp only [if_pos h2]
   rw [hr] <;> rfl
  .rw [if_neg h2] at hr
   simp only [if_neg h2]
   rw [hr] <;> rfl
theorem aHJ {v : aNk} {l : List UInt8} {w : aNj} (h : Bs w v l) (hl : l.length <= 1000000) :
 aS pg AG #[v] w (fun r w' => OpR l r /\ aW w w' eU) := by
 refine WK ?_
 obtain ⟨RR, hRR⟩ : ∃ RR : aNk -> aNj -> Prop, RR = fun r w' => OpR l r /\ aW w w' eU := ⟨_, rfl⟩
 rw [<- hRR]
 unfold T6 Ck DB
 refine BM fun w1 o1 x1 s1 => ?_
 have z1 := x1.size
 rcases aL9 l.length with h0 | h0
 .have hnil := aLq.1 h0
  obtain ⟨va, vn, vc, rfl, hvn, _⟩ := h
  rw [aKZ, h0] at hvn
  subst hvn
  have n1 : (((0 : Nat) : Int) == 0) = true := rfl
  simp (disch := omega) only [aD, aV, gW, aA, jF, and_true, true_and, dU, n1, aG]
  refine rD o1 rfl (by simp [one]) (by simp) fun w2 o2 x2 s2 => ?_
  refine AI o2 (by simp [bK]) ?_
  simp only [bK, aKS, aKR, aKU, aKT, aKX]
  rw [hRR]
  refine ⟨?_, x1.new x2 (aK1 _)⟩
  rw [hnil] <;> rfl
 .have hb := h
  obtain ⟨b, off, c, rfl, hc, hcell⟩ := OE h h0
  obtain ⟨x0, rs, rfl⟩ : ∃ x0 rs, l = x0 :: rs := by
   cases l with
   | nil => simp at h0
   | cons x rs => exact ⟨x, rs, rfl⟩
  have hx0 : x0.toNat < 256 := aLv x0
  have g0 := hcell 0 h0
  rw [aLW] at g0
  have g0 : w.cell? ⟨b, off, none⟩ = some (.int .u8 (x0.toNat : Nat)) := g0
  have g1 := ahD g0 x1 (fun h => h)
  have gd : (dr w1).cell? ⟨b, off, none⟩ = some (.int .u8 (x0.toNat : Nat)) := g1
  have n1 : ((((x0 :: rs).length : Nat) : Int) == 0) = false := by simp; omega
  have t0 : (0 : Int).toNat = 0 := rfl
  have t2 : (2 : Int).toNat = 2 := rfl
  have e1 := aEA hx0
  have e2 := aJ7 (x := x0.toNat) (n := 2) (by omega)
  have e3 := aEA (x := x0.toNat / 2 ^ 2) (by have : x0.toNat / 2 ^ 2 <= x0.toNat := aLP _ _; omega)
  have ew : ∀ z : Nat, z < 2 ^ 62 -> IntKind.i64.wrap (z : Int) = z := fun z hz => aP (by omega) (by omega)
  obtain ⟨kd, hkd⟩ : ∃ kd, kd = x0.toNat % 4 := ⟨_, rfl⟩
  obtain ⟨fm, hfm⟩ : ∃ fm, fm = x0.toNat / 4 % 4 := ⟨_, rfl⟩
  have hfm2 : x0.toNat / 2 ^ 2 % 4 = fm := by rw [hfm]
  rw [<- hkd] at e1
  rw [hfm2] at e3
  have hkd4 : kd < 4 := by omega
  have hfm4 : fm < 4 := by omega
  have e4 := ew kd (by omega)
  have e5 := ew fm (by omega)
  have hpos : 0 < (x0 :: rs).length := h0
  simp (disch := omega) only [aD, aV, gW, aA, dM, t0, aLW, jF, Result.ok.injEq, Next.value.injEq, and_true, iH, true_and, dU, n1, gd, aH, sK, t2, e2, xA, e3, dT, e5, e1, e4, gK, aE]
  refine BM fun w2 o2 x2 s2 => ?_
  have g2 := ahD gd x2 (fun h => h)
  simp (disch := omega) only [g2, aH, and_true, true_and]
  refine rD o2 rfl (by simp [one]) (by simp) fun w3 o3 x3 s3 => ?_
  simp only [bK, aKS, aKR] at o3
  have zd : (dr w1).heap.size = w1.heap.size := rfl
  rw [zd] at o3 x3 ⊢
  have x13 : aW w1 w3 eU := ((aW.dr w1 eU).seq x2).new x3 (by omega)
  have o13 := o1.ext x13 (fun h => h)
  have x03 := x1.seq x13
  have hb3 := h.ext x03 (bZ _)
  obtain ⟨p4, hp4⟩ : ∃ p, p = w1.heap.size := ⟨_, rfl⟩
  obtain ⟨p2, hp2⟩ : ∃ p, p = w.heap.size := ⟨_, rfl⟩
  have l1 := o1.lt
  rw [<- hp4] at o3 ⊢
  rw [<- hp2] at o13 ⊢
  have hne : p2 ≠ p4 := by omega
  have k0 := o3.cell (off := 0)
  simp only [aKM, aKN] at k0
  have fin : ∀ (w4 : aNj) (sz d bt : Nat), sz = mG kd fm -> d = qS kd fm -> bt = tD kd fm -> eM w4 p4 [.int .i64 (kd : Nat), .int .i64 (fm : Nat), .int .i64 (sz : Nat), .int .i64 0, .int .i64 0] -> aW w3 w4 (fun y => y = p4) →
      qH RR (.slice (some ⟨b, off, none⟩) (x0 :: rs).length c) (.pointer (some ⟨p2, 0, none⟩)) (.pointer (some ⟨p4, 0, none⟩)) (.int .i64 (d : Nat)) (.int .i64 (bt : Nat)) w4 := by
   intro w4 sz d bt h1 h2 h3 o4 x4
   subst h1 h2 h3
   have x04 : aW w w4 eU := x03.trans x4 fun y hy h => by omega
   refine aBS (h.ext x04 (bZ _)) hl (o13.ext x4 hne) rfl o4 hne (Sy _ _).1 (Sy _ _).2 (aG4 _ _) (aGI _ _) fun w5 r hr x5 => ?_
   rw [hRR]
   exact ⟨aJi hkd hfm hr, x04.trans x5 fun y hy h => by omega⟩
  unfold D4 DU DF
  simp (disch := omega) only [aD, cN, aA, bO, k0, aH]
  unfold DM MG D0
  have k1 := o3.cell (off := 1)
  simp only [aKM, aKN] at k1
  have t1 : (1 : Int).toNat = 1 := rfl
  have t3 : (3 : Int).toNat = 3 := rfl
  have c0 : (((0 : Nat) : Int)).toNat = 0 := rfl
  have c1 : (((1 : Nat) : Int)).toNat = 1 := rfl
  have c2 : (((2 : Nat) : Int)).toNat = 2 := rfl
  have c3 : (((3 : Nat) : Int)).toNat = 3 := rfl
  by_cases hk2 : kd < 2
  .have P2 : kY (fun fO t2 wD oX oK w => qH RR fO t2 wD oX oK w) (.slice (some ⟨b, off, none⟩) (x0 :: rs).length c) (.pointer (some ⟨p2, 0, none⟩)) (.pointer (some ⟨p4, 0, none⟩)) (.int .i64 4) (.int .i64 20) (.bool true) w3 := by
    rcases (show fm = 0 ∨ fm = 1 ∨ fm = 2 ∨ fm = 3 by omega) with rfl | rfl | rfl | rfl
    .unfold kY
     simp (disch := omega) only [aD, dD, cA, aKP, bG, aA, bO, k1, aH, jT, c0, aG]
     refine oY o3 rfl (by simp) fun w4 o4 x4 s4 => ?_
     simp only [aKS, aKR] at o4
     have k2 := o4.cell (off := 2)
     have k1' := o4.cell (off := 1)
     simp only [aKM, aKN] at k2 k1'
     have n5 : ((1 : Int) == 1) = true := rfl
     simp (disch := omega) only [k2, aH, aA]
     exact fin w4 1 3 20 (by unfold mG; rw [if_pos hk2] <;> rfl) (by unfold qS mG; simp [hk2]) (by unfold tD; rw [if_pos hk2]) o4 x4
    .unfold kY
     simp (disch := omega) only [aD, dD, cA, aKP, bG, aA, bO, k1, aH, jT, c1, aG]
     refine oY o3 rfl (by simp) fun w4 o4 x4 s4 => ?_
     simp only [aKS, aKR] at o4
     have k2 := o4.cell (off := 2)
     have k1' := o4.cell (off := 1)
     simp only [aKM, aKN] at k2 k1'
     have n5 : ((2 : Int) == 1) = false := rfl
     simp (disch := omega) only [k2, aH, aA]
     exact fin w4 2 4 20 (by unfold mG; rw [if_pos hk2] <;> rfl) (by unfold qS mG; simp [hk2]) (by unfold tD; rw [if_pos hk2]) o4 x4
    .unfold kY
     simp (disch := omega) only [aD, dD, cA, aKP, bG, aA, bO, k1, aH, jT, c2, aG]
     refine oY o3 rfl (by simp) fun w4 o4 x4 s4 => ?_
     simp only [aKS, aKR] at o4
     have k2 := o4.cell (off := 2)
     have k1' := o4.cell (off := 1)
     simp only [aKM, aKN] at k2 k1'
     have n5 : ((1 : Int) == 1) = true := rfl
     simp (disch := omega) only [k2, aH, aA]
     exact fin w4 1 3 20 (by unfold mG; rw [if_pos hk2] <;> rfl) (by unfold qS mG; simp [hk2]) (by unfold tD; rw [if_pos hk2]) o4 x4
    .unfold kY
     simp (disch := omega) only [aD, dD, cA, aKP, bG, aA, bO, k1, aH, jT, c3, aG]
     refine oY o3 rfl (by simp) fun w4 o4 x4 s4 => ?_
     simp only [aKS, aKR] at o4
     have k2 := o4.cell (off := 2)
     have k1' := o4.cell (off := 1)
     simp only [aKM, aKN] at k2 k1'
     have n5 : ((3 : Int) == 1) = false := rfl
     simp (disch := omega) only [k2, aH, aA]
     exact fin w4 3 4 20 (by unfold mG; rw [if_pos hk2] <;> rfl) (by unfold qS mG; simp [hk2]) (by unfold tD; rw [if_pos hk2]) o4 x4
   rcases (show kd = 0 ∨ kd = 1 by omega) with rfl | rfl
   .have n2 : (((0 : Nat) : Int) == 0) = true := rfl
    simp (disch := omega) only [aD, dU, n2, aA, aG]
    exact P2
   .have n2 : (((1 : Nat) : Int) == 0) = false := rfl
    have n3 : (((1 : Nat) : Int) == 1) = true := rfl
    simp (disch := omega) only [aD, dU, n2, n3, aA, aE]
    exact P2
  .have n2 : ((kd : Int) == 0) = false := by simp; omega
   have n3 : ((kd : Int) == 1) = false := by simp; omega
   simp (disch := omega) only [aD, dU, n2, n3, aA, aE]
   rcases (show fm = 0 ∨ fm = 1 ∨ fm = 2 ∨ fm = 3 by omega) with rfl | rfl | rfl | rfl
   .unfold kY
    simp (disch := omega) only [aD, dD, cA, aKP, bG, aA, bO, k1, aH, jT, c0, aE]
    refine oY o3 rfl (by simp) fun w4 o4 x4 s4 => ?_
    simp only [aKS, aKR] at o4
    have k2 := o4.cell (off := 2)
    have k1' := o4.cell (off := 1)
    simp only [aKM, aKN] at k2 k1'
    simp (disch := omega) only [k1', aH, aA, jT, c0]
    exact fin w4 3 4 10 (by unfold mG; rw [if_neg hk2] <;> rfl) (by unfold qS; rw [if_neg (fun h => hk2 h.1)]) (by unfold tD; rw [if_neg hk2] <;> rfl) o4 x4
   .unfold kY
    simp (disch := omega) only [aD, dD, cA, aKP, bG, aA, bO, k1, aH, jT, c1, aE]
    refine oY o3 rfl (by simp) fun w4 o4 x4 s4 => ?_
    simp only [aKS, aKR] at o4
    have k2 := o4.cell (off := 2)
    have k1' := o4.cell (off := 1)
    simp only [aKM, aKN] at k2 k1'
    simp (disch := omega) only [k1', aH, aA, jT, c1]
    exact fin w4 3 4 10 (by unfold mG; rw [if_neg hk2] <;> rfl) (by unfold qS; rw [if_neg (fun h => hk2 h.1)]) (by unfold tD; rw [if_neg hk2] <;> rfl) o4 x4
   .unfold kY
    simp (disch := omega) only [aD, dD, cA, aKP, bG, aA, bO, k1, aH, jT, c2, aE]
    refine oY o3 rfl (by simp) fun w4 o4 x4 s4 => ?_
    simp only [aKS, aKR] at o4
    have k2 := o4.cell (off := 2)
    have k1' := o4.cell (off := 1)
    simp only [aKM, aKN] at k2 k1'
    simp (disch := omega) only [k1', aH, aA, jT, c2]
    exact fin w4 4 4 14 (by unfold mG; rw [if_neg hk2] <;> rfl) (by unfold qS; rw [if_neg (fun h => hk2 h.1)]) (by unfold tD; rw [if_neg hk2] <;> rfl) o4 x4
   .unfold kY
    simp (disch := omega) only [aD, dD, cA, aKP, bG, aA, bO, k1, aH, jT, c3, aE]
    refine oY o3 rfl (by simp) fun w4 o4 x4 s4 => ?_
    simp only [aKS, aKR] at o4
    have k2 := o4.cell (off := 2)
    have k1' := o4.cell (off := 1)
    simp only [aKM, aKN] at k2 k1'
    simp (disch := omega) only [k1', aH, aA, jT, c3]
    exact fin w4 5 4 18 (by unfold mG; rw [if_neg hk2] <;> rfl) (by unfold qS; rw [if_neg (fun h => hk2 h.1)]) (by unfold tD; rw [if_neg hk2] <;> rfl) o4 x4
theorem aIw {n : Nat} {w : aNj} (hn : n <= 131072) :
 aS pg AX #[.int .u64 1, .int .u64 n] w (fun r w' => r = .tuple #[.int .u64 0, .int .u64 n] /\ aW w w' eU) := by
 refine Xb ?_
 unfold Ur DL
 have a1 : UD .u64 1 4294967295 = 1 := by decide
 have a2 : UD .u64 (n : Int) 4294967295 = n := by
  have := ayB (x := n) (n := 32) (by omega) (by omega)
  rw [aLt (by omega)] at this
  exact this
 have a0 : UD .u64 0 4294967295 = 0 := by decide
 have s1 : (1 : Int).fdiv (2 ^ min 32 IntKind.u64.bits) = 0 := by decide
 have s0 : (0 : Int).fdiv (2 ^ min 32 IntKind.u64.bits) = 0 := by decide
 have s2 : (n : Int).fdiv (2 ^ min 32 IntKind.u64.bits) = 0 := by
  rw [aBb (by omega), aNe (by omega)] <;> rfl
 have t32 : (32 : Int).toNat = 32 := rfl
 have w0 : IntKind.u64.wrap 0 = 0 := rfl
 have w1 : IntKind.u64.wrap (n : Int) = n := kR (by omega) (by omega)
 simp (disch := omega) only [aD, xA, a1, sK, t32, s1, a2, s2, oL, Int.one_mul, w1, aA, Int.zero_mul, w0, Int.mul_zero, bN, Int.add_zero, a0, s0, true_and]
 exact aW.refl _ _
theorem aJT {n : Nat} {w : aNj} (hn : n <= 131072) :
 aS pg CX #[.int .u64 1, .int .u64 n] w (fun r w' => r = .tuple #[.int .u64 0, .int .u64 n] /\ aW w w' eU) := by
 refine adI ?_
 unfold Zb Ie
 simp (disch := omega) only [aD, kK, LX, aA, aE]
 refine (aIw hn).mono ?_
 rintro r w1 ⟨rfl, x1⟩
 simp (disch := omega) only [pP, pR, aA, true_and]
 exact x1
theorem aIV {z v : aNk} {i n : Nat} (hi : i <= n) : bK (List.replicate i v ++ List.replicate (n - i) z) i ((List.replicate i v).take (min i (n - i))) = List.replicate (i + min i (n - i)) v ++ List.replicate (n - (i + min i (n - i))) z := by
 have e : (List.replicate i v).take (min i (n - i)) = List.replicate (min i (n - i)) v := by
  rw [List.take_replicate]; congr 1; omega
 rw [e]
 generalize hm : min i (n - i) = m
 have hm2 : i + m <= n := by omega
 clear hm e
 induction m generalizing i with
 | zero => simp [bK]
 | succ m ih =>
   rw [aLy]
   simp only [bK]
   rw [show (List.replicate i v ++ List.replicate (n - i) z).set i v = List.replicate (i + 1) v ++ List.replicate (n - (i + 1)) z from ?_]
   .rw [ih (i := i + 1) (by omega) (by omega), show i + 1 + m = i + (m + 1) from by omega]
   .rw [aMt _ _ (by simp), aLJ, aMw, show n - i = (n - (i + 1)) + 1 from by omega, aLy, aKS, aMI, aLj]
    rfl
theorem aFn {c : UInt8} {n p : Nat} {w3 : aNj} {RR : aNk -> aNj -> Prop} (hn : n <= 131072) (o3 : eM w3 p (List.replicate (min 1 n) (vC c) ++ List.replicate (n - min 1 n) (.int .u8 0)))
 (hk : ∀ w4, eM w4 p (List.replicate n (vC c)) -> aW w3 w4 (fun y => y = p) -> RR (.slice (some ⟨p, 0, none⟩) n n) w4) :
 vL RR (.slice (some ⟨p, 0, none⟩) n n) (.int .i64 (min 1 n : Nat)) w3 := by
 unfold vL As Aw
 refine cU.rule (fun m (t : aNk) w' => ∃ i : Nat, m = n - i /\ t = .int .i64 i /\ i <= n /\ (1 <= i ∨ n = 0) /\ eM w' p (List.replicate i (vC c) ++ List.replicate (n - i) (.int .u8 0)) /\ aW w3 w' (fun y => y = p)) (n - min 1 n)
  ⟨min 1 n, rfl, rfl, by omega, by omega, o3, aW.refl _ _⟩ ?_
 rintro m t w4 ⟨i, rfl, rfl, hi, h0, o4, x4⟩
 unfold vG
 by_cases hlt : i < n
 .have d5 : decide ((i : Int) < (n : Int)) = true := by simp; omega
  have q1 : (i : Int).toNat = i := aKO _
  have s1 : mU (some (⟨p, 0, none⟩ : Addr)) n i 1 = some ⟨p, 0 + i, none⟩ := axW (by omega)
  have s2 : mU (some (⟨p, 0, none⟩ : Addr)) n 0 1 = some ⟨p, 0 + 0, none⟩ := axW (by omega)
  simp (disch := omega) only [aD, aV, eH, q1, s1, aKP, iX, s2, Nat.sub_zero, true_and, aA, aU, d5, aG]
  have hs : Bs (dr w4) (.slice (some ⟨p, 0, none⟩) i n) (List.replicate i c) := by
   have := (jW o4).bs (off := 0) (c := n) (l := List.replicate i c) (by simp; omega) (fun j hj => by
    rw [aLJ] at hj
    rw [aKP, aLd (by simp; omega)]
    simp [aMe, hj])
   rw [aLJ] at this
   exact this
  refine arV (off := i) (dl := n - i) (jW o4) (by simp) hs (by simp [one, vC]) fun w5 o5 x5 s5 => ?_
  have hm5 : (List.map vC (List.replicate i c)).length = i := by simp
  rw [hm5, aM9, aIV hi] at o5
  rw [hm5]
  have e5 : (i : Int) + ((min i (n - i) : Nat) : Int) = ((i + min i (n - i) : Nat) : Int) := by omega
  have wi5 : IntKind.i64.wrap ((i + min i (n - i) : Nat) : Int) = ((i + min i (n - i) : Nat) : Int) := aP (by omega) (by omega)
  simp (disch := omega) only [bN, e5, wi5, aA, true_and]
  exact ⟨n - (i + min i (n - i)), by omega, i + min i (n - i), rfl, rfl, by omega, by omega, o5, x4.seq ((aW.dr w4 _).seq x5)⟩
 .have d5 : decide ((i : Int) < (n : Int)) = false := by simp; omega
  have hin : i = n := by omega
  rw [hin, aMw, List.replicate_zero, aLG] at o4
  simp (disch := omega) only [aD, aV, eH, aKO, iX, true_and, aA, aU, d5, aE]
  unfold vM
  exact hk w4 o4 x4
theorem aHd {v : aNk} {c : UInt8} {n : Nat} {w : aNj} (h : Bs w v [c]) (hn : n <= 131072) :
 aS pg wP #[v, .int .i64 n] w (fun r w' => sM w' w.heap.size 1 r n (List.replicate n (vC c)) /\ aW w w' eU) := by
 refine SG ?_
 obtain ⟨RR, hRR⟩ : ∃ RR : aNk -> aNj -> Prop, RR = fun r w' => sM w' w.heap.size 1 r n (List.replicate n (vC c)) /\ aW w w' eU := ⟨_, rfl⟩
 rw [<- hRR]
 obtain ⟨b, off, cap, rfl, hc, hcell⟩ := OE h (by simp)
 have hl1 : ([c] : List UInt8).length = 1 := rfl
 rw [hl1] at *
 have d0 : decide ((n : Int) < 0) = false := decide_eq_false (by omega)
 have e1 : ((1 : Nat) : Int) = 1 := rfl
 have wn : IntKind.u64.wrap (n : Int) = n := kR (by omega) (by omega)
 have w1 : IntKind.u64.wrap 1 = 1 := rfl
 unfold MO yP zC
 simp (disch := omega) only [aD, aU, d0, aA, aE]
 unfold Au Ak
 simp (disch := omega) only [aD, aV, e1, fY, wn, aA, w1]
 refine (aJT hn).mono ?_
 rintro r w1 ⟨rfl, x1⟩
 have d1 : decide ((0 : Int) > 0) = false := rfl
 have d2 : decide ((n : Int) > 9223372036854775807) = false := decide_eq_false (by omega)
 have d3 : decide ((9223372036854775807 : Int) < (n : Int)) = false := decide_eq_false (by omega)
 have d4 : decide ((0 : Int) < 0) = false := rfl
 simp (disch := omega) only [pP, pR, aA, dH, d1, dG, bH, aKQ, if_false, bM, d2, aE]
 unfold Aq Am
 have wi : IntKind.i64.wrap (n : Int) = n := aP (by omega) (by omega)
 simp (disch := omega) only [aD, oE, wi, aA]
 refine arU (by omega) (by omega) fun w2 o2 x2 s2 => ?_
 simp only [aKO] at o2 ⊢
 have z1 := x1.size
 have z2 := x2.size
 have x02 := x1.seq x2
 have h2 := h.ext x02 (bZ _)
 obtain ⟨p, hp⟩ : ∃ p, p = w1.heap.size := ⟨_, rfl⟩
 rw [<- hp] at o2 ⊢
 refine arV (off := 0) o2 (by simp) h2 (by simp [one, vC]) fun w3 o3 x3 s3 => ?_
 have hmn : min (List.map vC [c]).length n = min 1 n := rfl
 rw [hmn] at o3 ⊢
 have hs3 : bK (List.replicate n (Value.int .u8 0)) 0 ((List.map vC [c]).take (min 1 n)) = List.replicate (min 1 n) (vC c) ++ List.replicate (n - min 1 n) (.int .u8 0) := by
  rcases aL9 n with rfl | hp
  .rfl
  .rw [show min 1 n = 1 from by omega]
   obtain ⟨m, rfl⟩ : ∃ m, n = m + 1 := ⟨n - 1, by omega⟩
   rfl
 rw [hs3] at o3
 have x13 : aW w1 w3 eU := x2.new x3 (by omega)
 have x03 := x1.seq x13
 refine aFn hn o3 fun w4 o4 x4 => ?_
 have z4 := x4.size
 have x04 : aW w w4 eU := x03.trans x4 fun y hy h => by omega
 rw [hRR]
 exact ⟨⟨by rw [aLJ, aMc], .inr ⟨p, n, [], rfl, by omega, by rw [aLG]; exact o4, by rw [aLG, aLJ, aMc], aK1 _⟩⟩, x04⟩
def m3 (L : List Int) : List T3 := L.map fun x => (x, 0, 0)
theorem aJA (L : List Int) (i : Nat) (h : i < L.length) (x : Int) : (m3 L).set i (x, ((m3 L)[i]'(by simpa [m3] using h)).2) = m3 (L.set i x) := by
 unfold m3; rw [aM8]; simp
theorem axI {k : IntKind} {L : List Int} {i : Nat} (h : i < L.length) (x : Int) : (fe k (m3 L)).set (i * 3) (.int k x) = fe k (m3 (L.set i x)) := by
 rw [(alZ k (m3 L) i (by simpa [m3] using h) x).1, aJA L i h x]
theorem axE (n high s : Nat) (r : List Nat) (a : Nat) (arr : List Int) : place n high (s :: r) a arr = place n high r (aeV n high n (adv n a)) (arr.set a s) := rfl
theorem azZ {ps : List Int} {i : Nat} (h : i < ps.length) : sY (ps.drop i) i = List.replicate ps[i].toNat i ++ sY (ps.drop (i + 1)) (i + 1) := by
 rw [aLo h, sY]
theorem aJa {w0 w : aNj} {N high j : Nat} (hN : 0 < N) (hN2 : N <= 32768) (hh : 0 < high) (hhN : high <= N) (hx : aW w0 w eU)
 {ov sv a b c d e : aNk} {k : aNk -> aNk -> aNk -> aNk -> aNk -> aNk -> aNk -> aNk -> aNk -> aNk -> aNj -> Prop}
 (hk : ∃ j', aeV N high N (adv N (pos N j)) = pos N j' /\ k (.int .i64 N) ov (.int .i64 high) (.int .i64 (pos N j' : Nat)) sv a b c d e w) :
 Iu k (.int .i64 N) ov (.int .i64 high) (.int .i64 (pos N j : Nat)) sv a b c d e w := by
 obtain ⟨dd, h1, h2, h3⟩ := Xv hN hh (j + 1)
 obtain ⟨j', hj', hk⟩ := hk
 rw [Mb, h3] at hj'
 rw [<- hj'] at hk
 unfold Iu
 refine cU.rule (fun m t w' => ∃ q : Nat, m = dd - q /\ t = .int .i64 (pos N (j + q) : Nat) /\ q <= dd /\ w' = w) dd ⟨0, rfl, rfl, by omega, rfl⟩ ?_
 rintro m t w' ⟨q, rfl, rfl, hq, rfl⟩
 have hp := avF hN (j + q)
 have e1 : ((N : Int)).fdiv (2 ^ (min 1 IntKind.i64.bits)) = ((N / 2 : Nat) : Int) := by
  have : (2 : Int) ^ (min 1 IntKind.i64.bits) = ((2 : Nat) : Int) := by decide
  rw [this, avN]
 have e3 : ((N : Int)).fdiv (2 ^ (min 3 IntKind.i64.bits)) = ((N / 8 : Nat) : Int) := by
  have : (2 : Int) ^ (min 3 IntKind.i64.bits) = ((8 : Nat) : Int) := by decide
  rw [this, avN]
 have t1 : (1 : Int).toNat = 1 := rfl
 have t3 : (3 : Int).toNat = 3 := rfl
 have e4 : (((pos N (j + q) : Nat) : Int) + ((N / 2 : Nat) : Int) + ((N / 8 : Nat) : Int) + 3).tmod (N : Int) = ((pos N (j + q + 1) : Nat) : Int) := by
  rw [aLg (by omega), <- Mb]
  unfold adv
  simp
 unfold IT
 by_cases hd : q = dd
 .subst hd
  have d1 : decide (((pos N (j + q + 1) : Nat) : Int) < (high : Int)) = true := by
   simp only [decide_eq_true_eq]
   rw [show j + 1 + q = j + q + 1 from by omega] at h2
   omega
  simp (disch := omega) only [aD, sK, t1, e1, t3, e3, aA, bN, aP, rH, e4, aU, d1, and_true, aG]
  rw [show j + 1 + q = j + q + 1 from by omega] at hk
  exact hk
 .have d1 : decide (((pos N (j + q + 1) : Nat) : Int) < (high : Int)) = false := by
   have := h1 q (by omega)
   rw [show j + 1 + q = j + q + 1 from by omega] at this
   simp only [decide_eq_false_iff_not]
   omega
  simp (disch := omega) only [aD, sK, t1, e1, t3, e3, aA, bN, aP, rH, e4, aU, d1, and_true, aE]
  exact ⟨dd - (q + 1), by omega, q + 1, rfl, rfl, by omega⟩
theorem aCV {log : Nat} {sv : aNk} {ps : List Int} {w : aNj} (hm : May log ps) (hs : Sl w sv (ps.map (Value.int .i64))) :
 aS pg GR #[.agg #[.int .i64 log, sv]] w (fun r w' => ∃ b, r = .slice (some ⟨b, 0, none⟩) (2 ^ log) (2 ^ log) /\ w.heap.size <= b /\ eM w' b (fe .u8 (m3 (rF 0 log ps))) /\ aW w w' eU) := by
 refine auA ?_
 have h5 := hm.log5
 have h15 := hm.log15
 have hlen := hm.len256
 obtain ⟨arr0, ht, hal, hsum, hfin⟩ := arE hm 0
 rw [hfin]
 have hN1 : 2 ^ 5 <= 2 ^ log := aKY (by omega) h5
 have hN2 : 2 ^ log <= 2 ^ 15 := aKY (by omega) h15
 have hsh : IntKind.i64.wrap (1 * 2 ^ (min log IntKind.i64.bits)) = ((2 ^ log : Nat) : Int) := by
  have : ∀ k : Fin 16, IntKind.i64.wrap (1 * 2 ^ (min k.val IntKind.i64.bits)) = ((2 ^ k.val : Nat) : Int) := by decide
  exact this ⟨log, by omega⟩
 clear hfin
 generalize hN : 2 ^ log = N at *
 generalize hhigh : (sY ps 0).length = high at *
 unfold ayS ON Pt
 refine nK fun w1 o1 x1 s1 => ?_
 have hs1 := hs.ext x1 (bZ _)
 have c0 := o1.cell (off := 0)
 have c1 := o1.cell (off := 1)
 simp only [Value.cells, aKM, aKN] at c0 c1
 obtain ⟨a, c, rfl, hc⟩ := hs.lenI
 simp (disch := omega) only [aD, bV, aA, bO, c0, aH, pA, aKO, hsh]
 refine anS (by omega) (by omega) fun w2 o2 x2 s2 => ?_
 rw [aKO, aEU] at o2
 rw [aKO]
 have o2 : eM w2 w1.heap.size (fe .u8 (m3 (List.replicate N 0))) := by unfold m3; rw [aM9]; exact o2
 have x02 : aW w w2 eU := x1.seq x2
 have ob2 := o1.ext x2 (fun h => h)
 have c1 := ob2.cell (off := 1)
 simp only [Value.cells, aKM, aKN] at c1
 unfold OB MH No Pc Ou
 simp (disch := omega) only [aD, bJ, aKP, aA, dR, c1, aH, gD]
 have hw1 : w.heap.size <= w1.heap.size := x1.size
 refine cU.rule (fun m t w' => ∃ (i hg : Nat) (arr : List Int), m = ps.length - i /\ t = (.int .i64 hg, .int .i64 i) /\ i <= ps.length /\ (vW (ps.drop i) i).length <= hg /\ hg <= N /\ arr.length = N /\ adJ (ps.drop i) i hg arr = (high, arr0) /\ eM w' w1.heap.size (fe .u8 (m3 arr)) /\ aW w w' eU /\ eM w' w.heap.size (Value.cells (.agg #[.int .i64 log, .slice a ps.length c])).toList) ps.length
  ⟨0, N, _, rfl, rfl, by omega, by rw [aKU]; omega, by omega, by simp, by rw [aKU]; exact ht, o2, x02, ob2⟩ ?_
 rintro m t w3 ⟨i, hg, arr, rfl, rfl, hi, hng, hgN, harr, htop, o3, x3, ob3⟩
 by_cases hlt : i < ps.length
 .have d1 : decide ((i : Int) < (ps.length : Int)) = true := by simp; omega
  obtain ⟨b', off', c', e, _, hcell⟩ := (hs.ext x3 (bZ _)).openI (by omega)
  cases e
  have g1 := hcell i hlt
  have hd : ps.drop i = ps[i] :: ps.drop (i + 1) := aLo hlt
  rw [hd, vW] at hng
  rw [hd, adJ] at htop
  unfold Bz FM Gy
  by_cases hp : ps[i] = -1
  .have d2 : (ps[i] == -1) = true := by simpa using hp
   rw [if_pos hp] at hng htop
   simp only [aLa] at hng
   have e1 : (hg : Int) - 1 = ((hg - 1 : Nat) : Int) := by omega
   simp (disch := omega) only [aD, aU, d1, iB, aKO, fE, e1, aP, eS, xB, bN, aA, gU, aKP, eK, bO, g1, aH, dU, d2, aG]
   refine VC o3 rfl (by rw [pS]; simp [m3]; omega) fun w4 o4 x4 s4 => ?_
   rw [axI (by omega)] at o4
   exact ⟨ps.length - (i + 1), by omega, i + 1, hg - 1, _, rfl, rfl, by omega, by omega, by omega, by simp [harr], htop, o4, x3.new x4 hw1, ob3.ext x4 (by omega)⟩
  .have d2 : (ps[i] == -1) = false := by simpa using hp
   rw [if_neg hp] at hng htop
   simp (disch := omega) only [aD, aU, d1, iB, aKO, fE, aP, eS, xB, bN, aA, bO, g1, aH, dU, d2, aE, aG]
   exact ⟨ps.length - (i + 1), by omega, i + 1, hg, arr, rfl, rfl, by omega, by omega, by omega, harr, htop, o3, x3, ob3⟩
 .have d1 : decide ((i : Int) < (ps.length : Int)) = false := by simp; omega
  rw [aMB (by omega), adJ] at htop
  obtain ⟨rfl, rfl⟩ : hg = high /\ arr = arr0 := by simpa using htop
  have c1 := ob3.cell (off := 1)
  simp only [Value.cells, aKM, aKN] at c1
  unfold Bz FM Oc OG On MR OV Ny Oa
  simp (disch := omega) only [aD, aU, d1, fE, aP, eS, aA, bJ, aKP, dR, c1, aH, gD, aE]
  clear d1 hlt hi hng htop
  have hbig : eM w3 w1.heap.size (fe .u8 (m3 arr)) := o3
  refine cU.rule (fun m t w' => ∃ (s j : Nat) (ar : List Int), m = ps.length - s /\ t = (.int .i64 (pos N j : Nat), .int .i64 s) /\ s <= ps.length /\ ar.length = N /\ place N hg (sY (ps.drop s) s) (pos N j) ar = place N hg (sY ps 0) 0 arr /\ (sY (ps.drop s) s).length <= hg /\ eM w' w1.heap.size (fe .u8 (m3 ar)) /\ aW w w' eU) ps.length
   ⟨0, 0, arr, rfl, by rw [V4] <;> rfl, by omega, harr, by rw [V4, aKU], by rw [aKU, hhigh]; exact aK1 _, o3, x3⟩ ?_
  rintro m t w4 ⟨s, j, ar, rfl, rfl, hs4, har, hpl, hrl, o4, x4⟩
  by_cases hlt : s < ps.length
  .have d1 : decide ((s : Int) < (ps.length : Int)) = true := by simp; omega
   obtain ⟨b', off', c', e, _, hcell⟩ := (hs.ext x4 (bZ _)).openI (by omega)
   cases e
   have g1 := hcell s hlt
   obtain ⟨q, hq⟩ : ∃ q, q = ps[s].toNat := ⟨_, rfl⟩
   have emax : (if (0 : Int) > ps[s] then (0 : Int) else ps[s]) = (q : Int) := by rw [hq]; split <;> omega
   rw [azZ hlt, <- hq] at hpl hrl
   have hqN : q <= N := by simp at hrl; omega
   unfold Bd EA NW OL Vo Om OH Vt OT
   simp (disch := omega) only [aD, aU, d1, iB, aKO, aA, bO, g1, aH, AD, emax, aG]
   unfold Pf MM
   refine cU.rule (fun m t w' => ∃ (k j : Nat) (ar : List Int), m = q - k /\ t = (.int .i64 (pos N j : Nat), .int .i64 k) /\ k <= q /\ ar.length = N /\ place N hg (List.replicate (q - k) s ++ sY (ps.drop (s + 1)) (s + 1)) (pos N j) ar = place N hg (sY ps 0) 0 arr /\ eM w' w1.heap.size (fe .u8 (m3 ar)) /\ aW w w' eU) q
    ⟨0, j, ar, rfl, rfl, by omega, har, hpl, o4, x4⟩ ?_
   rintro m t w5 ⟨k, j5, ar5, rfl, rfl, hk, har5, hpl5, o5, x5⟩
   by_cases hkq : k < q
   .have d2 : decide ((k : Int) < (q : Int)) = true := by simp; omega
    have hp := avF (n := N) (by omega) j5
    have hhg : 0 < hg := by simp at hrl; omega
    unfold Bo F6 Ol QV YS Q3
    simp (disch := omega) only [aD, aU, d2, eS, xB, gU, aKO, aKP, aA, eK, aG]
    refine VC o5 rfl (by rw [pS]; simp [m3]; omega) fun w6 o6 x6 s6 => ?_
    rw [axI (by omega)] at o6
    unfold Rp
    rw [show q - k = (q - (k + 1)) + 1 from by omega, aLy, aLV, axE] at hpl5
    obtain ⟨d, _, hd2, hd3⟩ := Xv (n := N) (high := hg) (by omega) hhg (j5 + 1)
    have hsk : aeV N hg N (adv N (pos N j5)) = pos N (j5 + 1 + d) := by rw [Mb]; exact hd3
    refine aJa (w0 := w) (by omega) hN2 hhg hgN (x5.new x6 hw1) ⟨j5 + 1 + d, hsk, ?_⟩
    rw [hsk] at hpl5
    unfold IX
    simp (disch := omega) only [aD, bN, aP, aA]
    exact ⟨q - (k + 1), by omega, k + 1, j5 + 1 + d, _, rfl, rfl, by omega, by simp [har5], hpl5, o6, x5.new x6 hw1⟩
   .have d2 : decide ((k : Int) < (q : Int)) = false := by simp; omega
    rw [show q - k = 0 from by omega, List.replicate_zero, aL8] at hpl5
    unfold Bo F6 Ix
    simp (disch := omega) only [aD, aU, d2, bN, aP, aA, aE]
    exact ⟨ps.length - (s + 1), by omega, s + 1, j5, ar5, rfl, rfl, by omega, har5, hpl5, by simp at hrl; omega, o5, x5⟩
  .have d1 : decide ((s : Int) < (ps.length : Int)) = false := by simp; omega
   rw [aMB (by omega), sY, place] at hpl
   unfold Bd EA I1
   simp (disch := omega) only [aD, aU, d1, aA, aE]
   exact ⟨_, rfl, hw1, by rw [<- hpl]; exact o4, x4⟩
def Es (log : Nat) (ps S : List Int) (i : Nat) : List T3 := (List.range (2 ^ log)).map fun j => if j < i then Ub log ps S j else (S.getD j 0, 0, 0)
def nxt (ps S : List Int) (i : Nat) : List Int := (List.range ps.length).map fun s => iR (ps.getD s 0) + ((S.take i).count (s : Int) : Nat)
theorem aE4 {log : Nat} {ps S : List Int} (h : S.length = 2 ^ log) : Es log ps S 0 = m3 S := by
 unfold Es m3
 apply aMa
 .simp [h]
 .intro i h1 h2
  simp only [aKZ, aNc] at h1
  simp only [aL3, aMu, Nat.not_lt_zero, if_false, aK0]
  rw [aKW (by omega)] <;> rfl
theorem aGs (log : Nat) (ps : List Int) : Es log ps (rF 0 log ps) (2 ^ log) = wY log ps := by
 unfold Es wY
 refine aLs fun j hj => ?_
 rw [if_pos (aLu.1 hj)]
theorem HQ (log : Nat) (ps S : List Int) (i : Nat) : (Es log ps S i).length = 2 ^ log := by simp [Es]
theorem aHE {log : Nat} {ps S : List Int} {i : Nat} (h : i < 2 ^ log) : (Es log ps S i)[i]'(by rw [HQ]; exact h) = (S.getD i 0, 0, 0) := by
 unfold Es; simp
theorem aHb {log : Nat} {ps S : List Int} {i : Nat} (_ : i < 2 ^ log) : (Es log ps S i).set i (Ub log ps S i) = Es log ps S (i + 1) := by
 unfold Es
 apply aMa
 .simp
 .intro j h1 h2
  rw [List.getElem_set]
  simp only [aL3, aMu]
  by_cases hij : i = j
  .subst hij; simp
  .rw [if_neg hij]
   by_cases hj : j < i
   .rw [if_pos hj, if_pos (by omega)]
   .rw [if_neg hj, if_neg (by omega)]
theorem Z7 (ps S : List Int) (i : Nat) : (nxt ps S i).length = ps.length := by simp [nxt]
theorem aGN (ps S : List Int) : nxt ps S 0 = ps.map iR := by
 unfold nxt
 apply aMa
 .simp
 .intro i h1 h2
  simp only [aKZ, aNc] at h1
  simp only [aL3, aMu, aKX, List.count_nil, aK0]
  rw [aKW h1]; simp
theorem aBd {ps S : List Int} {i s : Nat} (h : s < ps.length) : (nxt ps S i)[s]'(by rw [Z7]; exact h) = iR ps[s] + ((S.take i).count (s : Int) : Nat) := by
 unfold nxt
 simp only [aL3, aMu, aK0]
 rw [aKW h] <;> rfl
theorem aH3 {ps S : List Int} {i s : Nat} (h : i < S.length) (hs : s < ps.length) (e : S[i] = (s : Int)) : (nxt ps S i).set s (iR ps[s] + ((S.take i).count (s : Int) : Nat) + 1) = nxt ps S (i + 1) := by
 apply aMa
 .simp [nxt]
 .intro j h1 h2
  have hj : j < ps.length := by simpa [nxt] using h2
  rw [List.getElem_set, aBd hj, aBd hj, aLL, aKW h, aMg]
  simp only [Option.toList, e, aNi]
  by_cases hij : s = j
  .subst hij; simp; omega
  .have : ((s : Int) == (j : Int)) = false := by simp; omega
   rw [if_neg hij, this]; simp
theorem aIy {k b : Nat} (hb : b <= 64) (h : k * 2 ^ b <= 9223372036854775807) : IntKind.i64.wrap ((k : Int) * 2 ^ (min b IntKind.i64.bits)) = ((k * 2 ^ b : Nat) : Int) := by
 have e : min b IntKind.i64.bits = b := by simp only [IntKind.bits]; omega
 rw [e]
 have : (k : Int) * 2 ^ b = ((k * 2 ^ b : Nat) : Int) := by simp
 rw [this]
 exact aP (by omega) (by omega)
section
variable {log : Nat} {ps S : List Int} {w0 w1 : aNj} {p1 p2 p4 b nb N : Nat} {sv : aNk}
theorem aDP (hm : May log ps) (L : Lay log ps S) (hN : 2 ^ log = N) {i : Nat} (hlt : i < N) {w3 : aNj}
 (on3 : eM w3 nb ((nxt ps S i).map (Value.int .i64))) (ob3 : eM w3 b (fe .u8 (Es log ps S i)))
 (o13 : eM w3 p1 [.int .i64 log, sv]) (o43 : eM w3 p4 [.int .i64 log, .slice (some ⟨b, 0, none⟩) N N])
 (hne : p1 ≠ b /\ p4 ≠ b /\ nb ≠ b /\ p1 ≠ nb /\ p4 ≠ nb) {t2 : aNk} {kn : aNk -> aNk -> aNk -> aNk -> aNk -> aNk -> aNj -> Prop}
 (hk : ∀ w', eM w' nb ((nxt ps S (i + 1)).map (Value.int .i64)) -> eM w' b (fe .u8 (Es log ps S (i + 1))) -> aW w3 w' (fun y => y = nb ∨ y = b) →
  kn (.pointer (some ⟨p1, 0, none⟩)) t2 (.pointer (some ⟨p4, 0, none⟩)) (.slice (some ⟨nb, 0, none⟩) ps.length ps.length) (.int .i64 N) (.int .i64 ((i + 1 : Nat) : Int)) w') :
 L8 kn (.pointer (some ⟨p1, 0, none⟩)) t2 (.pointer (some ⟨p4, 0, none⟩)) (.slice (some ⟨nb, 0, none⟩) ps.length ps.length) (.int .i64 N) (.int .i64 i) w3 := by
 have h5 := hm.log5
 have h15 := hm.log15
 have hlen := hm.len256
 have hN2 : 2 ^ log <= 2 ^ 15 := aKY (by omega) h15
 have hSl : S.length = 2 ^ log := L.len
 have c40 := o43.cell (off := 0)
 have c41 := o43.cell (off := 1)
 have c10 := o13.cell (off := 0)
 simp only [aKM, aKN] at c40 c41 c10
 have hltN : i < 2 ^ log := by omega
 obtain ⟨s, hsl, hsS, hp1, hp2, hk', hcnt⟩ := avW hm L hltN
 obtain ⟨k, hkk⟩ : ∃ k, k = kAt ps S i := ⟨_, rfl⟩
 rw [<- hkk] at hk'
 have hk2 : k < 2 ^ (log + 1) := by rw [aLr]; omega
 obtain ⟨eb1, eb2, eb3, eb4⟩ := aBq (log := log) (k := k) (by omega) hk2
 have hel : i < (Es log ps S i).length := by rw [HQ]; exact hltN
 obtain ⟨f0, f1, f2⟩ := V6 .u8 (Es log ps S i) i hel
 rw [aHE hltN] at f0
 simp only at f0
 rw [hsS] at f0
 have g0 := ob3.cell (off := i * 3)
 rw [f0] at g0
 have hnx : ((nxt ps S i).map (Value.int .i64))[s]? = some (.int .i64 k) := by
  rw [aLl, aKW (by rw [Z7]; exact hsl), aBd hsl, hk']
  simp; omega
 have gn := on3.cell (off := s)
 rw [hnx] at gn
 have hkb : k < 131072 := by
  have : 2 ^ (log + 1) <= 2 ^ 16 := aKY (by omega) (by omega)
  omega
 have hpn := sL (hm.low _ (aLA hsl))
 have hSi : S[i]'(by omega) = (s : Int) := by rw [<- hsS, aK0, aKW (by omega)] <;> rfl
 have hns := aH3 (ps := ps) (S := S) (i := i) (s := s) (by omega) hsl hSi
 have hkv : iR ps[s] + ((S.take i).count (s : Int) : Nat) + 1 = (k : Int) + 1 := by rw [hk']; omega
 rw [hkv] at hns
 have hent : Ub log ps S i = F8 log (s : Int) k := by unfold Ub; rw [hsS, <- hkk]
 have hes := aHb (log := log) (ps := ps) (S := S) (i := i) hltN
 rw [hent] at hes
 have hE0 : (Es log ps S i)[i]'hel = ((s : Int), 0, 0) := by rw [aHE hltN, hsS]
 clear hkk hcnt
 unfold L8 Tl ajQ Tj
 simp (disch := omega) only [aD, cS, aKP, aA, gB, c41, aH, gU, aKO, qR, eK, iH, g0, iB, bO, gn, bN, aP]
 refine oY on3 rfl (by simp [Z7]; omega) fun w4 on4 x4 s4 => ?_
 rw [<- aM8, hns] at on4
 unfold TV TO
 have o14 := jW (o13.ext x4 (by omega))
 have o44 := o43.ext x4 (by omega)
 have ob4 := ob3.ext x4 (by omega)
 have c10 := o14.cell (off := 0)
 simp only [aKM] at c10
 simp (disch := omega) only [aD, bV, fY, kR, jF, Result.ok.injEq, Next.value.injEq, and_true, qR, aA, gP, true_and, bO, c10, aH]
 refine (aCi k (by omega) _).mono ?_
 rintro r w5 ⟨rfl, rfl⟩
 obtain ⟨nbits, hnbits⟩ : ∃ x, x = log + 1 - bl k := ⟨_, rfl⟩
 have e2 : (log : Int) - (bl k : Int) + 1 = (nbits : Int) := by omega
 have e3 : IntKind.i64.wrap ((log : Int) - (bl k : Int)) = (log : Int) - (bl k : Int) := aP (by omega) (by omega)
 simp (disch := omega) only [c10, aH, fE, e3, aA, bN, e2, aP, true_and]
 have ob4 := jW ob4
 refine oY ob4 rfl (by rw [pS, HQ]; omega) fun w5 ob5 x5 s5 => ?_
 rw [(alZ .u8 (Es log ps S i) i hel _).2.1, hE0] at ob5
 unfold L7
 have o45 := jW ((jW o44).ext x5 (by omega))
 have ob5 := jW ob5
 have on5 := jW ((jW on4).ext x5 (by omega))
 have c41 := o45.cell (off := 1)
 simp only [aKM, aKN] at c41
 have hel5 : i < ((Es log ps S i).set i ((s : Int), (nbits : Int), 0)).length := by simpa using hel
 obtain ⟨-, f1, -⟩ := V6 .u8 _ i hel5
 simp only [aMU] at f1
 have g1 := ob5.cell (off := i * 3 + 1)
 rw [f1] at g1
 have hnb2 : k * 2 ^ nbits <= 2 ^ 16 := by
  rw [hnbits]
  have : 2 ^ (log + 1) <= 2 ^ 16 := aKY (by omega) (by omega)
  have := aLk (2 ^ (log + 1 - bl k)) (show k <= k + 1 by omega)
  omega
 have e4 := aIy (k := k) (b := nbits) (by omega) (by omega)
 have e5 : (((k * 2 ^ nbits : Nat) : Int) - (N : Int)) = (F8 log (s : Int) k).2.2 := by
  unfold F8
  simp only
  rw [<- hnbits, <- hN]
  simp
 have e6 : IntKind.i64.wrap (((k * 2 ^ nbits : Nat) : Int) - (N : Int)) = ((k * 2 ^ nbits : Nat) : Int) - (N : Int) := aP (by omega) (by omega)
 rw [e5] at e6
 have e7 : (F8 log (s : Int) k) = ((s : Int), (nbits : Int), (F8 log (s : Int) k).2.2) := by unfold F8; rw [hnbits]
 generalize hq : k * 2 ^ nbits = q at *
 generalize hbase : (F8 log (s : Int) k).2.2 = base at *
 simp (disch := omega) only [aD, qR, cS, aKP, aA, iJ, true_and, gB, c41, aH, iO, gP, bO, g1, pA, aKO, e4, fE, e5, e6]
 refine oY ob5 rfl (by rw [pS]; simp [HQ]; omega) fun w6 ob6 x6 s6 => ?_
 rw [(alZ .u8 _ i hel5 _).2.2] at ob6
 simp only [aMU, List.set_set] at ob6
 rw [<- e7, hes] at ob6
 have xx : aW w3 w6 (fun y => y = nb ∨ y = b) :=
  ((((x4.mono fun _ _ h => .inl h : aW w3 w4 (fun y => y = nb ∨ y = b)).seq (aW.dr _ _)).seq (x5.mono fun _ _ h => .inr h)).seq (aW.dr _ _)).seq (x6.mono fun _ _ h => .inr h)
 unfold L9
 simp (disch := omega) only [aD, bN, aP, aA]
 exact hk _ (on5.ext x6 (by omega)) ob6 xx
theorem aFe (hm : May log ps) (L : Lay log ps S) (hN : 2 ^ log = N) {w3 : aNj}
 (on3 : eM w3 nb ((nxt ps S 0).map (Value.int .i64))) (ob3 : eM w3 b (fe .u8 (m3 S)))
 (o13 : eM w3 p1 [.int .i64 log, sv]) (o23 : eM w3 p2 [.int .i64 0, .slice none 0 0]) (o43 : eM w3 p4 [.int .i64 log, .slice (some ⟨b, 0, none⟩) N N])
 (hne : p1 ≠ b /\ p4 ≠ b /\ nb ≠ b /\ p1 ≠ nb /\ p4 ≠ nb /\ p2 ≠ b /\ p2 ≠ nb) (hlo : w0.heap.size <= p2 /\ w0.heap.size <= b /\ w0.heap.size <= nb) (hx : aW w0 w3 eU) {R : aNk -> aNj -> Prop}
 (hR : ∀ w', eM w' b (fe .u8 (Es log ps S N)) -> aW w0 w' eU -> R (.tuple #[.agg #[.int .i64 log, .slice (some ⟨b, 0, none⟩) N N], .int .i64 0]) w') :
 IQ R (.pointer (some ⟨p1, 0, none⟩)) (.pointer (some ⟨p2, 0, none⟩)) (.pointer (some ⟨p4, 0, none⟩)) (.slice (some ⟨nb, 0, none⟩) ps.length ps.length) w3 := by
 have hN2 : 2 ^ log <= 2 ^ 15 := aKY (by omega) hm.log15
 have c41 := o43.cell (off := 1)
 simp only [aKM, aKN] at c41
 unfold IQ Qi Rc RJ RA
 simp (disch := omega) only [aD, cS, aKP, aA, gB, c41, aH, iO]
 have ob0 : eM w3 b (fe .u8 (Es log ps S 0)) := by rw [aE4 L.len]; exact ob3
 refine cU.rule (fun m t w' => ∃ i : Nat, m = N - i /\ t = .int .i64 i /\ i <= N /\ eM w' nb ((nxt ps S i).map (Value.int .i64)) /\ eM w' b (fe .u8 (Es log ps S i)) /\ aW w3 w' (fun y => y = nb ∨ y = b)) N
  ⟨0, rfl, rfl, by omega, on3, ob0, aW.refl _ _⟩ ?_
 rintro m t w4 ⟨i, rfl, rfl, hi, on4, ob4, x4⟩
 unfold Iv Rw
 have o44 := o43.ext x4 (by omega)
 have o24 := o23.ext x4 (by omega)
 by_cases hlt : i < N
 .have d1 : decide ((i : Int) < (N : Int)) = true := by simp only [decide_eq_true_eq]; omega
  simp (disch := omega) only [aD, aU, d1, aA, aG]
  refine aDP hm L hN hlt on4 ob4 (o13.ext x4 (by omega)) o44 ⟨hne.1, hne.2.1, hne.2.2.1, hne.2.2.2.1, hne.2.2.2.2.1⟩ fun w5 on5 ob5 x5 => ?_
  exact ⟨N - (i + 1), by omega, i + 1, rfl, rfl, by omega, on5, ob5, x4.trans x5 (fun _ _ h => h)⟩
 .have d1 : decide ((i : Int) < (N : Int)) = false := by simp only [decide_eq_false_iff_not]; omega
  have : i = N := by omega
  subst this
  have l4 := QE (off := 0) o44 (by simp)
  simp only [aKU, aKT, aKX] at l4
  simp (disch := omega) only [aD, aU, d1, aA, aE]
  unfold Mc
  simp (disch := omega) only [aD, l4, aA]
  refine IW o24 rfl (by simp [one]) (by simp) fun w5 o25 x5 s5 => ?_
  refine azU o25 (by simp [bK]) ?_
  simp only [bK, aKS, aKR, aKU, aKT, aKX]
  exact hR _ (ob4.ext x5 (by omega)) ((hx.trans x4 (fun y hy hh => by omega)).new x5 hlo.1)
theorem aEc (hm : May log ps) (L : Lay log ps S) (hN : 2 ^ log = N) {w : aNj} (hs : Sl w0 sv (ps.map (Value.int .i64)))
 (o1 : eM w p1 [.int .i64 log, sv]) (o2 : eM w p2 [.int .i64 0, .slice none 0 0]) (o4 : eM w p4 [.int .i64 log, .slice (some ⟨b, 0, none⟩) N N]) (ob : eM w b (fe .u8 (m3 S)))
 (hlo : w0.heap.size <= p2 /\ w0.heap.size <= b) (hne : p1 ≠ b /\ p2 ≠ b /\ p4 ≠ b) (hx : aW w0 w eU) {R : aNk -> aNj -> Prop}
 (hR : ∀ w', eM w' b (fe .u8 (Es log ps S N)) -> aW w0 w' eU -> R (.tuple #[.agg #[.int .i64 log, .slice (some ⟨b, 0, none⟩) N N], .int .i64 0]) w') :
 Ct R (.pointer (some ⟨p1, 0, none⟩)) (.pointer (some ⟨p2, 0, none⟩)) (.pointer (some ⟨p4, 0, none⟩)) w := by
 have hlen := hm.len256
 have hN2 : 2 ^ log <= 2 ^ 15 := aKY (by omega) hm.log15
 obtain ⟨a, c, rfl, hc⟩ := hs.lenI
 have c1 := o1.cell (off := 1)
 simp only [aKM, aKN] at c1
 unfold Ct Qw
 simp (disch := omega) only [aD, bJ, aKP, aA, dR, c1, aH, gD]
 refine aFz (by omega) (by omega) fun w1 on x1 s1 => ?_
 rw [aKO] at on ⊢
 have l1 := o1.lt
 have l2 := o2.lt
 have l4 := o4.lt
 have lb := ob.lt
 have o1 := o1.ext x1 (fun h => h)
 have o2 := o2.ext x1 (fun h => h)
 have o4 := o4.ext x1 (fun h => h)
 have ob := ob.ext x1 (fun h => h)
 have x01 := hx.seq x1
 have c1 := o1.cell (off := 1)
 simp only [aKM, aKN] at c1
 have hwn : w0.heap.size <= w.heap.size := hx.size
 generalize w.heap.size = nb at *
 unfold Qm QJ QG Ru Ry
 simp (disch := omega) only [aD, bJ, aKP, aA, dR, c1, aH, gD]
 refine cU.rule (fun m t w' => ∃ i : Nat, m = ps.length - i /\ t = .int .i64 i /\ i <= ps.length /\ eM w' nb (((ps.take i).map iR ++ List.replicate (ps.length - i) 0).map (Value.int .i64)) /\ aW w0 w' eU /\ aW w1 w' (fun y => y = nb)) ps.length
  ⟨0, rfl, rfl, by omega, by simpa using on, x01, aW.refl _ _⟩ ?_
 rintro m t w2 ⟨i, rfl, rfl, hi, on2, x2, y2⟩
 by_cases hlt : i < ps.length
 .have d1 : decide ((i : Int) < (ps.length : Int)) = true := by simp; omega
  obtain ⟨b', off', c', e, _, hcell⟩ := (hs.ext x2 (bZ _)).openI (by omega)
  cases e
  have g1 := hcell i hlt
  have hp := hm.low _ (aLA hlt)
  have hple := awA hm hlt
  have hpv : iR ps[i] = ps[i] ∨ ps[i] = -1 := by unfold iR; split <;> omega
  have hpn := sL hp
  have emax : (if (0 - ps[i]) > ps[i] then (0 - ps[i]) else ps[i]) = iR ps[i] := by unfold iR; split <;> split <;> omega
  unfold Cz
  simp (disch := omega) only [aD, aU, d1, iB, aKO, aKP, bN, aP, aA, bO, g1, aH, LY, AD, emax, aG]
  refine oY on2 rfl (by simp; omega) fun w3 on3 x3 s3 => ?_
  refine ⟨ps.length - (i + 1), by omega, i + 1, rfl, rfl, by omega, ?_, x2.new x3 hwn, y2.trans x3 (fun _ _ h => h)⟩
  rw [<- aM8] at on3
  have e : ((ps.take i).map iR ++ List.replicate (ps.length - i) 0).set i (iR ps[i]) = (ps.take (i + 1)).map iR ++ List.replicate (ps.length - (i + 1)) 0 := by
   rw [show ps.length - i = (ps.length - (i + 1)) + 1 from by omega, aLy, aMt _ _ (by rw [aKZ, aK2]; omega)]
   have : i - ((ps.take i).map iR).length = 0 := by rw [aKZ, aK2]; omega
   rw [this, aKS, aLL, aKW hlt, aLe, aLj]
   rfl
  rw [e] at on3
  exact on3
 .have d1 : decide ((i : Int) < (ps.length : Int)) = false := by simp; omega
  have : i = ps.length := by omega
  subst this
  have on2 : eM w2 nb ((nxt ps S 0).map (Value.int .i64)) := by rw [aGN]; simpa using on2
  unfold Cz
  simp (disch := omega) only [aD, aU, d1, bN, aP, aA, aE]
  exact aFe hm L hN on2 (ob.ext y2 (by omega)) (o1.ext y2 (by omega)) (o2.ext y2 (by omega)) (o4.ext y2 (by omega)) (by omega) (by omega) x2 hR
def Tbl (w : aNj) (base b log : Nat) (L : List T3) (v : aNk) : Prop := v = .agg #[.int .i64 log, .slice (some ⟨b, 0, none⟩) L.length L.length] /\ base <= b /\ eM w b (fe .u8 L)
theorem aE0 {log most : Nat} {ps : List Int} (h : May log ps) (hl : log <= most) : aFB log ps most = 0 := by
 unfold aFB; rw [h.b]; simp; omega
theorem aIA {w : aNj} (hm : May log ps) (hs : Sl w sv (ps.map (Value.int .i64))) :
 aS pg I7 #[.agg #[.int .i64 log, sv]] w (fun r w' => ∃ b v, r = .tuple #[v, .int .i64 0] /\ Tbl w' w.heap.size b log (wY log ps) v /\ aW w w' eU) := by
 refine avV ?_
 have hlen := hm.len256
 unfold aAL Q2 QS
 refine nK fun w1 o1 x1 s1 => ?_
 refine Mm fun w2 o2 x2 s2 => ?_
 have o1 := o1.ext x2 (fun h => h)
 have l1 := rB (off := 0) o1 (by simp [Value.cells])
 simp only [Value.cells, aKU, aKT, aKX] at l1
 simp (disch := omega) only [aD, l1, lZ, aA, bV, jF, Result.ok.injEq, Next.value.injEq, and_true, bO, true_and]
 refine (aH0 (most := 15) ((hs.ext x1 (bZ _)).ext x2 (bZ _)) (by omega)).mono ?_
 rintro r w3 ⟨rfl, x3⟩
 have hce := aE0 (most := 15) hm hm.log15
 rw [show (((15 : Nat) : Int)) = 15 from rfl] at hce
 rw [hce]
 have e0 : ((0 : Int) != 0) = false := rfl
 have x03 : aW w w3 eU := (x1.seq x2).seq x3
 have o1 := jW (o1.ext x3 (fun h => h))
 have o2 := jW (o2.ext x3 (fun h => h))
 have c0 := o1.cell (off := 0)
 simp only [Value.cells, aKM] at c0
 have l1 := rB (off := 0) o1 (by simp [Value.cells])
 simp only [Value.cells, aKU, aKT, aKX] at l1
 have hz2 := o2.lt
 have fin : ∀ {b p4 : Nat} {w' : aNj}, eM w' w.heap.size [.int .i64 log, sv] -> eM w' w1.heap.size [.int .i64 0, .slice none 0 0] -> eM w' p4 [.int .i64 log, .slice (some ⟨b, 0, none⟩) (2 ^ log) (2 ^ log)] -> eM w' b (fe .u8 (m3 (rF 0 log ps))) -> w2.heap.size <= b -> p4 ≠ b -> aW w w' eU →
     Ct (fun r w' => ∃ b v, r = .tuple #[v, .int .i64 0] /\ Tbl w' w.heap.size b log (wY log ps) v /\ aW w w' eU) (.pointer (some ⟨w.heap.size, 0, none⟩)) (.pointer (some ⟨w1.heap.size, 0, none⟩)) (.pointer (some ⟨p4, 0, none⟩)) w' := by
  intro b p4 w' h1 h2 h3 h4 h5 h6 h7
  refine aEc hm (OQ hm 0) rfl hs h1 h2 h3 h4 (by omega) (by omega) h7 fun w'' ho hx => ?_
  rw [aGs] at ho
  exact ⟨b, _, rfl, ⟨by rw [wU], by omega, ho⟩, hx⟩
 simp (disch := omega) only [dC, e0, aA, aE]
 have hdr : (dr w3).heap.size = w3.heap.size := rfl
 have h23 := x3.size
 refine aGp ?_ ?_
 .simp (disch := omega) only [c0, aH, l1, aA, true_and]
  refine (aCV hm ((hs.ext x03 (bZ _)).dr)).mono ?_
  rintro r w4 ⟨b, rfl, hb, ob, x4⟩
  have o1 := o1.ext x4 (fun h => h)
  have c0 := o1.cell (off := 0)
  simp only [Value.cells, aKM] at c0
  simp (disch := omega) only [c0, aH, iY, Result.ok.injEq, Next.value.injEq, and_true, aA, true_and]
  refine Mm fun w5 o5 x5 s5 => ?_
  have o1 := o1.ext x5 (fun h => h)
  have c0 := o1.cell (off := 0)
  simp only [Value.cells, aKM] at c0
  simp (disch := omega) only [c0, aH, true_and]
  have hlb := ob.lt
  refine IW o5 rfl (by simp [one]) (by simp) fun w6 o6 x6 s6 => ?_
  have h45 := x4.size
  refine fin (o1.ext x6 (by omega)) (((o2.ext x4 (fun h => h)).ext x5 (fun h => h)).ext x6 (by omega)) o6 ((ob.ext x5 (fun h => h)).ext x6 (by omega)) (by omega) (by omega) ?_
  exact (((x03.seq (aW.dr _ _)).seq x4).seq x5).new x6 (by omega)
 .simp (disch := omega) only [c0, aH, l1, aA, true_and]
  refine Mm fun w4 o4 x4 s4 => ?_
  have o1 := o1.ext x4 (fun h => h)
  have c0 := o1.cell (off := 0)
  simp only [Value.cells, aKM] at c0
  have l1 := rB (off := 0) o1 (by simp [Value.cells])
  simp only [Value.cells, aKU, aKT, aKX] at l1
  simp (disch := omega) only [l1, c0, aH, and_true, true_and]
  refine (aCV hm ((((hs.ext x03 (bZ _)).dr).ext x4 (bZ _)))).mono ?_
  rintro r w5 ⟨b, rfl, hb, ob, x5⟩
  have o1 := o1.ext x5 (fun h => h)
  have c0 := o1.cell (off := 0)
  simp only [Value.cells, aKM] at c0
  simp (disch := omega) only [c0, aH, iY, aA, true_and]
  refine IW (o4.ext x5 (fun h => h)) rfl (by simp [one]) (by simp) fun w6 o6 x6 s6 => ?_
  refine fin (o1.ext x6 (by omega)) (((o2.ext x4 (fun h => h)).ext x5 (fun h => h)).ext x6 (by omega)) o6 (ob.ext x6 (by omega)) (by omega) (by omega) ?_
  exact (((x03.seq (aW.dr _ _)).seq x4).seq x5).new x6 (by omega)
end
theorem Tbl.ext {w w' : aNj} {base b log : Nat} {L : List T3} {v : aNk} {M : Nat -> Prop} (h : Tbl w base b log L v) (hx : aW w w' M) (hM : ¬ M b) : Tbl w' base b log L v := ⟨h.1, h.2.1, h.2.2.ext hx hM⟩
theorem aBh {k : IntKind} {L : List T3} {i : Nat} (h : i < L.length) : ((fe k L).drop (i * 3)).take 3 = [.int k L[i].1, .int .i64 L[i].2.1, .int .i64 L[i].2.2] := by
 obtain ⟨h0, h1, h2⟩ := V6 k L i h
 apply aLY
 intro j
 match j with
 | 0 => rw [aLB (by omega), aMs]; exact h0
 | 1 => rw [aLB (by omega), aMs]; exact h1
 | 2 => rw [aLB (by omega), aMs]; exact h2
 | j + 3 => rw [aK3 (by rw [aK2]; omega), aK3 (by simp)]
theorem aDY (log : Nat) (ps : List Int) {i : Nat} (h : i < 2 ^ log) : ((wY log ps)[i]'(by rw [wU]; exact h)).1 = (rF 0 log ps).getD i 0 := by
 unfold wY Ub F8; simp
def cn (S : List Int) (i : Nat) : List Int := (List.range 256).map fun (s : Nat) => (((S.take i).count (s : Int) : Nat) : Int)
theorem aqA (S : List Int) (i : Nat) : (cn S i).length = 256 := by simp [cn]
theorem aIk (S : List Int) : cn S 0 = List.replicate 256 0 := by
 unfold cn
 apply aMa
 .simp
 .intro i h1 h2
  simp only [aL3, aMu, aKX, List.count_nil, List.getElem_replicate]; rfl
theorem aD0 {S : List Int} {i s : Nat} (h : s < 256) : (cn S i)[s]'(by rw [aqA]; exact h) = (((S.take i).count (s : Int) : Nat) : Int) := by simp [cn]
theorem aJu {S : List Int} {i s : Nat} (hi : i < S.length) (hs : s < 256) (e : S[i] = (s : Int)) : (cn S i).set s ((((S.take i).count (s : Int) : Nat) : Int) + 1) = cn S (i + 1) := by
 apply aMa
 .simp [cn]
 .intro j h1 h2
  have hj : j < 256 := by simpa [cn] using h2
  rw [List.getElem_set, aD0 hj, aD0 hj, aLL, aKW hi, aMg]
  simp only [Option.toList, e, aNi]
  by_cases hij : s = j
  .subst hij; simp
  .have : ((s : Int) == (j : Int)) = false := by simp; omega
   rw [if_neg hij, this]; simp
theorem aH8 {k : IntKind} {L : List T3} {i : Nat} {e : T3} (h : L[i]? = some e) : (fe k L)[i * 3]? = some (.int k e.1) /\ (fe k L)[i * 3 + 1]? = some (.int .i64 e.2.1) /\ (fe k L)[i * 3 + 2]? = some (.int .i64 e.2.2) := by
 have hi : i < L.length := by
  rcases aK9 i L.length with h' | h'
  .exact h'
  .rw [aK3 h'] at h; cases h
 rw [aKW hi] at h
 have := V6 k L i hi
 rw [aLf h] at this
 exact this
def Low (L : List T3) : Prop := ∀ e ∈ L, ∃ n : Nat, e.2.1 = (n : Int) /\ n <= 20 /\ 0 <= e.2.2 /\ e.2.2 <= 100000
theorem aDR {log : Nat} {ps : List Int} (hm : May log ps) : Low (wY log ps) := by
 intro e he
 obtain ⟨i, hi', rfl⟩ := aMi he
 have hi := hi'
 rw [wU] at hi
 have hat := azV (ps := ps) hi
 rw [aKW hi'] at hat
 rw [aLf hat]
 have L := OQ hm 0
 obtain ⟨s, hs, hg, hp1, hp2, hk, hc⟩ := avW hm L hi
 have hk2 : kAt ps (rF 0 log ps) i < 2 ^ (log + 1) := by rw [aLr]; omega
 obtain ⟨e1, e2, e3, e4⟩ := aBq (log := log) (k := kAt ps (rF 0 log ps) i) (by omega) hk2
 have h15 := hm.log15
 have hb : 2 ^ (log + 1) <= 2 ^ 16 := aKY (by omega) (by omega)
 have hpow : ((2 ^ log : Nat) : Int) = (2 : Int) ^ log := by simp
 unfold Ub F8
 rw [<- hpow]
 rw [Nat.succ_mul] at e2
 have hA := aLT (aLT (Nat.le_add_right _ _) e2) hb
 generalize hX : kAt ps (rF 0 log ps) i * 2 ^ (log + 1 - bl (kAt ps (rF 0 log ps) i)) = X at *
 refine ⟨_, rfl, by omega, ?_, ?_⟩
 .show (0 : Int) <= (X : Int) - ((2 ^ log : Nat) : Int)
  omega
 .show (X : Int) - ((2 ^ log : Nat) : Int) <= 100000
  omega
theorem aFX {log k : Nat} (h15 : log <= 15) (hk1 : 1 <= k) (hk2 : k < 2 ^ (log + 1)) {w0 w : aNj} {p1 : Nat} {sv t2 n5 t6 seen i15 : aNk} (o1 : eM w p1 [.int .i64 log, sv])
 {k12 : aNk -> aNk -> aNk -> aNk -> aNk -> aNk -> aNk -> aNk -> aNj -> Prop}
 (hR : k12 (.pointer (some ⟨p1, 0, none⟩)) t2 n5 t6 seen i15 (.int .i64 k) (.int .i64 ((log + 1 - bl k : Nat) : Int)) w) :
 GG k12 (.pointer (some ⟨p1, 0, none⟩)) t2 n5 t6 seen i15 (.int .i64 k) (.int .i64 log) w := by
 have hb1 := Nh (k := k) (by omega)
 have hb2 := wH hk2
 have hlt := Wk k
 have hle := Y9 (k := k) (by omega)
 have c0 := o1.cell (off := 0)
 simp only [aKM] at c0
 unfold GG
 refine cU.rule (fun m t w' => ∃ q : Nat, m = log - q /\ t = .int .i64 ((log - q : Nat) : Int) /\ q + 1 <= bl k /\ w' = w) log ⟨0, rfl, rfl, by omega, rfl⟩ ?_
 rintro m t w' ⟨q, rfl, rfl, hq, rfl⟩
 have e1 : (log : Int) - ((log - q : Nat) : Int) + 1 = ((q + 1 : Nat) : Int) := by omega
 have hw : IntKind.i64.wrap ((log : Int) - ((log - q : Nat) : Int)) = (log : Int) - ((log - q : Nat) : Int) := aP (by omega) (by omega)
 unfold F1
 simp (disch := omega) only [aD, bB, fE, aP, aA, bO, c0, aH, hw, bN, e1]
 refine (IP (q + 1) (by omega) _).mono ?_
 rintro r w1 ⟨rfl, rfl⟩
 have hpw : ((2 ^ (q + 1) : Nat) : Int) = (2 : Int) ^ (q + 1) := by simp
 rw [<- hpw]
 by_cases hc : 2 ^ (q + 1) <= k
 .have d1 : decide (((2 ^ (q + 1) : Nat) : Int) <= (k : Int)) = true := by simp only [decide_eq_true_eq]; omega
  have hq2 : q + 2 <= bl k := by
   rcases aK9 (q + 1) (bl k) with h | h
   .exact h
   .have : bl k = q + 1 := by omega
    rw [this] at hlt; omega
  simp (disch := omega) only [zL, d1, aA, and_true, aG]
  exact ⟨log - (q + 1), by omega, q + 1, rfl, by congr 1; omega, hq2⟩
 .have d1 : decide (((2 ^ (q + 1) : Nat) : Int) <= (k : Int)) = false := by simp only [decide_eq_false_iff_not]; omega
  have : bl k = q + 1 := by
   have := wH (k := k) (n := q + 1) (by omega)
   omega
  rw [this, show log + 1 - (q + 1) = log - q from by omega] at hR
  simp (disch := omega) only [zL, d1, aA, and_true, aE]
  exact hR
theorem aFc {N high j : Nat} (hN : 0 < N) (hN2 : N <= 32768) (hh : 0 < high) (hhN : high <= N) {w : aNj} {c1 t2 t6 s k : aNk}
 {k8 : aNk -> aNk -> aNk -> aNk -> aNk -> aNk -> aNk -> aNk -> aNj -> Prop}
 (hR : k8 c1 t2 (.int .i64 N) t6 (.int .i64 ((high : Int) - 1)) (.int .i64 (aeV N high N (pos N j) : Nat)) s k w) :
 Db k8 c1 t2 (.int .i64 N) t6 (.int .i64 ((high : Int) - 1)) (.int .i64 (pos N j : Nat)) s k (.int .i64 0) w := by
 obtain ⟨d, h1, h2, h3⟩ := Xv hN hh j
 have hd : d < N := by
  obtain ⟨D, hD, h0⟩ := aE2 N j hN
  rcases aK9 d N with h | h
  .exact h
  .have := h1 D (by omega)
   omega
 rw [h3] at hR
 unfold Db
 refine cU.rule (fun m t w' => ∃ q : Nat, m = d - q /\ t = (.int .i64 (pos N (j + q) : Nat), .int .i64 q) /\ q <= d /\ w' = w) d ⟨0, rfl, rfl, by omega, rfl⟩ ?_
 rintro m t w' ⟨q, rfl, rfl, hq, rfl⟩
 have hp := avF hN (j + q)
 have d1 : decide ((q : Int) < (N : Int)) = true := by simp only [decide_eq_true_eq]; omega
 have e1 : (N : Int).tdiv 2 = ((N / 2 : Nat) : Int) := by rw [aK6 (by omega)]; omega
 have e3 : (N : Int).tdiv 8 = ((N / 8 : Nat) : Int) := by rw [aK6 (by omega)]; omega
 have e4 : (((pos N (j + q) : Nat) : Int) + ((N / 2 : Nat) : Int) + ((N / 8 : Nat) : Int) + 3).tmod (N : Int) = ((pos N (j + q + 1) : Nat) : Int) := by
  rw [aLg (by omega), <- Mb]
  unfold adv
  simp
 unfold Dk
 by_cases hqd : q < d
 .have := h1 q hqd
  have d2 : decide ((high : Int) - 1 < ((pos N (j + q) : Nat) : Int)) = true := by simp only [decide_eq_true_eq]; omega
  simp (disch := omega) only [aD, aU, d1, oP, e1, aP, e3, bN, aA, rH, e4, pZ, bH, if_true, bM, dH, d2, and_true, aG]
  exact ⟨d - (q + 1), by omega, q + 1, rfl, rfl, by omega⟩
 .have : q = d := by omega
  subst this
  have d2 : decide ((high : Int) - 1 < ((pos N (j + q) : Nat) : Int)) = false := by simp only [decide_eq_false_iff_not]; omega
  simp (disch := omega) only [aD, aU, d1, oP, aP, bN, aA, rH, pZ, bH, if_true, bM, dH, d2, and_true, aE]
  exact hR
theorem aAz {k : IntKind} {L : List Int} {rest : List aNk} {i : Nat} (h : i < L.length) (x : Int) : (fe k (m3 L) ++ rest).set (i * 3) (.int k x) = fe k (m3 (L.set i x)) ++ rest := by
 rw [aL4 _ _ (by rw [pS]; simp [m3]; omega), axI h]
theorem aFd {log N high cc p1 p6 b : Nat} {ps : List Int} {sv t2 : aNk} {arr arr' : List Int} {rest : List aNk} {w0 w : aNj} (hm : May log ps) (hs : Sl w0 sv (ps.map (Value.int .i64))) (hx : aW w0 w eU)
 (hN2 : N <= 32768) (hcc : N <= cc) (harr : arr.length = N) (hng : (vW ps 0).length <= N) (ht : adJ ps 0 N arr = (high, arr')) (hlo : w0.heap.size <= b) (hne : p1 ≠ b /\ p6 ≠ b)
 (o1 : eM w p1 [.int .i64 log, sv]) (o6 : eM w p6 [.int .i64 log, .slice (some ⟨b, 0, none⟩) N cc]) (ob : eM w b (fe .i64 (m3 arr) ++ rest))
 {k2 : aNk -> aNk -> aNk -> aNk -> aNk -> aNj -> Prop}
 (hR : ∀ w', eM w' b (fe .i64 (m3 arr') ++ rest) -> aW w w' (fun y => y = b) -> k2 (.pointer (some ⟨p1, 0, none⟩)) t2 (.int .i64 N) (.pointer (some ⟨p6, 0, none⟩)) (.int .i64 ((high : Int) - 1)) w') :
 Dn k2 (.pointer (some ⟨p1, 0, none⟩)) t2 (.int .i64 N) (.pointer (some ⟨p6, 0, none⟩)) (.int .i64 ((N : Int) - 1)) (.int .i64 0) w := by
 have hlen := hm.len256
 obtain ⟨a, c, rfl, hc⟩ := hs.lenI
 unfold Dn
 refine cU.rule (fun m t w' => ∃ (i hg : Nat) (ar : List Int), m = ps.length - i /\ t = (.int .i64 ((hg : Int) - 1), .int .i64 i) /\ i <= ps.length /\ (vW (ps.drop i) i).length <= hg /\ hg <= N /\ ar.length = N /\ adJ (ps.drop i) i hg ar = (high, arr') /\ eM w' b (fe .i64 (m3 ar) ++ rest) /\ aW w w' (fun y => y = b)) ps.length
  ⟨0, N, arr, rfl, rfl, by omega, by rw [aKU]; exact hng, by omega, harr, by rw [aKU]; exact ht, ob, aW.refl _ _⟩ ?_
 rintro m t w3 ⟨i, hg, ar, rfl, rfl, hi, hng, hgN, harr, htop, o3, x3⟩
 have c1 := (o1.ext x3 hne.1).cell (off := 1)
 have c6 := (o6.ext x3 hne.2).cell (off := 1)
 simp only [aKM, aKN] at c1 c6
 unfold Dr JC
 by_cases hlt : i < ps.length
 .have d1 : decide ((i : Int) < (ps.length : Int)) = true := by simp; omega
  obtain ⟨b', off', c', e, _, hcell⟩ := (hs.ext (hx.new x3 hlo) (bZ _)).openI (by omega)
  cases e
  have g1 := hcell i hlt
  have hd : ps.drop i = ps[i] :: ps.drop (i + 1) := aLo hlt
  have hlow := hm.low _ (aLA hlt)
  rw [hd, vW] at hng
  rw [hd, adJ] at htop
  by_cases hp : ps[i] = -1
  .have d2 : decide (ps[i] < 0) = true := by simp; omega
   rw [if_pos hp] at hng htop
   simp only [aLa] at hng
   have e1 : (hg : Int) - 1 = ((hg - 1 : Nat) : Int) := by omega
   have e2 : IntKind.i64.wrap (((hg - 1 : Nat) : Int) - 1) = ((hg - 1 : Nat) : Int) - 1 := aP (by omega) (by omega)
   rw [e1]
   simp (disch := omega) only [aD, aN, aKP, bL, fE, aP, aA, bF, dR, c1, aH, gD, aU, d1, iB, aKO, bO, g1, d2, c6, bT, bU, aG]
   refine oY o3 rfl (by rw [aKV, pS]; simp [m3]; omega) fun w4 o4 x4 s4 => ?_
   rw [aAz (by omega)] at o4
   unfold zU
   simp (disch := omega) only [aD, bN, aP, aA]
   exact ⟨ps.length - (i + 1), by omega, i + 1, hg - 1, _, rfl, rfl, by omega, by omega, by omega, by simp [harr], htop, o4, x3.trans x4 (fun _ _ h => h)⟩
  .have d2 : decide (ps[i] < 0) = false := by simp; omega
   rw [if_neg hp] at hng htop
   unfold zU
   simp (disch := omega) only [aD, aN, aKP, bL, fE, aP, bN, aA, bF, dR, c1, aH, gD, aU, d1, iB, aKO, bO, g1, d2, c6, aE, aG]
   exact ⟨ps.length - (i + 1), by omega, i + 1, hg, ar, rfl, rfl, by omega, by omega, by omega, harr, htop, o3, x3⟩
 .have d1 : decide ((i : Int) < (ps.length : Int)) = false := by simp; omega
  rw [aMB (by omega), adJ] at htop
  obtain ⟨rfl, rfl⟩ : hg = high /\ ar = arr' := by simpa using htop
  simp (disch := omega) only [aD, aN, aKP, bL, fE, aP, aA, bF, dR, c1, aH, gD, aU, d1, aE]
  exact hR _ o3 x3
theorem aDt {log N high cc p1 p6 b : Nat} {ps : List Int} {sv t2 : aNk} {arr : List Int} {rest : List aNk} {w0 w : aNj} (hm : May log ps) (hs : Sl w0 sv (ps.map (Value.int .i64))) (hx : aW w0 w eU)
 (hN1 : 32 <= N) (hN2 : N <= 32768) (hcc : N <= cc) (harr : arr.length = N) (hhigh : (sY ps 0).length = high) (hhN : high <= N) (hlo : w0.heap.size <= b) (hne : p1 ≠ b /\ p6 ≠ b)
 (o1 : eM w p1 [.int .i64 log, sv]) (o6 : eM w p6 [.int .i64 log, .slice (some ⟨b, 0, none⟩) N cc]) (ob : eM w b (fe .i64 (m3 arr) ++ rest))
 {k4 : aNk -> aNk -> aNk -> aNk -> aNj -> Prop}
 (hR : ∀ w', eM w' b (fe .i64 (m3 (place N high (sY ps 0) 0 arr)) ++ rest) -> aW w w' (fun y => y = b) -> k4 (.pointer (some ⟨p1, 0, none⟩)) t2 (.int .i64 N) (.pointer (some ⟨p6, 0, none⟩)) w') :
 C0 k4 (.pointer (some ⟨p1, 0, none⟩)) t2 (.int .i64 N) (.pointer (some ⟨p6, 0, none⟩)) (.int .i64 ((high : Int) - 1)) (.int .i64 0) (.int .i64 0) w := by
 have hlen := hm.len256
 obtain ⟨a, c, rfl, hc⟩ := hs.lenI
 unfold C0
 refine cU.rule (fun m t w' => ∃ (s j : Nat) (ar : List Int), m = ps.length - s /\ t = (.int .i64 (pos N j : Nat), .int .i64 s) /\ s <= ps.length /\ ar.length = N /\ place N high (sY (ps.drop s) s) (pos N j) ar = place N high (sY ps 0) 0 arr /\ (sY (ps.drop s) s).length <= high /\ eM w' b (fe .i64 (m3 ar) ++ rest) /\ aW w w' (fun y => y = b)) ps.length
  ⟨0, 0, arr, rfl, by rw [V4] <;> rfl, by omega, harr, by rw [V4, aKU], by rw [aKU, hhigh]; exact aK1 _, ob, aW.refl _ _⟩ ?_
 rintro m t w4 ⟨s, j, ar, rfl, rfl, hs4, har, hpl, hrl, o4, x4⟩
 have c1 := (o1.ext x4 hne.1).cell (off := 1)
 simp only [aKM, aKN] at c1
 unfold Dc KI
 by_cases hlt : s < ps.length
 .have d1 : decide ((s : Int) < (ps.length : Int)) = true := by simp; omega
  obtain ⟨q, hq⟩ : ∃ q, q = ps[s].toNat := ⟨_, rfl⟩
  rw [azZ hlt, <- hq] at hpl hrl
  have hqN : q <= N := by simp at hrl; omega
  simp (disch := omega) only [aD, aN, aKP, aA, dR, c1, aH, gD, aU, d1, aG]
  unfold J4 J9 Uw JK JV Ju
  refine cU.rule (fun m t w' => ∃ (k j : Nat) (ar : List Int), m = q - k /\ t = (.int .i64 (pos N j : Nat), .int .i64 k) /\ k <= q /\ ar.length = N /\ place N high (List.replicate (q - k) s ++ sY (ps.drop (s + 1)) (s + 1)) (pos N j) ar = place N high (sY ps 0) 0 arr /\ eM w' b (fe .i64 (m3 ar) ++ rest) /\ aW w w' (fun y => y = b)) q
   ⟨0, j, ar, rfl, rfl, by omega, har, hpl, o4, x4⟩ ?_
  rintro m t w5 ⟨k, j5, ar5, rfl, rfl, hk, har5, hpl5, o5, x5⟩
  have c15 := (o1.ext x5 hne.1).cell (off := 1)
  have c65 := (o6.ext x5 hne.2).cell (off := 1)
  simp only [aKM, aKN] at c15 c65
  obtain ⟨b', off', c', e, _, hcell⟩ := (hs.ext (hx.new x5 hlo) (bZ _)).openI (by omega)
  cases e
  have g1 := hcell s hlt
  unfold CW KW
  by_cases hkq : k < q
  .have d2 : decide ((k : Int) < ps[s]) = true := by simp; omega
   have hp := avF (n := N) (by omega) j5
   have hhg : 0 < high := by simp at hrl; omega
   simp (disch := omega) only [aD, aN, aKP, aA, dR, c15, aH, iB, aKO, bO, g1, aU, d2, aG]
   unfold Lw Jw T5 Lt
   simp (disch := omega) only [aD, bL, aKP, oP, aA, bN, rH, bF, c65, aH, bT, aKO, bU]
   refine oY o5 rfl (by rw [aKV, pS]; simp [m3]; omega) fun w6 o6' x6 s6 => ?_
   rw [aAz (by omega)] at o6'
   have e1 : (N : Int).tdiv 2 = ((N / 2 : Nat) : Int) := by rw [aK6 (by omega)]; omega
   have e3 : (N : Int).tdiv 8 = ((N / 8 : Nat) : Int) := by rw [aK6 (by omega)]; omega
   have e4 : (((pos N j5 : Nat) : Int) + ((N / 2 : Nat) : Int) + ((N / 8 : Nat) : Int) + 3).tmod (N : Int) = ((pos N (j5 + 1) : Nat) : Int) := by
    rw [aLg (by omega), <- Mb]
    unfold adv
    simp
   simp (disch := omega) only [e1, aP, e3, e4]
   unfold JT
   rw [show q - k = (q - (k + 1)) + 1 from by omega, aLy, aLV, axE, Mb] at hpl5
   obtain ⟨d, _, hd2, hd3⟩ := Xv (n := N) (high := high) (by omega) hhg (j5 + 1)
   refine aFc (by omega) hN2 hhg hhN ?_
   rw [hd3] at hpl5 ⊢
   unfold Dl
   simp (disch := omega) only [aD, bN, aP, aA]
   exact ⟨q - (k + 1), by omega, k + 1, j5 + 1 + d, _, rfl, rfl, by omega, by simp [har5], hpl5, o6', x5.trans x6 (fun _ _ h => h)⟩
  .have d2 : decide ((k : Int) < ps[s]) = false := by simp; omega
   rw [show q - k = 0 from by omega, List.replicate_zero, aL8] at hpl5
   unfold CL
   simp (disch := omega) only [aD, aN, aKP, bN, aP, aA, dR, c15, aH, iB, aKO, bO, g1, aU, d2, aE]
   exact ⟨ps.length - (s + 1), by omega, s + 1, j5, ar5, rfl, rfl, by omega, har5, hpl5, by simp at hrl; omega, o5, x5⟩
 .have d1 : decide ((s : Int) < (ps.length : Int)) = false := by simp; omega
  rw [aMB (by omega), sY, place] at hpl
  simp (disch := omega) only [aD, aN, aKP, aA, dR, c1, aH, gD, aU, d1, aE]
  exact hR _ (by rw [<- hpl]; exact o4) x4
theorem aFt {log N p6 : Nat} {c1 t2 : aNk} {w : aNj} (hN1 : 32 <= N) (hN2 : N <= 32768) (o6 : eM w p6 [.int .i64 log, .slice none 0 0])
 {k0 : aNk -> aNk -> aNk -> aNk -> aNj -> Prop}
 (hR : ∀ w' b cc rest, eM w' p6 [.int .i64 log, .slice (some ⟨b, 0, none⟩) N cc] -> eM w' b (fe .i64 (m3 (List.replicate N (-1))) ++ rest) -> N <= cc -> w.heap.size <= b -> aW w w' (fun y => y = p6 ∨ w.heap.size <= y) -> k0 c1 t2 (.int .i64 N) (.pointer (some ⟨p6, 0, none⟩)) w') :
 C4 k0 c1 t2 (.int .i64 N) (.pointer (some ⟨p6, 0, none⟩)) (.int .i64 0) w := by
 have l6 := o6.lt
 unfold C4
 refine cU.rule (fun m t w' => ∃ (i : Nat) (v : aNk), m = N - i /\ t = .int .i64 i /\ i <= N /\ eM w' p6 [.int .i64 log, v] /\ sM w' w.heap.size 3 v i (fe .i64 (m3 (List.replicate i (-1)))) /\ aW w w' (fun y => y = p6 ∨ w.heap.size <= y)) N
  ⟨0, _, rfl, rfl, by omega, o6, sM.nil _ _ _, aW.refl _ _⟩ ?_
 rintro m t w1 ⟨i, v, rfl, rfl, hi, o1, os, x1⟩
 have c1' := o1.cell (off := 1)
 simp only [aKM, aKN] at c1'
 unfold CP
 by_cases hlt : i < N
 .have d1 : decide ((i : Int) < (N : Int)) = true := by simp only [decide_eq_true_eq]; omega
  simp (disch := omega) only [aD, aU, d1, bL, aKP, eJ, bN, aP, aA, bF, c1', aH, aG]
  refine Sb (cells := #[.int .i64 (-1), .int .i64 0, .int .i64 0]) (by decide) (by decide) (by kernel_rfl) fun w2 o2 x2 s2 => ?_
  refine xK (os.ext x2 (fun _ _ h => h)) (o2.cl (off := 0) (l := [.int .i64 (-1), .int .i64 0, .int .i64 0]) rfl (fun i hi => by rw [aKP])) (by simp [one]) (aLT x1.size x2.size) (by omega) fun v3 w3 o3 x3 => ?_
  have o13 := (o1.ext x2 (fun h => h)).ext x3 (by omega)
  refine RY o13 ?_ (by simp) fun w4 o4 x4 s4 => ?_
  .obtain ⟨a, c, e⟩ := o3.len
   rw [e] <;> rfl
  simp only [aKS, aKR] at o4
  refine ⟨N - (i + 1), by omega, i + 1, v3, rfl, rfl, by omega, o4, ?_, ?_⟩
  .have e : fe .i64 (m3 (List.replicate (i + 1) (-1))) = fe .i64 (m3 (List.replicate i (-1))) ++ [.int .i64 (-1), .int .i64 0, .int .i64 0] := by
    rw [aMI]; unfold m3; rw [aLe, aAk] <;> rfl
   rw [e]
   exact o3.ext x4 (fun b hb h => by omega)
  .exact ((x1.seq (x2.mono fun _ _ h => h.elim)).seq (x3.mono fun _ _ h => .inr h)).seq (x4.mono fun _ _ h => .inl h)
 .have d1 : decide ((i : Int) < (N : Int)) = false := by simp only [decide_eq_false_iff_not]; omega
  have : i = N := by omega
  subst this
  simp (disch := omega) only [aD, aU, d1, bL, aKP, eJ, bN, aP, aA, bF, aE]
  rcases os.2 with ⟨_, h⟩ | ⟨b, c, rest, rfl, h2, h3, h4, h5⟩
  .omega
  .exact hR _ b c rest o1 h3 h5 h2 x1
theorem aGx {k : IntKind} {L : List T3} {rest : List aNk} {i : Nat} (h : i < L.length) (x : Int) : (fe k L ++ rest).set (i * 3 + 1) (.int .i64 x) = fe k (L.set i (L[i].1, x, L[i].2.2)) ++ rest := by
 rw [aL4 _ _ (by rw [pS]; omega), (alZ k L i h x).2.1]
theorem aGi {k : IntKind} {L : List T3} {rest : List aNk} {i : Nat} (h : i < L.length) (x : Int) : (fe k L ++ rest).set (i * 3 + 2) (.int .i64 x) = fe k (L.set i (L[i].1, L[i].2.1, x)) ++ rest := by
 rw [aL4 _ _ (by rw [pS]; omega), (alZ k L i h x).2.2]
theorem aFU {log N cc p1 p6 b ns : Nat} {ps S : List Int} {sv t2 : aNk} {rest : List aNk} {w0 w : aNj} (hm : May log ps) (L : Lay log ps S) (hN : 2 ^ log = N) (hs : Sl w0 sv (ps.map (Value.int .i64))) (hx : aW w0 w eU) (hcc : N <= cc)
 {i : Nat} (hlt : i < N) (hne : p1 ≠ b /\ p6 ≠ b /\ ns ≠ b /\ p1 ≠ ns /\ p6 ≠ ns)
 (o1 : eM w p1 [.int .i64 log, sv]) (o6 : eM w p6 [.int .i64 log, .slice (some ⟨b, 0, none⟩) N cc]) (ob : eM w b (fe .i64 (Es log ps S i) ++ rest)) (os : eM w ns ((cn S i).map (Value.int .i64)))
 {kn : aNk -> aNk -> aNk -> aNk -> aNk -> aNk -> aNj -> Prop} {R : aNk -> aNj -> Prop}
 (hR : ∀ w', eM w' b (fe .i64 (Es log ps S (i + 1)) ++ rest) -> eM w' ns ((cn S (i + 1)).map (Value.int .i64)) -> aW w w' (fun y => y = ns ∨ y = b) →
  kn (.pointer (some ⟨p1, 0, none⟩)) t2 (.int .i64 N) (.pointer (some ⟨p6, 0, none⟩)) (.pointer (some ⟨ns, 0, none⟩)) (.int .i64 ((i + 1 : Nat) : Int)) w') :
 Dq kn R (.pointer (some ⟨p1, 0, none⟩)) t2 (.int .i64 N) (.pointer (some ⟨p6, 0, none⟩)) (.pointer (some ⟨ns, 0, none⟩)) (.int .i64 i) w := by
 have h15 := hm.log15
 have hlen := hm.len256
 have hN2 : 2 ^ log <= 2 ^ 15 := aKY (by omega) h15
 have hSl : S.length = 2 ^ log := L.len
 obtain ⟨a, c, rfl, hc⟩ := hs.lenI
 have c1 := o1.cell (off := 1)
 have c6 := o6.cell (off := 1)
 simp only [aKM, aKN] at c1 c6
 have hltN : i < 2 ^ log := by omega
 obtain ⟨s, hsl, hsS, hp1, hp2, hk', hcnt⟩ := avW hm L hltN
 obtain ⟨k, hkk⟩ : ∃ k, k = kAt ps S i := ⟨_, rfl⟩
 rw [<- hkk] at hk'
 have hk2 : k < 2 ^ (log + 1) := by rw [aLr]; omega
 have hel : i < (Es log ps S i).length := by rw [HQ]; exact hltN
 have hE0 : (Es log ps S i)[i]'hel = ((s : Int), 0, 0) := by rw [aHE hltN, hsS]
 have g0 := ob.cell (off := i * 3)
 rw [aLd (by rw [pS]; omega), (V6 .i64 (Es log ps S i) i hel).1, hE0] at g0
 simp only at g0
 obtain ⟨b', off', c', e, _, hcell⟩ := (hs.ext hx (bZ _)).openI (by omega)
 cases e
 have g1 := hcell s hsl
 have hlow := hm.low _ (aLA hsl)
 have hSi : S[i]'(by omega) = (s : Int) := by rw [<- hsS, aK0, aKW (by omega)] <;> rfl
 have gs := os.cell (off := s)
 rw [aLl, aKW (by rw [aqA]; omega), aD0 (by omega)] at gs
 simp only [aLC] at gs
 have hcs := aJu (S := S) (i := i) (s := s) (by omega) (by omega) hSi
 have d1 : decide ((s : Int) < 0) = false := by simp
 have d2 : decide ((ps.length : Int) <= (s : Int)) = false := by simp; omega
 unfold Dq Kf Ux Jz
 simp (disch := omega) only [aD, bL, aKP, aN, aA, eZ, bF, c6, aH, bT, aKO, bU, bO, g0, aU, d1, dG, bH, aKQ, if_false, bM, dR, c1, gD, nE, d2, aE]
 have hpn := sL hlow
 have hcl : (S.take i).count (s : Int) <= i := by
  have := List.count_le_length (a := (s : Int)) (l := S.take i)
  rw [aK2] at this; omega
 have c10 := o1.cell (off := 0)
 simp only [aKM] at c10
 have ek : (((S.take i).count (s : Int) : Nat) : Int) + iR ps[s] = (k : Int) := by rw [hk']; omega
 have h9 : EB (fun cB t2 iA t6 cX nQ w => Bf kn cB t2 iA t6 cX nQ w) (.pointer (some ⟨p1, 0, none⟩)) t2 (.int .i64 N) (.pointer (some ⟨p6, 0, none⟩)) (.pointer (some ⟨ns, 0, none⟩)) (.int .i64 i) (.int .i64 (s : Int)) (.int .i64 (iR ps[s])) w := by
  unfold EB Pl
  simp (disch := omega) only [aD, mQ, aKO, aKP, bB, aA, bO, gs, aH, bN, ek, aP]
  refine oY os rfl (by rw [aKZ, aqA]; omega) fun w2 os2 x2 s2 => ?_
  rw [<- aM8, hcs] at os2
  have o12 := o1.ext x2 (by omega)
  have o62 := o6.ext x2 (by omega)
  have ob2 := ob.ext x2 (by omega)
  have c12 := o12.cell (off := 0)
  have c62 := o62.cell (off := 1)
  simp only [aKM, aKN] at c12 c62
  simp (disch := omega) only [c12, aH, aA]
  unfold MQ Pe
  refine aFX (w0 := w0) h15 (by omega) hk2 o12 ?_
  unfold EC
  obtain ⟨nbits, hnbits⟩ : ∃ x, x = log + 1 - bl k := ⟨_, rfl⟩
  obtain ⟨eb1, eb2, eb3, eb4⟩ := aBq (log := log) (k := k) (by omega) hk2
  rw [<- hnbits] at eb1 eb2 ⊢
  have hent : Ub log ps S i = F8 log (s : Int) k := by unfold Ub; rw [hsS, <- hkk]
  have hes := aHb (log := log) (ps := ps) (S := S) (i := i) hltN
  rw [hent] at hes
  simp (disch := omega) only [aD, bL, aKP, jF, Result.ok.injEq, Next.value.injEq, and_true, true_and, aA, bF, c62, aH, bT, aKO, cM]
  refine oY ob2 rfl (by rw [aKV, pS, HQ]; omega) fun w3 ob3 x3 s3 => ?_
  rw [aGx hel, hE0] at ob3
  have o63 := jW (o62.ext x3 (by omega))
  have ob3 := jW ob3
  have c63 := o63.cell (off := 1)
  simp only [aKM, aKN] at c63
  simp (disch := omega) only [c63, aH, aA, bT, aKO, aKP, dB, true_and]
  refine (IP nbits (by omega) _).mono ?_
  rintro r w4 ⟨rfl, rfl⟩
  have hA := aLT (aLT (aLk (2 ^ nbits) (show k <= k + 1 by omega)) eb2) (aKY (show 0 < 2 by omega) (show log + 1 <= 16 by omega))
  have hpw : ((2 ^ nbits : Nat) : Int) = (2 : Int) ^ nbits := by simp
  rw [<- hpw]
  have em : (k : Int) * ((2 ^ nbits : Nat) : Int) = ((k * 2 ^ nbits : Nat) : Int) := by simp
  have e5 : (((k * 2 ^ nbits : Nat) : Int) - (N : Int)) = (F8 log (s : Int) k).2.2 := by
   unfold F8
   simp only
   rw [<- hnbits, <- hN]
   simp
  have e7 : (F8 log (s : Int) k) = ((s : Int), (nbits : Int), (F8 log (s : Int) k).2.2) := by unfold F8; rw [hnbits]
  generalize hq : k * 2 ^ nbits = q at *
  have e6 : IntKind.i64.wrap ((q : Int) - (N : Int)) = (q : Int) - (N : Int) := aP (by omega) (by omega)
  have ew : IntKind.i64.wrap (q : Int) = (q : Int) := aP (by omega) (by omega)
  generalize hbase : (F8 log (s : Int) k).2.2 = base at *
  rw [e5] at e6
  simp (disch := omega) only [c63, aH, oL, em, ew, aA, fE, e5, e6, true_and]
  have hel5 : i < ((Es log ps S i).set i ((s : Int), (nbits : Int), 0)).length := by simpa using hel
  refine oY ob3 rfl (by rw [aKV, pS]; simp [HQ]; omega) fun w5 ob5 x5 s5 => ?_
  rw [aGi hel5] at ob5
  simp only [aMU, List.set_set] at ob5
  rw [<- e7, hes] at ob5
  unfold Bf
  simp (disch := omega) only [aD, bN, aP, aA]
  refine hR _ ob5 ((jW (os2.ext x3 (by omega))).ext x5 (by omega)) ?_
  exact (((x2.mono fun _ _ h => .inl h : aW w w2 (fun y => y = ns ∨ y = b)).seq (x3.mono fun _ _ h => .inr h)).seq (aW.dr _ _)).seq (x5.mono fun _ _ h => .inr h)
 unfold JA Ko
 by_cases hneg : ps[s] < 0
 .have d3 : decide (ps[s] < 0) = true := by simpa using hneg
  have ep : iR ps[s] = 1 := by unfold iR; rw [if_pos hneg]
  rw [ep] at h9
  simp (disch := omega) only [aD, aN, aKP, aA, dR, c1, aH, iB, aKO, bO, g1, aU, d3, aG]
  exact h9
 .have d3 : decide (ps[s] < 0) = false := by simpa using hneg
  have ep : iR ps[s] = ps[s] := by unfold iR; rw [if_neg hneg]
  rw [ep] at h9
  simp (disch := omega) only [aD, aN, aKP, aA, dR, c1, aH, iB, aKO, bO, g1, aU, d3, aE]
  exact h9
theorem aFl {log N cc p1 p2 p6 b : Nat} {ps S : List Int} {sv : aNk} {rest : List aNk} {w0 w : aNj} (hm : May log ps) (L : Lay log ps S) (hN : 2 ^ log = N) (hs : Sl w0 sv (ps.map (Value.int .i64))) (hx : aW w0 w eU) (hcc : N <= cc)
 (hne : p1 ≠ b /\ p6 ≠ b /\ p2 ≠ b /\ p2 ≠ p6 /\ p1 ≠ p2) (hlo : w0.heap.size <= b /\ w0.heap.size <= p2)
 (o1 : eM w p1 [.int .i64 log, sv]) (o2 : eM w p2 [.int .i64 0, .slice none 0 0]) (o6 : eM w p6 [.int .i64 log, .slice (some ⟨b, 0, none⟩) N cc]) (ob : eM w b (fe .i64 (m3 S) ++ rest)) {R : aNk -> aNj -> Prop}
 (hR : ∀ w', eM w' b (fe .i64 (Es log ps S N) ++ rest) -> aW w0 w' eU -> R (.tuple #[.agg #[.int .i64 log, .slice (some ⟨b, 0, none⟩) N cc], .int .i64 0]) w') :
 CN R (.pointer (some ⟨p1, 0, none⟩)) (.pointer (some ⟨p2, 0, none⟩)) (.int .i64 N) (.pointer (some ⟨p6, 0, none⟩)) w := by
 have hN2 : 2 ^ log <= 2 ^ 15 := aKY (by omega) hm.log15
 unfold CN KC
 refine aBG fun w1 os x1 s1 => ?_
 obtain ⟨cs, hcs, os⟩ : ∃ cs, cs = List.replicate 256 (Value.int .i64 0) /\ eM w1 w.heap.size cs := ⟨_, by kernel_rfl, os⟩
 rw [hcs] at os
 have os : eM w1 w.heap.size ((cn S 0).map (Value.int .i64)) := by rw [aIk, aM9]; exact os
 have l1 := o1.lt
 have l2 := o2.lt
 have l6 := o6.lt
 have lb := ob.lt
 have hxs := hx.size
 have o1 := o1.ext x1 (fun h => h)
 have o2 := o2.ext x1 (fun h => h)
 have o6 := o6.ext x1 (fun h => h)
 have ob := ob.ext x1 (fun h => h)
 have x01 := hx.seq x1
 generalize w.heap.size = ns at *
 have ob : eM w1 b (fe .i64 (Es log ps S 0) ++ rest) := by rw [aE4 L.len]; exact ob
 unfold KA KL Jt Kx Kk
 refine cU.rule (fun m t w' => ∃ i : Nat, m = N - i /\ t = .int .i64 i /\ i <= N /\ eM w' b (fe .i64 (Es log ps S i) ++ rest) /\ eM w' ns ((cn S i).map (Value.int .i64)) /\ aW w1 w' (fun y => y = ns ∨ y = b)) N ⟨0, rfl, rfl, by omega, ob, os, aW.refl _ _⟩ ?_
 rintro m t w2 ⟨i, rfl, rfl, hi, ob2, os2, x2⟩
 have x02 : aW w0 w2 eU := x01.trans x2 (fun y hy hh => by omega)
 have o62 := o6.ext x2 (by omega)
 unfold C5 LC
 by_cases hlt : i < N
 .have d1 : decide ((i : Int) < (N : Int)) = true := by simp only [decide_eq_true_eq]; omega
  simp (disch := omega) only [aD, aU, d1, aA, aG]
  refine aFU hm L hN hs x02 hcc hlt (by omega) (o1.ext x2 (by omega)) o62 ob2 os2 fun w3 ob3 os3 x3 => ?_
  exact ⟨N - (i + 1), by omega, i + 1, rfl, rfl, by omega, ob3, os3, x2.trans x3 (fun _ _ h => h)⟩
 .have d1 : decide ((i : Int) < (N : Int)) = false := by simp only [decide_eq_false_iff_not]; omega
  have : i = N := by omega
  subst this
  have l4 := vB (off := 0) o62 (by simp)
  simp only [aKU, aKT, aKX] at l4
  simp (disch := omega) only [aD, aU, d1, aA, aE]
  unfold GS
  simp (disch := omega) only [aD, l4, aA]
  refine Ao (o2.ext x2 (by omega)) rfl (by simp [one]) (by simp) fun w5 o25 x5 s5 => ?_
  refine UF o25 (by simp [bK]) ?_
  simp only [bK, aKS, aKR, aKU, aKT, aKX]
  exact hR _ (ob2.ext x5 (by omega)) (x02.new x5 hlo.2)
theorem aDx {log : Nat} {sv : aNk} {ps : List Int} {w : aNj} (hm : May log ps) (hs : Sl w sv (ps.map (Value.int .i64))) :
 aS pg IL #[.agg #[.int .i64 log, sv]] w (fun r w' => ∃ b cc rest, r = .tuple #[.agg #[.int .i64 log, .slice (some ⟨b, 0, none⟩) (2 ^ log) cc], .int .i64 0] /\ w.heap.size <= b /\ eM w' b (fe .i64 (wY log ps) ++ rest) /\ aW w w' eU) := by
 refine amZ ?_
 have hlen := hm.len256
 have h15 := hm.log15
 have hN2 : 2 ^ log <= 2 ^ 15 := aKY (by omega) h15
 have hN1 : 2 ^ 5 <= 2 ^ log := aKY (by omega) hm.log5
 unfold arW Lv Kv
 refine nK fun w1 o1 x1 s1 => ?_
 refine Br fun w2 o2 x2 s2 => ?_
 have o1 := o1.ext x2 (fun h => h)
 have l1 := pW (off := 0) o1 (by simp [Value.cells])
 simp only [Value.cells, aKU, aKT, aKX] at l1
 simp (disch := omega) only [aD, l1, eZ, aA, bB, bO]
 refine (aDr (most := 15) ((hs.ext x1 (bZ _)).ext x2 (bZ _)) (by omega)).mono ?_
 rintro r w3 ⟨rfl, x3⟩
 have hce := aE0 (most := 15) hm hm.log15
 rw [show (((15 : Nat) : Int)) = 15 from rfl] at hce
 rw [hce]
 have e0 : ((0 : Int) != 0) = false := rfl
 have o1 := o1.ext x3 (fun h => h)
 have o2 := o2.ext x3 (fun h => h)
 have c0 := o1.cell (off := 0)
 simp only [Value.cells, aKM] at c0
 simp (disch := omega) only [dC, e0, aA, c0, aH, aE]
 refine (IP log (by omega) _).mono ?_
 rintro r w4 ⟨rfl, rfl⟩
 have hpow : ((2 ^ log : Nat) : Int) = (2 : Int) ^ log := by simp
 rw [<- hpow]
 simp (disch := omega) only [c0, aH, aA, fB]
 refine Br fun w5 o5 x5 s5 => ?_
 refine Ao o5 rfl (by simp [one]) (by simp) fun w6 o6 x6 s6 => ?_
 simp only [bK, aKS, aKR] at o6
 have l1 := o1.lt
 have l2 := o2.lt
 have l6 := o6.lt
 have z1 := x1.size
 have z2 := x2.size
 have z3 := x3.size
 have z5 := x5.size
 have z6 := x6.size
 have o1 := (o1.ext x5 (fun h => h)).ext x6 (by omega)
 have o2 := (o2.ext x5 (fun h => h)).ext x6 (by omega)
 have x06 : aW w w6 eU := ((((x1.seq x2).seq x3).seq x5)).new x6 (by omega)
 have hne : w.heap.size ≠ w1.heap.size /\ w.heap.size ≠ w4.heap.size /\ w1.heap.size ≠ w4.heap.size := by omega
 have hp12 : w.heap.size <= w1.heap.size /\ w1.heap.size <= w4.heap.size := by omega
 obtain ⟨p1, hp1⟩ : ∃ p1, p1 = w.heap.size := ⟨_, rfl⟩
 generalize w1.heap.size = p2 at *
 generalize w4.heap.size = p6 at *
 rw [<- hp1] at o1 ⊢
 obtain ⟨arr, ht, harr, hneg, hsp⟩ := arE hm (-1)
 have hlay := OQ hm (-1)
 have hEs := aGs log ps
 rw [aF5 hm 0 (-1)] at hEs
 rw [hsp] at hlay hEs
 generalize hN : 2 ^ log = N at *
 unfold Ki La Lk Lu
 refine aFt (by omega) (by omega) o6 fun w7 b cc rest o67 ob hcc hb x7 => ?_
 have o17 := o1.ext x7 (by omega)
 have o27 := o2.ext x7 (by omega)
 have x07 : aW w w7 eU := x06.trans x7 (fun y hy hh => by omega)
 unfold Lc KU
 simp (disch := omega) only [aD, fE, aP, aA]
 unfold Lh JE LB LD
 refine aFd hm hs x07 (by omega) hcc (by simp) (by omega) ht (by omega) (by omega) o17 o67 ob fun w8 ob8 x8 => ?_
 have x08 := x07.new x8 (by omega)
 have o18 := o17.ext x8 (by omega)
 have o28 := o27.ext x8 (by omega)
 have o68 := o67.ext x8 (by omega)
 unfold KO Kb JF Ku JJ KB
 refine aDt hm hs x08 (by omega) (by omega) hcc harr rfl (by omega) (by omega) (by omega) o18 o68 ob8 fun w9 ob9 x9 => ?_
 have x09 := x08.new x9 (by omega)
 refine aFl hm hlay hN hs x09 hcc (by omega) (by omega) (o18.ext x9 (by omega)) (o28.ext x9 (by omega)) (o68.ext x9 (by omega)) ob9 fun w10 ob10 x10 => ?_
 rw [hEs] at ob10
 exact ⟨b, cc, rest, rfl, by omega, ob10, x10⟩
theorem aF1 {log : Nat} {ps : List Int} (hm : May log ps) : ∀ e ∈ wY log ps, 0 <= e.1 /\ e.1 < 256 := by
 intro e he
 obtain ⟨i, hi, rfl⟩ := aMi he
 have h2 : i < 2 ^ log := by rw [wU] at hi; exact hi
 rw [aDY log ps h2]
 obtain ⟨s, hs, e, _⟩ := avW hm (OQ hm 0) h2
 have := hm.len256
 rw [e]; omega
end Go.Proofs.YtgpimhlgaokobaaGreat
namespace Go.Proofs.YtgpimhlgaokobaaGreat
open Go Go.En Go.Pu
theorem aeI : ((⟨#[]⟩ : ByteArray).toList == (⟨#[]⟩ : ByteArray).toList) = true := by simp
theorem anU {x : ByteArray} (h : 0 < x.size) : (x.toList == (⟨#[]⟩ : ByteArray).toList) = false := by
 rw [ByteArray.toList_eq, ByteArray.toList_eq]
 have hl := gR x
 unfold gA at hl
 cases hx : x.data.toList with
 | nil => rw [hx] at hl; simp at hl; omega
 | cons a l => rfl
theorem aeU (x : ByteArray) : (x.toList == x.toList) = true := by simp
end Go.Proofs.YtgpimhlgaokobaaGreat
namespace Go.Proofs.YtgpimhlgaokobaaGreat
open Go Go.En Go.Pu
set_option maxRecDepth 4000
theorem AtI.mono {v : aNk} {lo hi lo' hi' : Nat} (h : AtI v lo hi) (h1 : lo' <= lo) (h2 : hi <= hi') : AtI v lo' hi' := fun M hM => h M fun b hb hh => hM b (by omega) (by omega)
theorem awK {x : ByteArray} {w : aNj} (he : XU (gA x) = none) (hl : x.size <= 1000000) :
 aS pg El #[.string x] w (fun r w' => r = .tuple #[.agg #[.slice none 0 0, .int .i64 0], .int .i64 11] /\ aW w w' eU) := by
 refine Wj ?_
 have hll := gR x
 unfold amU Mg L5
 refine jS fun w1 o1 x1 s1 => ?_
 rcases aL9 x.size with h0 | h0
 .have hx : x = ⟨#[]⟩ := Xn (aLq.1 (by rw [hll, h0]))
  subst hx
  simp (disch := omega) only [aD, vQ, aeI, eD, aA, jI, bH, if_true, aG, cY]
  refine cK o1 rfl (by simp [one]) (by simp) fun w6 o6 x6 s6 => ?_
  refine lT o6 (by simp [bK]) ⟨rfl, ?_⟩
  exact x1.new x6 (aK1 _)
 .rw [Mv (by omega)] at he
  have hg : (x[x.size - 1]'(by omega)).toNat = 0 := by
   rw [PV]
   simp only [hll] at he
   split at he
   .assumption
   .cases he
  have e1 : (x.size : Int) - 1 = ((x.size - 1 : Nat) : Int) := by omega
  have d2 : (((0 : Nat) : Int) == 0) = true := rfl
  have hne := anU h0
  simp (disch := omega) only [aD, vQ, hne, eD, aA, dG, bH, aKQ, if_false, bM, dS, fE, e1, aP, jA, aKO, hg, dU, d2, aG]
  refine cK o1 rfl (by simp [one]) (by simp) fun w6 o6 x6 s6 => ?_
  refine lT o6 (by simp [bK]) ⟨rfl, ?_⟩
  exact x1.new x6 (aK1 _)
def RB (w : aNj) (lo hi : Nat) (b : aNk) (L : List Bool) (lack : Nat) : Prop := ∃ v, b = .agg #[v, .int .i64 lack] /\ Bl w v L /\ AtI v lo hi
theorem RB.ext {w w' : aNj} {lo hi lack : Nat} {b : aNk} {L : List Bool} {M : Nat -> Prop} (h : RB w lo hi b L lack) (hx : aW w w' M) (hM : ∀ b, lo <= b -> b < hi -> ¬ M b) : RB w' lo hi b L lack := by
 obtain ⟨v, h1, h2, h3⟩ := h
 exact ⟨v, h1, h2.ext hx (h3 M hM), h3⟩
theorem aAP {x : ByteArray} {k : Nat} {w : aNj} (he : XU (gA x) = some k) (hl : x.size <= 1000000) :
 aS pg El #[.string x] w (fun r w' => ∃ b hi, r = .tuple #[b, .int .i64 0] /\ hi <= w'.heap.size /\ RB w' w.heap.size hi b ((aZ (gA x)).take k) 0 /\ aW w w' eU) := by
 refine Wj ?_
 have hll := gR x
 obtain ⟨h0, hk1, hk2, htop, hoff⟩ := HS he
 unfold amU Mg L5
 refine jS fun w1 o1 x1 s1 => ?_
 rw [Mv (by omega)] at he
 have hg : (x[x.size - 1]'(by omega)).toNat ≠ 0 := by
  rw [PV]
  simp only [hll] at he
  split at he
  .cases he
  .assumption
 have e1 : (x.size : Int) - 1 = ((x.size - 1 : Nat) : Int) := by omega
 have hne := anU (show 0 < x.size by omega)
 have d2 : (((x[x.size - 1]'(by omega)).toNat : Int) == 0) = false := by simpa using hg
 simp (disch := omega) only [aD, vQ, hne, eD, aA, dG, bH, aKQ, if_false, bM, dS, fE, e1, aP, jA, aKO, dU, d2, aE]
 refine (awI hl).mono ?_
 rintro r w2 ⟨o2, x2⟩
 have hat := sM.atI o2
 have hs := o2.sl
 have hbl := lW (gA x)
 obtain ⟨a, c, rfl⟩ := o2.len
 have o12 := o1.ext x2 (fun h => h)
 simp (disch := omega) only [lE, aA, fE, aP]
 unfold Ta S9 TE
 refine cU.rule (fun m (t : aNk) w' => t = .int .i64 m /\ k <= m /\ m < 8 * x.size /\ w' = w2) (8 * x.size - 1)
  ⟨by have : ((8 * x.size : Nat) : Int) - 1 = ((8 * x.size - 1 : Nat) : Int) := by omega
      rw [this], by omega, by omega, rfl⟩ ?_
 rintro m t w3 ⟨rfl, hm1, hm2, rfl⟩
 unfold L2
 obtain ⟨b, off, c', e, _, hcell⟩ := aGU hs (by omega)
 rw [hbl, hll] at e
 cases e
 have hgm : (aZ (gA x))[m]? = some (decide (m = k)) := by
  by_cases h : m = k
  .subst h; simpa using htop
  .rw [hoff m (by omega) (by omega)]; simp [h]
 have g := hcell m (by omega)
 rw [aKW (by omega)] at hgm
 rw [aLf hgm] at g
 by_cases h : m = k
 .subst h
  have d3 : decide (m = m) = true := by simp
  have hsl := hs.take' (k := m) (by omega)
  have hsub : AtI (.slice (mU (some ⟨b, off, none⟩) c 0 1) (m - 0) (c - 0)) w1.heap.size w3.heap.size := AtI.sub hat (by omega)
  rw [<- aME] at hsl
  unfold Mi
  simp (disch := omega) only [aD, nN, aKO, fE, aP, aA, lH, fC, tW, g, aH, pM, and_true]
  refine cK o12 rfl (by simp [one]) (by simp) fun w6 o6 x6 s6 => ?_
  refine lT o6 (by simp [bK]) ?_
  simp only [bK, aKS, aKR, aKU, aKT, aKX]
  have z1 := x1.size
  have z2 := x2.size
  refine ⟨_, w3.heap.size, rfl, by have := x6.size; omega, ⟨_, rfl, hsl.ext x6 (hsub _ fun b hb hh => by omega), AtI.mono hsub (by omega) (by omega)⟩, ?_⟩
  exact (x1.seq x2).new x6 (by omega)
 .have d3 : decide (m = k) = false := by simpa using h
  have e2 : (m : Int) - 1 = ((m - 1 : Nat) : Int) := by omega
  simp (disch := omega) only [aD, nN, aKO, fE, e2, aP, aA, tW, g, d3, aH, pM, aLi, and_true, aG]
  exact ⟨m - 1, by omega, rfl, by omega, by omega⟩
theorem apU {lo hi lack n : Nat} {b : aNk} {L : List Bool} {w : aNj} (h : RB w lo hi b L lack) (hn : n <= 56) (hL : L.length <= 10000000) (hk : lack <= 1000000000) :
 aS pg zG #[b, .int .i64 n] w (fun r w' => ∃ b', r = .tuple #[b', .int .u64 (qF L n : Nat)] /\ RB w' lo hi b' (L.take (L.length - min n L.length)) (lack + (n - min n L.length)) /\ aW w w' eU) := by
 refine asO ?_
 obtain ⟨RR, hRR⟩ : ∃ RR : aNk -> aNj -> Prop, RR = fun r w' => ∃ b', r = .tuple #[b', .int .u64 (qF L n : Nat)] /\ RB w' lo hi b' (L.take (L.length - min n L.length)) (lack + (n - min n L.length)) /\ aW w w' eU := ⟨_, rfl⟩
 rw [<- hRR]
 obtain ⟨v, rfl, hs, hat⟩ := h
 obtain ⟨a, c, rfl, hc⟩ := Gz hs
 unfold ayQ MF OD
 refine nK fun w1 o1 x1 s1 => ?_
 refine jS fun w2 o2 x2 s2 => ?_
 simp only [Value.cells] at o1
 have o1 := o1.ext x2 (fun h => h)
 have c0 := o1.cell (off := 0)
 simp only [aKM, aKN] at c0
 have x02 : aW w w2 eU := x1.seq x2
 have hne : w.heap.size ≠ w1.heap.size := by omega
 obtain ⟨p1, hp1⟩ : ∃ p1, p1 = w.heap.size := ⟨_, rfl⟩
 obtain ⟨p2, hp2⟩ : ∃ p2, p2 = w1.heap.size := ⟨_, rfl⟩
 rw [<- hp1, <- hp2] at hne
 rw [<- hp1] at o1 c0 ⊢
 rw [<- hp2] at o2 ⊢
 have hw1 : w.heap.size <= p1 := by omega
 have hw2 : w.heap.size <= p2 := by omega
 have fin : ∀ (v : aNk) (l : Nat) (w' : aNj) (xx : Nat), eM w' p1 [v, .int .i64 l] -> one v = true -> eM w' p2 [.slice none 0 0, .int .i64 0] -> aW w w' eU →
     (∀ w'', aW w w'' eU -> RR (.tuple #[.agg #[v, .int .i64 l], .int .u64 xx]) w'') -> aD pg (aL 133 (.pointer (some ⟨p1, 0, none⟩))) w' fun t15 w => aD pg (aR 133 (.pointer (some ⟨p2, 0, none⟩)) t15) w fun _u w => zN pg 133 (.pointer (some ⟨p2, 0, none⟩)) w fun r0 => RR (.tuple #[r0, .int .u64 xx]) w := by
  intro v l w' xx q1 qv q2 qx qk
  have l1 := fL (off := 0) q1 (by simp)
  simp only [aKU, aKT, aKX] at l1
  simp (disch := omega) only [aD, l1, aA]
  refine cK q2 rfl (by simp [one]; exact qv) (by simp) fun w6 o6 x6 s6 => ?_
  refine lT o6 (by simp [bK]) ?_
  simp only [bK, aKS, aKR, aKU, aKT, aKX]
  exact qk _ (qx.new x6 hw2)
 by_cases hn0 : n = 0
 .subst hn0
  have d1 : decide (((0 : Nat) : Int) < 1) = true := rfl
  simp (disch := omega) only [aD, aU, d1, cJ, aA, lR, jI, bH, if_true, aG, cY]
  refine fin _ lack w2 0 o1 rfl o2 x02 fun w' x => ?_
  rw [hRR]
  refine ⟨.agg #[.slice a L.length c, .int .i64 lack], ?_, ⟨_, rfl, ?_, hat⟩, x⟩
  .have h0 : qF L 0 = 0 := by
    have := sO L 0
    rw [Nat.pow_zero] at this; omega
   rw [h0]
  .have : L.take (L.length - min 0 L.length) = L := aLn (by omega)
   rw [this]
   exact hs.ext x (bZ _)
 have d1 : decide ((n : Int) < 1) = false := by simp; omega
 have d2 : decide ((56 : Int) < (n : Int)) = false := by simp; omega
 have hlt := sO L n
 have hp : 2 ^ n <= 2 ^ 56 := aKY (by omega) hn
 have tail : ∀ k : Nat, k = min n L.length -> Iw RR
     (.int .i64 n) (.pointer (some ⟨p1, 0, none⟩)) (.pointer (some ⟨p2, 0, none⟩)) (.int .i64 k) w2 := by
  intro k hk0
  rw [<- hk0] at hRR
  have hsd := (hs.ext x02 (bZ _)).drop' (k := L.length - k) (by omega)
  rw [<- aMx] at hsd
  have hval : qF L n = vX (L.drop (L.length - k)) * 2 ^ (n - k) := by unfold qF; rw [<- hk0]
  have e1 : (L.length : Int) - (k : Int) = ((L.length - k : Nat) : Int) := by omega
  unfold Iw RN
  simp (disch := omega) only [aD, cJ, aA, lR, c0, aH, lE, fE, e1, aP, lY, aKO]
  refine (aqP hsd (by rw [aK7]; omega)).mono ?_
  rintro r w3 ⟨rfl, rfl⟩
  generalize vX (L.drop (L.length - k)) = x0 at *
  unfold QY Rv QO Q8 RK
  refine cU.rule (fun m (t : aNk × aNk) w' => ∃ i : Nat, m = n - i /\ t = (.int .u64 (x0 * 2 ^ (i - k) : Nat), .int .i64 i) /\ k <= i /\ i <= n /\ eM w' p1 [.slice a L.length c, .int .i64 (lack + (i - k) : Nat)] /\ aW w3 w' (fun y => y = p1)) (n - k)
   ⟨k, rfl, by simp, by omega, by omega, by simpa using o1, aW.refl _ _⟩ ?_
  rintro m t w4 ⟨i, rfl, rfl, hi1, hi2, o4, x4⟩
  have c14 := o4.cell (off := 1)
  have c04 := o4.cell (off := 0)
  simp only [aKM, aKN] at c14 c04
  unfold IA
  by_cases hlt2 : i < n
  .have d3 : decide ((i : Int) < (n : Int)) = true := by simp; omega
   have hle : x0 * 2 ^ (i + 1 - k) <= qF L n := by
    rw [hval]; exact Nat.mul_le_mul_left _ (aKY (by omega) (by omega))
   have hsu : x0 * 2 ^ (i + 1 - k) = x0 * 2 ^ (i - k) * 2 := by rw [show i + 1 - k = i - k + 1 from by omega, aLr, aMZ]
   generalize x0 * 2 ^ (i - k) = y at *
   have e2 : ((lack + (i - k) : Nat) : Int) + 1 = ((lack + (i + 1 - k) : Nat) : Int) := by omega
   have e3 : (y : Int) * 2 = ((y * 2 : Nat) : Int) := by omega
   simp (disch := omega) only [aD, aU, d3, oL, e3, kR, cO, aKP, bN, aP, aA, bO, c14, aH, e2, aG]
   refine oY o4 rfl (by simp) fun w5 o5 x5 s5 => ?_
   simp only [aKS, aKR] at o5
   exact ⟨n - (i + 1), by omega, i + 1, by omega, by rw [hsu]; simp, by omega, by omega, o5, x4.seq x5⟩
  .have d3 : decide ((i : Int) < (n : Int)) = false := by simp; omega
   obtain rfl : i = n := by omega
   rw [<- hval]
   unfold Iz
   simp (disch := omega) only [aD, aU, d3, oL, kR, cO, aKP, bN, aP, aA, bO, cJ, lR, c04, aH, lE, fE, e1, lH, aKO, aE]
   refine aDi o4 rfl (by simp) fun w5 o5 x5 s5 => ?_
   simp only [aKS, aKR] at o5
   have x35 := x4.seq x5
   refine fin _ _ w5 _ o5 rfl (o2.ext x35 (by omega)) (x02.new x35 hw1) fun w' x => ?_
   rw [hRR]
   refine ⟨_, rfl, ⟨_, rfl, ?_, AtI.sub hat (by omega)⟩, x⟩
   have hst := hs.take' (k := L.length - k) (by omega)
   rw [<- aME] at hst
   exact hst.ext x (bZ _)
 by_cases hgt : L.length < n
 .have d3 : decide ((L.length : Int) < (n : Int)) = true := by simp; omega
  simp (disch := omega) only [aD, aU, d1, cJ, aA, lR, dG, bH, aKQ, if_false, bM, dH, d2, c0, aH, lE, d3, aG, aE]
  exact tail _ (by omega)
 .have d3 : decide ((L.length : Int) < (n : Int)) = false := by simp; omega
  simp (disch := omega) only [aD, aU, d1, cJ, aA, lR, dG, bH, aKQ, if_false, bM, dH, d2, c0, aH, lE, d3, aE]
  exact tail _ (by omega)
theorem apH {lo hi lack : Nat} {b : aNk} {L : List Bool} {w : aNj} (h : RB w lo hi b L lack) (hL : L.length <= 10000000) (hk : lack <= 1000000000) :
 aS pg BQ #[b] w (fun r w' => r = .int .i64 ((L.length : Int) - lack) /\ aW w w' eU) := by
 refine atP ?_
 obtain ⟨v, rfl, hs, hat⟩ := h
 obtain ⟨a, c, rfl, hc⟩ := Gz hs
 unfold avH Qy
 refine nK fun w1 o1 x1 s1 => ?_
 simp only [Value.cells] at o1
 have c0 := o1.cell (off := 0)
 have c1 := o1.cell (off := 1)
 simp only [aKM, aKN] at c0 c1
 simp (disch := omega) only [aD, cJ, cO, aKP, aA, bO, lR, c0, aH, lE, c1, fE, aP, true_and]
 exact x1
def kZ (L : List T3) (s : Int) : Nat := if 0 <= s then (match L[s.toNat]? with | some e => e.2.1.toNat | none => 0) else 0
def uI (L : List T3) (s : Int) (x : Nat) : Int := if 0 <= s then (match L[s.toNat]? with | some e => e.2.2 + x | none => 0) else 0
theorem aAA {L : List T3} (h : Low L) (s : Int) : kZ L s <= 20 := by
 unfold kZ
 split
 .split
  .rename_i e he
   obtain ⟨n, h1, h2, _⟩ := h _ (aLU he)
   rw [h1]; simpa using h2
  .omega
 .omega
theorem awG {log lo hi : Nat} {a : Option Addr} {k c : Nat} {l : List UInt8} {left : Int} {w : aNj} (h : Bwd w lo hi l left) (hlh : lo <= hi) (hhi : hi < w.heap.size) (hn : log <= 20) (h1 : left <= 8 * l.length) (h2 : -100000000 <= left) (hl : l.length <= 1000000) :
 aS pg P4 #[.agg #[.int .i64 log, .slice a k c], .pointer (some ⟨hi, 0, none⟩)] w (fun r w' => r = .int .i64 (qF ((aZ l).take left.toNat) log : Nat) /\ Bwd w' lo hi l (left - log) /\ aW w w' (fun y => y = hi)) := by
 refine ayG ?_
 unfold aAr Th
 refine nK fun w1 o1 x1 s1 => ?_
 simp only [Value.cells] at o1
 have c0 := o1.cell (off := 0)
 simp only [aKM, aKN] at c0
 simp (disch := omega) only [aD, jN, aA, bO, c0, aH]
 refine (amQ (h.ext x1 (fun _ _ _ h => h) hlh) hlh (by omega) h1 (by omega) hl).mono ?_
 rintro r w2 ⟨rfl, b2, x2⟩
 have hlt := sO ((aZ l).take left.toNat) log
 have hp : 2 ^ log <= 2 ^ 20 := aKY (by omega) hn
 generalize qF ((aZ l).take left.toNat) log = x at *
 simp (disch := omega) only [bX, aP, aA, true_and]
 exact ⟨b2, (x1.mono fun _ _ h => h.elim).seq x2⟩
theorem aFK {log base b lo hi : Nat} {L : List T3} {v : aNk} {s : Int} {l : List UInt8} {left : Int} {w : aNj} (ht : Tbl w base b log L v) (hL : Low L) (hlen : L.length <= 1000000) (h : Bwd w lo hi l left) (hlh : lo <= hi) (hhi : hi < w.heap.size) (hb : b ≠ hi) (h1 : left <= 8 * l.length) (h2 : -100000000 <= left) (hl : l.length <= 1000000) :
 aS pg Tb #[v, .int .i64 s, .pointer (some ⟨hi, 0, none⟩)] w (fun r w' => r = .int .i64 (uI L s (qF ((aZ l).take left.toNat) (kZ L s))) /\ Bwd w' lo hi l (left - kZ L s) /\ aW w w' (fun y => y = hi)) := by
 refine azP ?_
 obtain ⟨rfl, hb0, ob⟩ := ht
 unfold aC6 Vq
 refine nK fun w1 o1 x1 s1 => ?_
 simp only [Value.cells] at o1
 have c1 := o1.cell (off := 1)
 simp only [aKM, aKN] at c1
 have hbw := h.ext x1 (fun _ _ _ h => h) hlh
 by_cases hs0 : s < 0
 .have d1 : decide (s < 0) = true := by simpa using hs0
  have e1 : kZ L s = 0 := by unfold kZ; rw [if_neg (by omega)]
  have e2 : ∀ x, uI L s x = 0 := fun x => by unfold uI; rw [if_neg (by omega)]
  rw [e1]
  simp (disch := omega) only [aD, aU, d1, cS, aKP, aA, jF, and_true, true_and, gB, jI, bH, if_true, aG, cY]
  exact ⟨by rw [e2], by simpa using hbw, x1.mono fun _ _ h => h.elim⟩
 have d1 : decide (s < 0) = false := by simpa using hs0
 obtain ⟨i, rfl⟩ : ∃ i : Nat, s = i := ⟨s.toNat, by omega⟩
 by_cases hge : L.length <= i
 .have d2 : decide ((L.length : Int) <= (i : Int)) = true := by simp; omega
  have hnone : L[i]? = none := aK3 hge
  have e1 : kZ L i = 0 := by unfold kZ; simp [hnone]
  have e2 : ∀ x, uI L i x = 0 := fun x => by unfold uI; simp [hnone]
  rw [e1]
  simp (disch := omega) only [aD, aU, d1, cS, aKP, aA, jF, and_true, true_and, gB, dG, bH, aKQ, if_false, bM, c1, aH, iO, nE, d2, aG]
  exact ⟨by rw [e2], by simpa using hbw, x1.mono fun _ _ h => h.elim⟩
 have d2 : decide ((L.length : Int) <= (i : Int)) = false := by simp; omega
 have hlt : i < L.length := by omega
 have l1 := Za (off := i * 3) (ob.ext x1 (fun h => h)) (by rw [pS]; omega)
 rw [aBh hlt] at l1
 obtain ⟨n, hn, hn2, hb0', hb1⟩ := hL _ (aLA hlt)
 have hsome : L[i]? = some L[i] := aKW hlt
 have e1 : kZ L i = n := by unfold kZ; simp [hsome, hn]
 have e2 : ∀ x : Nat, uI L i x = L[i].2.2 + x := fun x => by unfold uI; simp [hsome]
 generalize L[i] = e at *
 obtain ⟨e0, en, eb⟩ := e
 simp only at hn hb0' hb1 l1 e2
 subst hn
 rw [e1, e2]
 simp (disch := omega) only [aD, aU, d1, cS, aKP, aA, jF, and_true, true_and, gB, dG, bH, aKQ, if_false, bM, c1, aH, iO, nE, d2, gU, aKO, l1, aE]
 refine aeR fun w3 o3 x3 s3 => ?_
 refine Y1 o3 rfl (by simp [one]) (by simp) fun w4 o4 x4 s4 => ?_
 simp only [bK, aKS, aKR] at o4
 have x14 : aW w1 w4 eU := x3.new x4 (by omega)
 have od := jW o4
 have k1 := o4.cell (off := 1)
 have k2 := o4.cell (off := 2)
 have k1d := od.cell (off := 1)
 have k2d := od.cell (off := 2)
 simp only [aKM, aKN] at k1 k2 k1d k2d
 simp (disch := omega) only [iJ, aKP, gP, Result.ok.injEq, Next.value.injEq, and_true, aA, bO, k1d, aH, true_and, k2d]
 have z3 := x3.size
 refine (amQ ((hbw.ext x14 (fun _ _ _ h => h) hlh).ext (aW.dr _ eU) (fun _ _ _ h => h) hlh) hlh (by omega) h1 (by omega) hl).mono ?_
 rintro r w5 ⟨rfl, b5, x5⟩
 have x45 : aW w4 w5 (fun y => y = hi) := (aW.dr _ _).seq x5
 have k2e := (o4.ext x45 (by omega)).cell (off := 2)
 simp only [aKM, aKN] at k2e
 have hlt := sO ((aZ l).take left.toNat) n
 have hp : 2 ^ n <= 2 ^ 20 := aKY (by omega) hn2
 generalize qF ((aZ l).take left.toNat) n = x at *
 simp (disch := omega) only [k2e, aH, bX, aP, aA, bN, true_and]
 exact ⟨b5, ((x1.seq x14).mono fun _ _ h => h.elim).seq x45⟩
def RT (w : aNj) (b log : Nat) (L : List T3) (v : aNk) : Prop := ∃ cc rest, v = .agg #[.int .i64 log, .slice (some ⟨b, 0, none⟩) L.length cc] /\ eM w b (fe .i64 L ++ rest)
theorem RT.ext {w w' : aNj} {b log : Nat} {L : List T3} {v : aNk} {M : Nat -> Prop} (h : RT w b log L v) (hx : aW w w' M) (hM : ¬ M b) : RT w' b log L v := by
 obtain ⟨cc, rest, h1, h2⟩ := h
 exact ⟨cc, rest, h1, h2.ext hx hM⟩
end Go.Proofs.YtgpimhlgaokobaaGreat
