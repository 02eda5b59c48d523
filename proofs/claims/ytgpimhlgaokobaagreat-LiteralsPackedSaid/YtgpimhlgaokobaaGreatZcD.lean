/- Parts of the proof of LiteralsPacked: merged and given short names by a program of ours. -/
import Derived.Laws.Strings
import Derived.Test.YtgpimhlgaokobaaGreatZcC
set_option linter.unusedVariables false
set_option linter.unusedSimpArgs false
open Bool renaming not_false → aLE, false_eq_true → aLb, and_eq_true → aLq, not_true → aLu, or_eq_false_iff → aM1
open Int renaming toNat_natCast → aK9, tmod_eq_emod_of_nonneg → aLB, tdiv_eq_ediv_of_nonneg → aLr, fdiv_eq_ediv_of_nonneg → aMI
open List renaming getElem?_cons_zero → aK7, getElem?_cons_succ → aK8, length_singleton → aL1, mem_cons → aL2, getElem?_eq_some_iff → aL5, take_add_one → aL6, getElem?_map → aLD, append_assoc → aLF, take_of_length_le → aLH, length_eq_zero_iff → aLI, drop_eq_getElem_cons → aLK, map_congr_left → aLN, mem_append → aLQ, mem_range → aLR, replicate_succ → aLT, length_replicate → aLV, getElem_mem → aLW, append_nil → aLX, getElem?_take_of_lt → aLY, set_cons_succ → aLc, set_cons_zero → aLd, take_succ_cons → aLe, drop_zero → aLf, getElem?_eq_getElem → aLg, length_append → aLh, take_zero → aLi, length_map → aLk, getD_eq_getElem?_getD → aLl, length_take → aLn, getElem?_eq_none → aLo, length_drop → aLs, length_cons → aLw, mem_cons_of_mem → aLx, getElem?_append_left → aLy, map_append → aLz, flatten_cons → aM0, getLast?_eq_getElem? → aM2, replicate_succ' → aM3, drop_drop → aM5, count_append → aMB, getElem_of_mem → aMD, mem_cons_self → aML, getElem?_drop → aMN, set_append_right → aMO, getElem_range → aMP, take_append_drop → aMQ, map_drop → aMS, take_append_of_le_length → aMT, take_length → aMU, drop_of_length_le → aMW, map_take → aMZ, getElem?_range → aMb, getElem?_append_right → aMd, getElem_map → aMe, mem_of_getElem? → aMg, cons_append → aMh, ext_getElem? → aMk, mem_map → aMl, map_cons → aMn, mem_of_mem_take → aMq, set_append_left → aMr, drop_succ_cons → aMs, nil_append → aMu, ext_getElem → aMw, getElem?_replicate → aMz, count_singleton → aND, take_left' → aNc, getElem_cons_succ → aNd, getElem_set_self → aNg, mem_of_mem_drop → aNj, range_succ → aNo, drop_left' → aNq, map_set → aNt, map_replicate → aNu, take_take → aNv, length_range → aNx, drop_eq_nil_of_le → aNy
open Nat renaming add_mul → aL0, min_eq_left → aL3, pow_add → aL7, two_pow_pos → aLC, mul_le_mul_right → aLG, mul_comm → aLJ, pow_succ → aLM, mod_eq_of_lt → aLP, zero_add → aLa, pow_le_pow_right → aLj, le_refl → aLm, lt_or_ge → aLv, zero_le → aM4, testBit_eq_decide_div_mod_eq → aM8, mul_div_cancel_left → aM9, div_div_eq_div_mul → aMG, add_assoc → aMH, lt_of_lt_of_le → aMK, sub_self → aMR, div_lt_iff_lt_mul → aMY, div_le_self → aMa, le_trans → aMf, add_zero → aMi, eq_zero_or_pos → aMv, mul_one → aMy, zero_mul → aNB, mul_assoc → aNk, one_mul → aNl, mul_add → aNm, lt_trichotomy → aNw, div_eq_of_lt → aNz
open Option renaming map_some → aLZ, isNone_some → aLt
open Option.some renaming inj → aLA
open Prod.mk renaming inj → aMV
open UInt8 renaming toNat_lt → aLO
namespace Go.Pu
open Go Go.En
def cc : List (Nat × Nat) -> List aNF
 | [] => []
 | e :: r => .int .i64 (e.1 : Nat) :: .int .i64 (e.2 : Nat) :: cc r
theorem Ev : ∀ L : List (Nat × Nat), (cc L).length = 2 * L.length
 | [] => rfl
 | e :: r => by rw [cc, aLw, aLw, Ev r, aLw]; omega
theorem aFr : ∀ n : Nat, FL n [Value.int .i64 0, Value.int .i64 0] = cc (List.replicate n (0, 0))
 | 0 => rfl
 | n + 1 => by
   have := aFr n
   unfold FL at *
   rw [aLT, aM0, this, aLT, cc] <;> rfl
theorem aGC : ∀ {L : List (Nat × Nat)} {i : Nat} (h : i < L.length), (cc L)[i * 2]? = some (.int .i64 (L[i].1 : Nat)) /\ (cc L)[i * 2 + 1]? = some (.int .i64 (L[i].2 : Nat))
 | [], i, h => by simp at h
 | e :: r, 0, h => ⟨rfl, rfl⟩
 | e :: r, i + 1, h => by
   have := aGC (L := r) (i := i) (by simpa using h)
   rw [cc, show (i + 1) * 2 = i * 2 + 1 + 1 from by omega, aNd]
   exact this
theorem aEU : ∀ {L : List (Nat × Nat)} {i : Nat} (h : i < L.length), ((cc L).drop (i * 2)).take 2 = [.int .i64 (L[i].1 : Nat), .int .i64 (L[i].2 : Nat)]
 | [], i, h => by simp at h
 | e :: r, 0, h => rfl
 | e :: r, i + 1, h => by
   have := aEU (L := r) (i := i) (by simpa using h)
   rw [cc, show (i + 1) * 2 = i * 2 + 1 + 1 from by omega, aMs, aMs, aNd]
   exact this
theorem aEj : ∀ {L : List (Nat × Nat)} {i : Nat} (e : Nat × Nat), i < L.length -> ((cc L).set (i * 2) (.int .i64 (e.1 : Nat))).set (i * 2 + 1) (.int .i64 (e.2 : Nat)) = cc (L.set i e)
 | [], i, e, h => by simp at h
 | x :: r, 0, e, h => rfl
 | x :: r, i + 1, e, h => by
   have := aEj (L := r) (i := i) e (by simpa using h)
   rw [cc, show (i + 1) * 2 = i * 2 + 1 + 1 from by omega, aLc, aLc, aLc, aLc, this, aLc, cc]
theorem aA9 : ∀ (a b : List (Nat × Nat)), cc (a ++ b) = cc a ++ cc b
 | [], b => rfl
 | e :: a, b => by rw [aMh, cc, cc, aA9 a b] <;> rfl
def uL (l : List Nat) (d w i : Nat) : List (Nat × Nat) := (List.range l.length).map fun s => if l.getD s 0 < w ∨ (l.getD s 0 = w /\ s < i) then Eg l d s else (0, 0)
def pL (l : List Nat) (d : Nat) : List (Nat × Nat) := (List.range l.length).map (Eg l d)
theorem lS (l : List Nat) (d w i : Nat) : (uL l d w i).length = l.length := by simp [uL]
theorem sS (l : List Nat) (d : Nat) : (pL l d).length = l.length := by simp [pL]
theorem Uj {l : List Nat} {d s : Nat} (h : s < l.length) : (pL l d)[s]? = some (Eg l d s) := by
 unfold pL; rw [aLD, aMb h] <;> rfl
theorem wA {l : List Nat} {d w i s : Nat} (h : s < l.length) : (uL l d w i)[s]? = some (if l.getD s 0 < w ∨ (l.getD s 0 = w /\ s < i) then Eg l d s else (0, 0)) := by
 unfold uL; rw [aLD, aMb h] <;> rfl
theorem Zz (l : List Nat) (d : Nat) : uL l d 1 0 = List.replicate l.length (0, 0) := by
 apply aMk
 intro s
 rcases aLv s l.length with h | h
 .rw [wA h, aMz, if_pos h]
  congr 1
  split
  .rename_i hh
   unfold Eg
   rw [if_pos (by omega)]
  .rfl
 .rw [aLo (by rw [lS]; exact h), aLo (by simpa using h)]
theorem aiW {l : List Nat} {d w : Nat} : uL l d w l.length = uL l d (w + 1) 0 := by
 apply aMk
 intro s
 rcases aLv s l.length with h | h
 .rw [wA h, wA h]
  congr 1
  by_cases hh : l.getD s 0 < w + 1
  .rw [if_pos (by omega), if_pos (by omega)]
  .rw [if_neg (by omega), if_neg (by omega)]
 .rw [aLo (by rw [lS]; exact h), aLo (by rw [lS]; exact h)]
theorem arY {l : List Nat} {d w : Nat} (hall : ∀ x ∈ l, x <= d) (hw : d < w) : uL l d w 0 = pL l d := by
 apply aMk
 intro s
 rcases aLv s l.length with h | h
 .rw [wA h, Uj h, if_pos]
  have := hall _ (tG h)
  omega
 .rw [aLo (by rw [lS]; exact h), aLo (by rw [sS]; exact h)]
theorem ahA {l : List Nat} {d w i : Nat} (h : i < l.length) (hw : l.getD i 0 ≠ w) : uL l d w (i + 1) = uL l d w i := by
 apply aMk
 intro s
 rcases aLv s l.length with hs | hs
 .rw [wA hs, wA hs]
  congr 1
  by_cases hsi : s = i
  .subst hsi
   by_cases h1 : l.getD s 0 < w
   .rw [if_pos (by omega), if_pos (by omega)]
   .rw [if_neg (by omega), if_neg (by omega)]
  .by_cases h1 : l.getD s 0 < w ∨ (l.getD s 0 = w /\ s < i)
   .rw [if_pos (by omega), if_pos h1]
   .rw [if_neg (by omega), if_neg h1]
 .rw [aLo (by rw [lS]; exact hs), aLo (by rw [lS]; exact hs)]
theorem asE {l : List Nat} {d w i : Nat} (h : i < l.length) (hw : l.getD i 0 = w) : (uL l d w i).set i (Eg l d i) = uL l d w (i + 1) := by
 apply aMk
 intro s
 rw [List.getElem?_set]
 rcases aLv s l.length with hs | hs
 .by_cases hsi : i = s
  .subst hsi
   rw [if_pos rfl, if_pos (by rw [lS]; exact h), wA (i := i + 1) hs, if_pos (by omega)]
  .rw [if_neg hsi, wA (i := i) hs, wA (i := i + 1) hs]
   congr 1
   by_cases h1 : l.getD s 0 < w ∨ (l.getD s 0 = w /\ s < i)
   .rw [if_pos h1, if_pos (by omega)]
   .rw [if_neg h1, if_neg (by omega)]
 .rw [if_neg (by omega), aLo (by rw [lS]; exact hs), aLo (by rw [lS]; exact hs)]
def EJ (l : List Nat) (w i : Nat) : Nat := yS l w + (l.take i).count w * 2 ^ (w - 1)
theorem awU (l : List Nat) : EJ l 1 0 = 0 := by unfold EJ; rw [awK]; simp
theorem aqO {l : List Nat} {w : Nat} (h : 1 <= w) : EJ l w l.length = EJ l (w + 1) 0 := by
 unfold EJ
 rw [aMU, QD l w h]; simp
theorem anD {l : List Nat} {w i : Nat} (h : i < l.length) : EJ l w (i + 1) = EJ l w i + (if l.getD i 0 = w then 2 ^ (w - 1) else 0) := by
 have hg : l.getD i 0 = l[i] := by rw [aLl, aLg h] <;> rfl
 unfold EJ
 rw [aL6, aLg h, aMB, hg]
 simp only [Option.toList, aND]
 by_cases hw : l[i] = w
 .subst hw; simp [aL0]; omega
 .rw [if_neg hw]
  have : (l[i] == w) = false := by simpa using hw
  rw [this]; simp
theorem aBH {l : List Nat} {w i : Nat} (h : l.getD i 0 = w) : EJ l w i = NI l i := by unfold EJ NI; rw [h]
theorem aFi {l : List Nat} {d w i : Nat} (hs : dV l = 2 ^ d) (hall : ∀ x ∈ l, x <= d) (h1 : 1 <= w) (hw : w <= d) : EJ l w i <= 2 ^ d := by
 have h2 : EJ l w i <= yS l (w + 1) := by
  rw [QD l w h1]
  unfold EJ
  have hc : (l.take i).count w <= l.count w := (List.take_sublist _ _).count_le _
  have := aLG (2 ^ (w - 1)) hc
  omega
 have h3 := Wh (l := l) (a := w + 1) (b := d + 1) (by omega) (by omega)
 rw [ZY hall, hs] at h3
 omega
end Go.Pu
namespace Go.Proofs.YtgpimhlgaokobaaGreat
open Go Go.En Go.Pu
set_option maxRecDepth 4000
theorem aCy {l : List UInt8} {i : Nat} (h : i < l.length) : (bT l).getD i 0 = l[i].toNat := by rw [aLl, aCH h] <;> rfl
theorem aBb {v : aNF} {l : List UInt8} {d : Nat} {w : aNE} (h : Bs w v l) (hd : gQ (bT l) = d) (hd0 : d ≠ 0) :
 aT pg tU #[v] w (fun r w' => ∃ b, r = .tuple #[.slice (some ⟨b, 0, none⟩) l.length l.length, .int .i64 0] /\ w.heap.size <= b /\ eM w' b (cc (pL (bT l) d)) /\ aW w w' eT) := by
 refine OB ?_
 obtain ⟨hall, hd11, hl2, hl256, hlast, hsum⟩ := vZ hd hd0
 have hnl := iQ l
 obtain ⟨b, off, c, rfl, hc, hcell⟩ := O6 h (by omega)
 unfold RD AU A5
 refine (avO h (by omega)).mono ?_
 rintro r w1 ⟨rfl, rfl⟩
 rw [hd]
 have n1 : ((d : Int) == 0) = false := beq_eq_false_iff_ne.2 (by omega)
 simp (disch := omega) only [aD, dQ, n1, aQ, aA, aE]
 refine YQ (by omega) (by omega) fun w2 o2 x2 s2 => ?_
 rw [aK9] at o2 ⊢
 rw [aFr, <- hnl, <- Zz _ d] at o2
 generalize hpb : w1.heap.size = pb at *
 have hp2 : 2 ^ d <= 2 ^ 11 := aLj (by omega) hd11
 unfold FU Fi FY FD F5
 refine cS.rule (fun m (t : aNF × aNF) w' => ∃ q : Nat, m = d + 1 - q /\ t = (.int .i64 (EJ (bT l) q 0 : Nat), .int .i64 q) /\ 1 <= q /\ q <= d + 1 /\ eM w' pb (cc (uL (bT l) d q 0)) /\ aW w2 w' (fun y => y = pb)) d
  ⟨1, by omega, by rw [awU] <;> rfl, by omega, by omega, o2, aW.refl _ _⟩ ?_
 rintro m t w3 ⟨q, rfl, rfl, hq1, hqd, o3, x3⟩
 unfold AT FF
 by_cases hq : q <= d
 .have d1 : decide ((q : Int) <= (d : Int)) = true := by simp; omega
  simp (disch := omega) only [aD, Bi, d1, aA, aG]
  unfold Fv Ga Sh Hu
  simp (disch := omega) only [aD, aQ, aA]
  unfold HW Iz
  refine cS.rule (fun m (t : aNF × aNF) w' => ∃ i : Nat, m = l.length - i /\ t = (.int .i64 (EJ (bT l) q i : Nat), .int .i64 i) /\ i <= l.length /\ eM w' pb (cc (uL (bT l) d q i)) /\ aW w2 w' (fun y => y = pb)) l.length
   ⟨0, rfl, rfl, by omega, o3, x3⟩ ?_
  rintro m t w4 ⟨i, rfl, rfl, hi, o4, x4⟩
  unfold BV Ip
  by_cases hlt : i < l.length
  .have d2 : decide ((i : Int) < (l.length : Int)) = true := by simp; omega
   have h4 : Bs w4 _ l := (h.ext x2 (bZ _)).ext x4 (fun hb => (h.old) (akG hb fun y hy => by omega))
   obtain ⟨_, _, _, he, _, hcell4⟩ := O6 h4 (by omega)
   cases he
   have g1 := hcell4 i hlt
   have hgd := aCy hlt
   have hstep := anD (l := bT l) (w := q) (i := i) (by omega)
   have hskip := ahA (l := bT l) (d := d) (w := q) (i := i) (by omega)
   have hset := asE (l := bT l) (d := d) (w := q) (i := i) (by omega)
   have hof := aBH (l := bT l) (w := q) (i := i)
   have hle := aFi (l := bT l) (d := d) (w := q) (i := i) hsum hall hq1 hq
   have hco : Eg (bT l) d i = if (bT l).getD i 0 = 0 then (0, 0) else (d + 1 - (bT l).getD i 0, NI (bT l) i / 2 ^ ((bT l).getD i 0 - 1)) := rfl
   rw [hgd] at hskip hset hstep hof hco
   have hx : (l[i]).toNat < 256 := aLO _
   generalize (l[i]).toNat = x at *
   unfold Cq
   by_cases hxq : x = q
   .subst hxq
    have n2 : ((x : Int) != (x : Int)) = false := by simp
    have e1 : (d : Int) + 1 - (x : Int) = ((d + 1 - x : Nat) : Int) := by omega
    have e2 : (x : Int) - 1 = ((x - 1 : Nat) : Int) := by omega
    rw [if_neg (by omega), <- hof rfl] at hco
    rw [if_pos rfl] at hstep
    have hset := hset rfl
    rw [hco] at hset
    have e3 : ((EJ (bT l) x i : Nat) : Int).fdiv (2 ^ (min (x - 1) IntKind.i64.bits)) = ((EJ (bT l) x i / 2 ^ (x - 1) : Nat) : Int) := by
     rw [show min (x - 1) IntKind.i64.bits = x - 1 from aL3 (by have : IntKind.i64.bits = 64 := rfl
                                                                omega), aMI _ (Int.pow_nonneg (by omega))]
     simp
    have hdl := aMa (EJ (bT l) x i) (2 ^ (x - 1))
    have hsh := aFx (n := x - 1) (by omega)
    have hpx : 2 ^ (x - 1) <= 2 ^ 11 := aLj (by omega) (by omega)
    have e4 : ((EJ (bT l) x i : Nat) : Int) + ((2 ^ (x - 1) : Nat) : Int) = ((EJ (bT l) x (i + 1) : Nat) : Int) := by omega
    generalize EJ (bT l) x i = at' at *
    generalize at' / 2 ^ (x - 1) = cd at *
    simp (disch := omega) only [aD, aS, d2, dA, aK9, bK, aP, aA, fE, e2, eN, aLa, pE, sR, e3, e1, fK, gS, g1, aH, dF, cY, n2, aE, aG]
    refine HD o4 rfl (by simp [one]) (by rw [Ev, lS]; simp; omega) fun w5 o5 x5 s5 => ?_
    simp only [bM] at o5
    have hcs := aEj (L := uL (bT l) d x i) (i := i) (d + 1 - x, cd) (by rw [lS]; omega)
    simp only at hcs
    rw [hcs, hset] at o5
    simp (disch := omega) only [hsh, e4]
    exact ⟨l.length - (i + 1), by omega, i + 1, rfl, rfl, by omega, o5, x4.trans x5 fun _ _ h => h⟩
   .have n2 : ((x : Int) != (q : Int)) = true := by simp; omega
    rw [if_neg hxq, aMi] at hstep
    have hskip := hskip hxq
    simp (disch := omega) only [aD, aS, d2, dA, aK9, bK, aP, aA, fE, eN, aLa, pE, sR, fK, gS, g1, aH, dF, cY, n2, aG]
    exact ⟨l.length - (i + 1), by omega, i + 1, rfl, by rw [hstep] <;> rfl, by omega, by rw [hskip]; exact o4, x4⟩
  .have d2 : decide ((i : Int) < (l.length : Int)) = false := by simp; omega
   obtain rfl : i = l.length := by omega
   have e1 := aqO (l := bT l) (w := q) hq1
   rw [hnl] at e1
   have e2 := aiW (l := bT l) (d := d) (w := q)
   rw [hnl] at e2
   rw [e2] at o4
   unfold Cp
   simp (disch := omega) only [aD, aS, d2, bK, aP, fE, aA, pE, sR, fK, aE]
   exact ⟨d + 1 - (q + 1), by omega, q + 1, rfl, by rw [e1] <;> rfl, by omega, by omega, o4, x4⟩
 .have d1 : decide ((q : Int) <= (d : Int)) = false := by simp; omega
  rw [arY hall (by omega)] at o3
  unfold B7
  simp (disch := omega) only [aD, Bi, d1, aA, aE]
  exact ⟨pb, rfl, by omega, o3, x2.trans x3 fun _ hb h => by omega⟩
theorem anL {v : aNF} {l : List UInt8} {w : aNE} (h : Bs w v l) (hl : l.length <= 100000) (hd : gQ (bT l) = 0) :
 aT pg tU #[v] w (fun r w' => r = .tuple #[.slice none 0 0, .int .i64 1] /\ w' = w) := by
 refine OB ?_
 unfold RD AU A5
 refine (avO h hl).mono ?_
 rintro r w1 ⟨rfl, rfl⟩
 rw [hd]
 have n1 : (((0 : Nat) : Int) == 0) = true := rfl
 simp (disch := omega) only [aD, dQ, n1, true_and, aA, aG]
end Go.Proofs.YtgpimhlgaokobaaGreat
namespace Go.Pu
theorem aAu {log : Nat} {ps : List Int} {i : Nat} (h : i < 2 ^ log) : (xC log ps)[i]? = some (UU log ps (rH 0 log ps) i) := by
 unfold xC
 rw [aLD, aMb h] <;> rfl
end Go.Pu
namespace Go.Pu
open Go Go.En
def V0 (k : Nat) : List Nat := if k = 0 then [0, 1, 2, 3, 4, 5, 6, 7, 8, 9, 10, 11, 12, 13, 14, 15, 16, 18, 20, 22, 24, 28, 32, 40, 48, 64, 128, 256, 512, 1024, 2048, 4096, 8192, 16384, 32768, 65536]
 else if k = 1 then [1, 2, 4, 8, 16, 32, 64, 128, 256, 512, 1024, 2048, 4096, 8192, 16384, 32768, 65536, 131072, 262144, 524288, 1048576, 2097152, 4194304, 8388608, 16777216, 33554432, 67108864, 134217728, 268435456, 536870912, 1073741824, 2147483648]
 else [3, 4, 5, 6, 7, 8, 9, 10, 11, 12, 13, 14, 15, 16, 17, 18, 19, 20, 21, 22, 23, 24, 25, 26, 27, 28, 29, 30, 31, 32, 33, 34, 35, 37, 39, 41, 43, 47, 51, 59, 67, 83, 99, 131, 259, 515, 1027, 2051, 4099, 8195, 16387, 32771, 65539]
def azR (k : Nat) : List Nat := if k = 0 then [0, 0, 0, 0, 0, 0, 0, 0, 0, 0, 0, 0, 0, 0, 0, 0, 1, 1, 1, 1, 2, 2, 3, 3, 4, 6, 7, 8, 9, 10, 11, 12, 13, 14, 15, 16]
 else if k = 1 then List.range 32
 else [0, 0, 0, 0, 0, 0, 0, 0, 0, 0, 0, 0, 0, 0, 0, 0, 0, 0, 0, 0, 0, 0, 0, 0, 0, 0, 0, 0, 0, 0, 0, 0, 1, 1, 1, 1, 2, 2, 3, 3, 4, 4, 5, 7, 8, 9, 10, 11, 12, 13, 14, 15, 16]
abbrev avC (k : Nat) : Nat := (V0 k).length
theorem aGm {k : Nat} (h : k < 3) (c : Nat) (hc : c + 1 < avC k) : (V0 k).getD (c + 1) 0 = (V0 k).getD c 0 + 2 ^ (azR k).getD c 0 := by
 have h0 : ∀ c, c < 53 -> c + 1 < avC 0 -> (V0 0).getD (c + 1) 0 = (V0 0).getD c 0 + 2 ^ (azR 0).getD c 0 := by decide +kernel
 have h1 : ∀ c, c < 53 -> c + 1 < avC 1 -> (V0 1).getD (c + 1) 0 = (V0 1).getD c 0 + 2 ^ (azR 1).getD c 0 := by decide +kernel
 have h2 : ∀ c, c < 53 -> c + 1 < avC 2 -> (V0 2).getD (c + 1) 0 = (V0 2).getD c 0 + 2 ^ (azR 2).getD c 0 := by decide +kernel
 have hl : avC k <= 53 := by rcases (show k = 0 ∨ k = 1 ∨ k = 2 by omega) with rfl | rfl | rfl <;> decide
 rcases (show k = 0 ∨ k = 1 ∨ k = 2 by omega) with rfl | rfl | rfl
 .exact h0 c (by omega) hc
 .exact h1 c (by omega) hc
 .exact h2 c (by omega) hc
theorem aKQ {k : Nat} (h : k < 3) (c : Nat) (hc : c < avC k) : (V0 k).getD c 0 + 2 ^ (azR k).getD c 0 <= 4294967296 := by
 have h0 : ∀ c, c < 53 -> c < avC 0 -> (V0 0).getD c 0 + 2 ^ (azR 0).getD c 0 <= 4294967296 := by decide +kernel
 have h1 : ∀ c, c < 53 -> c < avC 1 -> (V0 1).getD c 0 + 2 ^ (azR 1).getD c 0 <= 4294967296 := by decide +kernel
 have h2 : ∀ c, c < 53 -> c < avC 2 -> (V0 2).getD c 0 + 2 ^ (azR 2).getD c 0 <= 4294967296 := by decide +kernel
 have hl : avC k <= 53 := by rcases (show k = 0 ∨ k = 1 ∨ k = 2 by omega) with rfl | rfl | rfl <;> decide
 rcases (show k = 0 ∨ k = 1 ∨ k = 2 by omega) with rfl | rfl | rfl
 .exact h0 c (by omega) hc
 .exact h1 c (by omega) hc
 .exact h2 c (by omega) hc
def aCq (k v c : Nat) : Prop := c < avC k /\ (V0 k).getD c 0 <= v /\ v < (V0 k).getD c 0 + 2 ^ (azR k).getD c 0
theorem aqW {k : Nat} (h : k < 3) : ∀ {c d : Nat}, c < d -> d < avC k -> (V0 k).getD c 0 + 2 ^ (azR k).getD c 0 <= (V0 k).getD d 0
 | c, d + 1, hcd, hd => by
   have e := aGm h d (by omega)
   rcases aLv c d with h' | h'
   .have := aqW h h' (by omega)
    have := aLC ((azR k).getD d 0)
    omega
   .have : c = d := by omega
    subst this; omega
theorem aCq.one {k v c d : Nat} (hk : k < 3) (hc : aCq k v c) (hd : aCq k v d) : c = d := by
 rcases aNw c d with h | h | h
 .have := aqW hk h hd.1; have := hc.2.2; have := hd.2.1; omega
 .exact h
 .have := aqW hk h hc.1; have := hd.2.2; have := hc.2.1; omega
theorem aCq.lt {k v c : Nat} (hk : k < 3) (hc : aCq k v c) : v < 4294967296 := by
 have := aKQ hk c hc.1; have := hc.2.2; omega
def LW (B : List Bool) (left : Int) (n : Nat) : Nat := qH (B.take left.toNat) n
theorem aJB {T B X u : List Bool} {x n : Nat} (hT : T.take (X ++ u).length = X ++ u) (hu : u = yW x n) (hx : x < 2 ^ n) : LW T ((X ++ u).length : Nat) n = x /\ (((X ++ u).length : Nat) : Int) - n = ((X.length : Nat) : Int) /\ T.take X.length = X := by
 subst hu
 have hl : (X ++ yW x n).length = X.length + n := by rw [aLh, G0]
 refine ⟨?_, by omega, ?_⟩
 .unfold LW
  rw [aK9, hT, aEl hx]
 .have := congrArg (List.take X.length) hT
  rw [aNv, aL3 (by omega), aMT (aLm _), aLH (aLm _)] at this
  exact this
def pI (C : List (Nat × Nat)) : Nat := C.foldl (fun m e => max m e.1) 0
theorem aCQ : ∀ (C : List (Nat × Nat)) (m : Nat), m <= C.foldl (fun m e => max m e.1) m /\ ∀ e ∈ C, e.1 <= C.foldl (fun m e => max m e.1) m
 | [], m => ⟨aLm _, fun e h => by cases h⟩
 | x :: C, m => by
   obtain ⟨h1, h2⟩ := aCQ C (max m x.1)
   rw [List.foldl_cons]
   refine ⟨by omega, fun e he => ?_⟩
   rcases aL2.1 he with rfl | he
   .omega
   .exact h2 e he
theorem anY {C : List (Nat × Nat)} {e : Nat × Nat} (h : e ∈ C) : e.1 <= pI C := (aCQ C 0).2 e h
theorem aHF (C : List (Nat × Nat)) (e : Nat × Nat) : pI (C ++ [e]) = max (pI C) e.1 := by
 unfold pI; rw [List.foldl_append] <;> rfl
theorem aHi {d : Nat} : ∀ {C : List (Nat × Nat)} {m : Nat}, m <= d -> (∀ e ∈ C, e.1 <= d) -> C.foldl (fun m e => max m e.1) m <= d
 | [], m, hm, _ => hm
 | x :: C, m, hm, h => by
   rw [List.foldl_cons]
   exact aHi (by have := h x (aML ..); omega) fun e he => h e (aLx _ he)
def G6 (C : List (Nat × Nat)) (m x s : Nat) : Bool := match C[s]? with
 | some e => decide (0 < e.1) && decide (x / 2 ^ (m - e.1) = e.2)
 | none => false
theorem OM {C : List (Nat × Nat)} {m x s : Nat} : G6 C m x s = true ↔ ∃ b c, C[s]? = some (b, c) /\ 0 < b /\ x / 2 ^ (m - b) = c := by
 unfold G6
 cases h : C[s]? with
 | none => simp
 | some e =>
   obtain ⟨b, c⟩ := e
   simp only [aLq, decide_eq_true_eq]
   constructor
   .rintro ⟨h1, h2⟩; exact ⟨b, c, rfl, h1, h2⟩
   .rintro ⟨b', c', h1, h2, h3⟩; cases h1; exact ⟨h2, h3⟩
structure YD (C : List (Nat × Nat)) (m : Nat) : Prop where
 le : ∀ (s b c : Nat), C[s]? = some (b, c) -> b <= m /\ (0 < b -> c < 2 ^ b)
 ex : ∀ x, x < 2 ^ m -> ∃ s, G6 C m x s = true
 un : ∀ x s t, x < 2 ^ m -> G6 C m x s = true -> G6 C m x t = true -> s = t
 pos : 0 < m
theorem aEY {l : List Nat} {w y : Nat} : ∀ i, i <= l.length -> yS l w <= y -> y < EJ l w i -> ∃ s, s < l.length /\ l.getD s 0 = w /\ NI l s <= y /\ y < NI l s + 2 ^ (w - 1)
 | 0, _, h, hy => by unfold EJ at hy; simp at hy; omega
 | i + 1, hi, h, hy => by
   rcases aLv y (EJ l w i) with h1 | h1
   .exact aEY i (by omega) h h1
   .rw [anD (by omega)] at hy
    by_cases hw : l.getD i 0 = w
    .rw [if_pos hw] at hy
     rw [aBH hw] at hy h1
     exact ⟨i, by omega, hw, h1, hy⟩
    .rw [if_neg hw] at hy; omega
theorem aKt {l : List Nat} {y : Nat} : ∀ w, y < yS l (w + 1) -> ∃ s, s < l.length /\ l.getD s 0 ≠ 0 /\ NI l s <= y /\ y < NI l s + 2 ^ (l.getD s 0 - 1)
 | 0, hy => by rw [awK] at hy; omega
 | w + 1, hy => by
   rcases aLv y (yS l (w + 1)) with h1 | h1
   .exact aKt w h1
   .have h2 : y < EJ l (w + 1) l.length := by rw [aqO (by omega)]; unfold EJ; simpa using hy
    obtain ⟨s, a, b, c, d⟩ := aEY l.length (aLm _) h1 h2
    exact ⟨s, a, by omega, c, by rw [b]; exact d⟩
theorem aJo {l : List Nat} {s d y : Nat} (h : s < l.length) (h0 : l.getD s 0 ≠ 0) (hs : dV l = 2 ^ d) (hd : l.getD s 0 <= d) : (NI l s <= y /\ y < NI l s + 2 ^ (l.getD s 0 - 1)) ↔ y / 2 ^ (l.getD s 0 - 1) = NI l s / 2 ^ (l.getD s 0 - 1) := by
 obtain ⟨q, hq⟩ := aDY h h0 hs hd
 have hp := aLC (l.getD s 0 - 1)
 rw [hq, aM9 _ hp]
 generalize 2 ^ (l.getD s 0 - 1) = p at *
 constructor
 .rintro ⟨h1, h2⟩
  rw [Nat.div_eq_iff hp, aLJ]
  omega
 .intro h
  rw [Nat.div_eq_iff hp, aLJ q] at h
  omega
theorem W8 {l : List Nat} {d s b c : Nat} (h : (pL l d)[s]? = some (b, c)) : s < l.length /\ Eg l d s = (b, c) := by
 have hs : s < l.length := by
  rcases aLv s l.length with h' | h'
  .exact h'
  .rw [aLo (by rw [sS]; exact h')] at h; cases h
 rw [Uj hs] at h
 exact ⟨hs, aLA h⟩
theorem axR {l : List Nat} {d : Nat} (hd : gQ l = d) (hd0 : d ≠ 0) : YD (pL l d) (pI (pL l d)) /\ pI (pL l d) <= d := by
 obtain ⟨hall, hd11, hl2, hl256, hlast, hsum⟩ := vZ hd hd0
 have hle : pI (pL l d) <= d := aHi (aM4 _) fun e he => by
  obtain ⟨s, hs⟩ := List.getElem?_of_mem he
  obtain ⟨hsl, hc⟩ := W8 (b := e.1) (c := e.2) hs
  unfold Eg at hc
  split at hc
  .have := (aMV hc).1; omega
  .have := (aMV hc).1; omega
 have key : ∀ x s, G6 (pL l d) (pI (pL l d)) x s = true ↔ s < l.length /\ l.getD s 0 ≠ 0 /\ (x * 2 ^ (d - pI (pL l d))) / 2 ^ (l.getD s 0 - 1) = NI l s / 2 ^ (l.getD s 0 - 1) := by
  intro x s
  rw [OM]
  have hx : ∀ {b : Nat}, b <= pI (pL l d) -> 0 < b -> b = d + 1 - l.getD s 0 -> l.getD s 0 <= d -> l.getD s 0 ≠ 0 -> (x * 2 ^ (d - pI (pL l d))) / 2 ^ (l.getD s 0 - 1) = x / 2 ^ (pI (pL l d) - b) := by
   intro b h1 h2 h3 h4 h5
   rw [show l.getD s 0 - 1 = (d - pI (pL l d)) + (pI (pL l d) - b) from by omega, aL7, <- aMG, Nat.mul_div_cancel _ (aLC _)]
  constructor
  .rintro ⟨b, c, h1, h2, h3⟩
   have hm := anY (aMg h1)
   obtain ⟨hs, hc⟩ := W8 h1
   unfold Eg at hc
   by_cases h0 : l.getD s 0 = 0
   .rw [if_pos h0] at hc; cases hc; omega
   .rw [if_neg h0] at hc
    obtain ⟨hb, hcc⟩ := aMV hc
    have hws := hall _ (tG hs)
    exact ⟨hs, h0, by rw [hx hm h2 hb.symm hws h0, h3, hcc]⟩
  .rintro ⟨hs, h0, h⟩
   have hws := hall _ (tG hs)
   have hg := Uj (d := d) hs
   have hm := anY (aMg hg)
   have hc : Eg l d s = (d + 1 - l.getD s 0, NI l s / 2 ^ (l.getD s 0 - 1)) := by unfold Eg; rw [if_neg h0]
   rw [hc] at hg hm
   exact ⟨_, _, hg, by omega, by rw [<- hx hm (by omega) rfl hws h0, h]⟩
 have hyx : ∀ x, x < 2 ^ pI (pL l d) -> x * 2 ^ (d - pI (pL l d)) < 2 ^ d := fun x hx => by
  have := Nat.mul_lt_mul_of_pos_right hx (aLC (d - pI (pL l d)))
  rwa [<- aL7, show pI (pL l d) + (d - pI (pL l d)) = d from by omega] at this
 have ex : ∀ x, x < 2 ^ pI (pL l d) -> ∃ s, G6 (pL l d) (pI (pL l d)) x s = true := fun x hx => by
  have h1 := hyx x hx
  rw [<- hsum, <- ZY hall] at h1
  obtain ⟨s, a, b, c, e⟩ := aKt d h1
  exact ⟨s, (key x s).2 ⟨a, b, (aJo a b hsum (hall _ (tG a))).1 ⟨c, e⟩⟩⟩
 refine ⟨⟨fun s b c h => ?_, ex, fun x s t hx h1 h2 => ?_, ?_⟩, hle⟩
 .have hm := anY (aMg h)
  refine ⟨hm, fun hb => ?_⟩
  obtain ⟨hs, hc⟩ := W8 h
  unfold Eg at hc
  by_cases h0 : l.getD s 0 = 0
  .rw [if_pos h0] at hc; cases hc; omega
  .rw [if_neg h0] at hc
   obtain ⟨hb', hcc⟩ := aMV hc
   rw [<- hb', <- hcc]
   exact aF9 hs h0 hsum hall
 .obtain ⟨a1, b1, c1⟩ := (key x s).1 h1
  obtain ⟨a2, b2, c2⟩ := (key x t).1 h2
  have dv : ∀ {y p q : Nat}, p <= q -> y / 2 ^ q = y / 2 ^ p / 2 ^ (q - p) := fun {y p q} h => by
   rw [aMG, <- aL7, show p + (q - p) = q from by omega]
  refine Decidable.byContradiction fun hne => ?_
  rcases Nat.le_total (l.getD t 0) (l.getD s 0) with hle' | hle'
  .refine aAZ a1 a2 hne b1 b2 hle' hsum hall ?_
   rw [<- c2, <- c1, dv (y := x * 2 ^ (d - pI (pL l d))) (p := l.getD t 0 - 1) (q := l.getD s 0 - 1) (by omega)]
   congr 2; omega
  .refine aAZ a2 a1 (fun h => hne h.symm) b2 b1 hle' hsum hall ?_
   rw [<- c2, <- c1, dv (y := x * 2 ^ (d - pI (pL l d))) (p := l.getD s 0 - 1) (q := l.getD t 0 - 1) (by omega)]
   congr 2; omega
 .obtain ⟨s, hs⟩ := ex 0 (aLC _)
  obtain ⟨b, c, h1, h2, _⟩ := OM.1 hs
  have := anY (aMg h1)
  omega
def EF (C : List (Nat × Nat)) (m x : Nat) : Nat := ((List.range C.length).find? (G6 C m x)).getD 0
def bitsOf (C : List (Nat × Nat)) (s : Nat) : Nat := (C.getD s (0, 0)).1
theorem avT {C : List (Nat × Nat)} {m x s : Nat} (h : G6 C m x s = true) : s < C.length := by
 obtain ⟨b, c, h1, _⟩ := OM.1 h
 exact (aL5.1 h1).1
theorem axJ {C : List (Nat × Nat)} {m x s : Nat} (hF : YD C m) (hx : x < 2 ^ m) (h : G6 C m x s = true) : EF C m x = s := by
 unfold EF
 cases hf : (List.range C.length).find? (G6 C m x) with
 | none => exact absurd h (List.find?_eq_none.1 hf s (aLR.2 (avT h)))
 | some t => exact hF.un x t s hx (List.find?_some hf) h
theorem apO {C : List (Nat × Nat)} {m x : Nat} (hF : YD C m) (hx : x < 2 ^ m) : G6 C m x (EF C m x) = true := by
 obtain ⟨s, hs⟩ := hF.ex x hx
 rw [axJ hF hx hs]; exact hs
theorem apR {C : List (Nat × Nat)} {s b c : Nat} (h : C[s]? = some (b, c)) : bitsOf C s = b := by
 unfold bitsOf; rw [aLl, h] <;> rfl
def Ce (C : List (Nat × Nat)) (m : Nat) (B : List Bool) : Nat -> Int -> List Nat × Int
 | 0, left => ([], left)
 | n + 1, left =>
   let s := EF C m (LW B left m)
   let r := Ce C m B n (left - bitsOf C s)
   (s :: r.1, r.2)
theorem Xz {C : List (Nat × Nat)} {m : Nat} {B : List Bool} : ∀ {n : Nat} {left : Int}, (Ce C m B n left).1.length = n
 | 0, _ => rfl
 | n + 1, left => by rw [Ce, aLw, Xz]
theorem Ke (B : List Bool) (left : Int) (n : Nat) : LW B left n < 2 ^ n := tC _ _
theorem aBc {B : List Bool} {left : Int} (a b : Nat) (h : left <= B.length) : LW B left (a + b) = LW B left a * 2 ^ b + LW B (left - a) b := by
 unfold LW
 obtain ⟨k, hk⟩ : ∃ k, left.toNat = k := ⟨_, rfl⟩
 have hkB : k <= B.length := by omega
 have e2 : (left - a).toNat = k - a := by omega
 rw [hk, e2]
 have l1 : (B.take k).length = k := by rw [aLn]; omega
 have l2 : (B.take (k - a)).length = k - a := by rw [aLn]; omega
 unfold qH
 rw [l1, l2]
 rcases aLv a k with h1 | h1
 .have hs : B.take k = B.take (k - a) ++ (B.drop (k - a)).take a := by
   rw [<- List.take_add]; congr 1; omega
  have m1 : min a k = a := by omega
  have hT : (B.take k).drop (k - a) = (B.drop (k - a)).take a := by
   rw [List.drop_take, show k - (k - a) = a from by omega]
  rw [m1, aMR, Nat.pow_zero, aMy, hT]
  obtain ⟨j, hj⟩ : ∃ j, j = min b (k - a) := ⟨_, rfl⟩
  have m2 : min (a + b) k = a + j := by omega
  rw [m2, <- hj]
  have hD : (B.take k).drop (k - (a + j)) = (B.take (k - a)).drop (k - a - j) ++ (B.drop (k - a)).take a := by
   rw [hs, List.drop_append_of_le_length (by rw [l2]; omega), show k - (a + j) = k - a - j from by omega]
  rw [hD, Wu, aLs, l2, show k - a - (k - a - j) = j from by omega, show a + b - (a + j) = b - j from by omega, aL0]
  rw [Nat.add_comm]
  congr 1
  rw [aNk, aLJ (wM _) (2 ^ (b - j)), <- aNk, <- aL7, aLJ, show j + (b - j) = b from by omega]
 .have m1 : min a k = k := by omega
  have m2 : min (a + b) k = k := by omega
  have m3 : min b (k - a) = 0 := by omega
  rw [m1, m2, m3, aMR, show k - a = 0 from by omega]
  simp only [aLi, aLf, Nat.sub_zero, List.drop_nil, wM, aNB, aMi]
  rw [aNk, <- aL7, show a - k + b = a + b - k from by omega]
theorem aB3 {B : List Bool} {left : Int} {a m : Nat} (h : left <= B.length) (ha : a <= m) : LW B left m / 2 ^ (m - a) = LW B left a /\ LW B left m % 2 ^ (m - a) = LW B (left - a) (m - a) := by
 obtain ⟨b, rfl⟩ := Nat.exists_eq_add_of_le ha
 rw [Nat.add_sub_cancel_left, aBc a b h]
 have hlt := Ke B (left - a) b
 constructor
 .rw [aLJ, Nat.mul_add_div (aLC b), aNz hlt, aMi]
 .rw [aLJ, Nat.mul_add_mod, aLP hlt]
def Tk (C : List (Nat × Nat)) : List Nat -> List Bool
 | [] => []
 | s :: r => Tk C r ++ yW (C.getD s (0, 0)).2 (C.getD s (0, 0)).1
theorem tF {C : List (Nat × Nat)} {m : Nat} (h : ∀ s, bitsOf C s <= m) : ∀ l : List Nat, (Tk C l).length <= m * l.length
 | [] => by simp [Tk]
 | s :: r => by
   rw [Tk, aLh, G0, aLw, aNm]
   have := h s
   have := tF h r
   unfold bitsOf at *
   omega
theorem aFa {C : List (Nat × Nat)} {m : Nat} {T : List Bool} (hF : YD C m) : ∀ {l : List Nat}, (∀ s ∈ l, 0 < bitsOf C s) -> T.take (Tk C l).length = Tk C l -> Ce C m T l.length ((Tk C l).length : Nat) = (l, 0)
 | [], _, _ => rfl
 | s :: r, hb, hT => by
   have h0 := hb s (aML ..)
   have hg : C[s]? = some ((C.getD s (0, 0)).1, (C.getD s (0, 0)).2) := by
    rw [aLl]
    cases h : C[s]? with
    | none => unfold bitsOf at h0; rw [aLl, h] at h0; simp at h0
    | some e => rfl
   obtain ⟨hle, hfit⟩ := hF.le _ _ _ hg
   have hfit := hfit h0
   obtain ⟨r1, r2, r3⟩ := aJB (B := []) hT rfl hfit
   have hTl : ((Tk C (s :: r)).length : Int) <= T.length := by
    have := congrArg List.length hT
    rw [aLn] at this
    omega
   have hd := (aB3 (a := (C.getD s (0, 0)).1) (m := m) hTl hle).1
   rw [aLw, Ce]
   have hlen : (Tk C (s :: r)).length = (Tk C r ++ yW (C.getD s (0, 0)).2 (C.getD s (0, 0)).1).length := rfl
   rw [hlen] at hd ⊢
   rw [r1] at hd
   have hs : EF C m (LW T (((Tk C r ++ yW (C.getD s (0, 0)).2 (C.getD s (0, 0)).1).length : Nat) : Int) m) = s :=
    axJ hF (Ke _ _ _) (OM.2 ⟨_, _, hg, h0, hd⟩)
   simp only [hs, bitsOf, r2]
   rw [aFa hF (fun x hx => hb x (aLx _ hx)) r3]
def fc : List (Nat × Nat) -> List aNF
 | [] => []
 | e :: r => .int .u8 (e.1 : Nat) :: .int .i64 (e.2 : Nat) :: fc r
theorem apM : ∀ L : List (Nat × Nat), (fc L).length = 2 * L.length
 | [] => rfl
 | e :: r => by rw [fc, aLw, aLw, apM r, aLw]; omega
theorem aE2 : ∀ n : Nat, FL n [Value.int .u8 0, Value.int .i64 0] = fc (List.replicate n (0, 0))
 | 0 => rfl
 | n + 1 => by
   have := aE2 n
   unfold FL at *
   rw [aLT, aM0, this, aLT, fc] <;> rfl
theorem aFq : ∀ {L : List (Nat × Nat)} {i : Nat} {e : Nat × Nat}, L[i]? = some e -> ((fc L).drop (i * 2)).take 2 = [.int .u8 (e.1 : Nat), .int .i64 (e.2 : Nat)]
 | [], i, e, h => by simp at h
 | e' :: r, 0, e, h => by cases h; rfl
 | e' :: r, i + 1, e, h => by
   have := aFq (L := r) (i := i) (e := e) (by simpa using h)
   rw [fc, show (i + 1) * 2 = i * 2 + 1 + 1 from by omega, aMs, aMs]
   exact this
theorem aH7 : ∀ {L : List (Nat × Nat)} {i : Nat} (e : Nat × Nat), i < L.length -> ((fc L).set (i * 2) (.int .u8 (e.1 : Nat))).set (i * 2 + 1) (.int .i64 (e.2 : Nat)) = fc (L.set i e)
 | [], i, e, h => by simp at h
 | x :: r, 0, e, h => rfl
 | x :: r, i + 1, e, h => by
   have := aH7 (L := r) (i := i) e (by simpa using h)
   rw [fc, show (i + 1) * 2 = i * 2 + 1 + 1 from by omega, aLc, aLc, aLc, aLc, this, aLc, fc]
def aCB (C : List (Nat × Nat)) (m s x : Nat) : Nat × Nat := match (List.range s).find? (G6 C m x) with
 | some t => (t, bitsOf C t)
 | none => (0, 0)
def YW (C : List (Nat × Nat)) (m s : Nat) : List (Nat × Nat) := (List.range (2 ^ m)).map (aCB C m s)
def axK (C : List (Nat × Nat)) (m s low j : Nat) : List (Nat × Nat) := (List.range (2 ^ m)).map fun x => if low <= x /\ x < low + j then (s, bitsOf C s) else aCB C m s x
theorem aCk (C : List (Nat × Nat)) (m s : Nat) : (YW C m s).length = 2 ^ m := by simp [YW]
theorem arV (C : List (Nat × Nat)) (m s low j : Nat) : (axK C m s low j).length = 2 ^ m := by simp [axK]
theorem aHJ {C : List (Nat × Nat)} {m s x : Nat} (h : x < 2 ^ m) : (YW C m s)[x]? = some (aCB C m s x) := by
 unfold YW; rw [aLD, aMb h] <;> rfl
theorem aFN (C : List (Nat × Nat)) (m : Nat) : YW C m 0 = List.replicate (2 ^ m) (0, 0) := by
 unfold YW
 apply aMk
 intro x
 rcases aLv x (2 ^ m) with h | h
 .rw [aLD, aMb h, aMz, if_pos h] <;> rfl
 .rw [aLo (by simpa using h), aLo (by simpa using h)]
theorem aAA (C : List (Nat × Nat)) (m s x : Nat) : aCB C m (s + 1) x = match (List.range s).find? (G6 C m x) with
 | some t => (t, bitsOf C t)
 | none => if G6 C m x s = true then (s, bitsOf C s) else (0, 0) := by
 unfold aCB
 rw [aNo, List.find?_append]
 cases (List.range s).find? (G6 C m x) with
 | some t => rfl
 | none =>
   cases h : G6 C m x s with
   | true => simp [List.find?, h]
   | false => simp [List.find?, h]
theorem aFB {C : List (Nat × Nat)} {m s c : Nat} (h : C[s]? = some (0, c)) : YW C m (s + 1) = YW C m s := by
 unfold YW
 apply aLN
 intro x _
 rw [aAA]
 have hh : G6 C m x s = false := by
  unfold G6; rw [h] <;> rfl
 unfold aCB
 cases (List.range s).find? (G6 C m x) with
 | some t => rfl
 | none => rw [hh] <;> rfl
theorem aFu (C : List (Nat × Nat)) (m s low : Nat) : axK C m s low 0 = YW C m s := by
 unfold axK YW
 apply aLN
 intro x _
 rw [if_neg (by omega)]
theorem aGK {C : List (Nat × Nat)} {m s low j : Nat} (h : low + j < 2 ^ m) : (axK C m s low j).set (low + j) (s, bitsOf C s) = axK C m s low (j + 1) := by
 apply aMk
 intro x
 rw [List.getElem?_set]
 unfold axK
 rcases aLv x (2 ^ m) with hx | hx
 .by_cases he : low + j = x
  .rw [if_pos he, if_pos (by simp; omega), aLD, aMb hx]
   simp only [aLZ]
   rw [if_pos (by omega)]
  .rw [if_neg he, aLD, aMb hx, aLD, aMb hx]
   simp only [aLZ]
   congr 1
   by_cases hc : low <= x /\ x < low + j
   .rw [if_pos hc, if_pos (by omega)]
   .rw [if_neg hc, if_neg (by omega)]
 .rw [if_neg (by omega), aLo (by simpa using hx), aLo (by simpa using hx)]
theorem aAP {C : List (Nat × Nat)} {m s b c x : Nat} (h : C[s]? = some (b, c)) (hb : 0 < b) : G6 C m x s = true ↔ c * 2 ^ (m - b) <= x /\ x < c * 2 ^ (m - b) + 2 ^ (m - b) := by
 rw [OM]
 have hp := aLC (m - b)
 constructor
 .rintro ⟨b', c', h1, h2, h3⟩
  rw [h] at h1
  cases h1
  rw [Nat.div_eq_iff hp] at h3
  rw [aLJ] at h3
  rw [aLJ]
  omega
 .rintro ⟨h1, h2⟩
  refine ⟨b, c, h, hb, ?_⟩
  rw [Nat.div_eq_iff hp, aLJ]
  rw [aLJ] at h1 h2
  omega
theorem aJW {C : List (Nat × Nat)} {m s b c : Nat} (hF : YD C m) (h : C[s]? = some (b, c)) (hb : 0 < b) : c * 2 ^ (m - b) + 2 ^ (m - b) <= 2 ^ m := by
 obtain ⟨h1, h2⟩ := hF.le s b c h
 have h2 := h2 hb
 have : (c + 1) * 2 ^ (m - b) <= 2 ^ b * 2 ^ (m - b) := aLG _ h2
 rw [<- aL7, show b + (m - b) = m from by omega, Nat.succ_mul] at this
 exact this
theorem aHf {C : List (Nat × Nat)} {m s b c : Nat} (hF : YD C m) (h : C[s]? = some (b, c)) (hb : 0 < b) : axK C m s (c * 2 ^ (m - b)) (2 ^ (m - b)) = YW C m (s + 1) := by
 unfold axK YW
 apply aLN
 intro x hx
 have hx := aLR.1 hx
 rw [aAA]
 by_cases hc : c * 2 ^ (m - b) <= x /\ x < c * 2 ^ (m - b) + 2 ^ (m - b)
 .rw [if_pos hc]
  have hh := (aAP h hb).2 hc
  cases hf : (List.range s).find? (G6 C m x) with
  | none => simp only [hh, if_true]
  | some t =>
    have h1 := List.find?_some hf
    have h2 := aLR.1 (List.mem_of_find?_eq_some hf)
    have := hF.un x t s hx h1 hh
    omega
 .rw [if_neg hc]
  have hh : G6 C m x s = false := by
   cases hq : G6 C m x s with
   | false => rfl
   | true => exact absurd ((aAP h hb).1 hq) hc
  unfold aCB
  cases (List.range s).find? (G6 C m x) with
  | some t => rfl
  | none => rw [hh] <;> rfl
theorem aHw {C : List (Nat × Nat)} {m x : Nat} (hF : YD C m) (hx : x < 2 ^ m) : (YW C m C.length)[x]? = some (EF C m x, bitsOf C (EF C m x)) := by
 rw [aHJ hx]
 unfold aCB EF
 cases hf : (List.range C.length).find? (G6 C m x) with
 | some t => rfl
 | none =>
   obtain ⟨s, hs⟩ := hF.ex x hx
   exact absurd hs (List.find?_eq_none.1 hf s (aLR.2 (avT hs)))
theorem aHH {C : List (Nat × Nat)} {i : Nat} {e : Nat × Nat} (h : C[i]? = some e) : pI (C.take (i + 1)) = max (pI (C.take i)) e.1 := by
 rw [aL6, h]
 exact aHF _ _
end Go.Pu
namespace Go.Proofs.YtgpimhlgaokobaaGreat
open Go Go.En Go.Pu
set_option maxRecDepth 4000
theorem alQ {a n : Nat} (hn : n <= 62) (h : a * 2 ^ n < 2 ^ 62) : IntKind.i64.wrap ((a : Int) * 2 ^ (min n IntKind.i64.bits)) = ((a * 2 ^ n : Nat) : Int) := by
 have e : IntKind.i64.bits = 64 := rfl
 rw [e, aL3 (by omega)]
 have : (a : Int) * 2 ^ n = ((a * 2 ^ n : Nat) : Int) := by push_cast; rfl
 rw [this]
 exact aP (by omega) (by omega)
theorem azS {C : List (Nat × Nat)} {i : Nat} {e : Nat × Nat} (h : C[i]? = some e) : ((cc C).drop (i * 2)).take 2 = [.int .i64 (e.1 : Nat), .int .i64 (e.2 : Nat)] := by
 obtain ⟨hi, rfl⟩ := aL5.1 h
 exact aEU hi
def HtV (w : aNE) (base : Nat) (C : List (Nat × Nat)) (v : aNF) : Prop := ∃ b, v = .agg #[.int .i64 (pI C : Nat), .slice (some ⟨b, 0, none⟩) (2 ^ pI C) (2 ^ pI C)] /\ base <= b /\ eM w b (fc (YW C (pI C) C.length))
theorem aCK {v : aNF} {l : List UInt8} {d : Nat} {w : aNE} (h : Bs w v l) (hd : gQ (bT l) = d) (hd0 : d ≠ 0) :
 aT pg Ar #[v] w (fun r w' => ∃ t, r = .tuple #[t, .int .i64 0] /\ HtV w' w.heap.size (pL (bT l) d) t /\ aW w w' eT) := by
 refine SF ?_
 obtain ⟨RR, hRR⟩ : ∃ RR : aNF -> aNE -> Prop, RR = fun r w' => ∃ t, r = .tuple #[t, .int .i64 0] /\ HtV w' w.heap.size (pL (bT l) d) t /\ aW w w' eT := ⟨_, rfl⟩
 rw [<- hRR]
 obtain ⟨hF, hmd⟩ := axR hd hd0
 have hok := vZ hd hd0
 have hd11 := hok.2.1
 have hl256 := hok.2.2.2.1
 rw [iQ] at hl256
 unfold VY Dn CZ
 refine xF fun w1 o1 x1 s1 => ?_
 refine (aBb (h.ext x1 (bZ _)) hd hd0).mono ?_
 rintro r w2 ⟨b, rfl, hb, ob, x2⟩
 have n0 : ((0 : Int) != 0) = false := rfl
 simp (disch := omega) only [aD, pT, pS, kN, aA, cY, n0, aE]
 refine xF fun w3 o3 x3 s3 => ?_
 refine vH o3 rfl (by simp [one]) (by simp) fun w4 o4 x4 s4 => ?_
 simp only [bM, aLd, aLc] at o4
 generalize hC : pL (bT l) d = C at *
 have hCl : C.length = l.length := by rw [<- hC, sS, iQ]
 obtain ⟨p6, hp6⟩ : ∃ p, p = w2.heap.size := ⟨_, rfl⟩
 obtain ⟨p2, hp2⟩ : ∃ p, p = w.heap.size := ⟨_, rfl⟩
 rw [<- hp6] at o4 ⊢
 rw [<- hp2] at o1 ⊢
 have x24 : aW w2 w4 eT := x3.new x4 (aLm _)
 have x04 := (x1.seq x2).seq x24
 have z1 := x1.size
 have z2 := x2.size
 have z24 := x24.size
 have lb := ob.lt
 have ob4 := ob.ext x24 (fun h => h)
 have o14 := o1.ext (x2.seq x24) (fun h => h)
 have l1 := o1.lt
 unfold JW Lj Lu
 simp (disch := omega) only [aD, fG, aA]
 unfold Kq JX
 have hcl : ∀ {w' : aNE} {i : Nat} {e : Nat × Nat}, aW w4 w' (fun y => y = p6) -> C[i]? = some e -> (aL 171 (.pointer (some ⟨b, i * 2, none⟩))).run pg w' = .ok (.value (.agg #[.int .i64 (e.1 : Nat), .int .i64 (e.2 : Nat)])) w' := fun {w' i e} x hi => by
  have hlt := (aL5.1 hi).1
  have := SO (off := i * 2) (ob4.ext x (by omega)) (by rw [Ev]; omega)
  rw [azS hi] at this
  exact this
 refine cS.rule (fun m (t : aNF) w' => ∃ i : Nat, m = l.length - i /\ t = .int .i64 i /\ i <= l.length /\ eM w' p6 [.int .i64 (pI (C.take i) : Nat), .slice none 0 0] /\ aW w4 w' (fun y => y = p6)) l.length
  ⟨0, rfl, rfl, by omega, o4, aW.refl _ _⟩ ?_
 rintro m t w5 ⟨i, rfl, rfl, hi, o5, x5⟩
 have z5 := x5.size
 unfold Dl
 by_cases hlt : i < l.length
 .have d1 : decide ((i : Int) < (l.length : Int)) = true := by simp; omega
  obtain ⟨e, he⟩ : ∃ e, C[i]? = some e := ⟨_, aLg (by omega)⟩
  have q1 := hcl x5 he
  simp (disch := omega) only [aD, aS, d1, eN, aK9, aLa, fX, bK, aP, aA, bO, q1, aG]
  refine UO fun w6 o6 x6 s6 => ?_
  refine HD o6 rfl (by simp [one]) (by simp) fun w7 o7 x7 s7 => ?_
  simp only [bM, aLd, aLc] at o7
  have x57 : aW w5 w7 eT := x6.new x7 (aLm _)
  have o57 := o5.ext x57 (fun h => h)
  have k0 := o57.cell (off := 0)
  have k1 := o7.cell (off := 0)
  simp only [aK7, aK8] at k0 k1
  have hmx : (if ((e.1 : Nat) : Int) > ((pI (C.take i) : Nat) : Int) then ((e.1 : Nat) : Int) else ((pI (C.take i) : Nat) : Int)) = ((pI (C.take (i + 1)) : Nat) : Int) := by rw [aHH he]; split <;> omega
  have e1 : (i : Int) + 1 = ((i + 1 : Nat) : Int) := by omega
  simp (disch := omega) only [k0, aH, dD, e1, aA, bO, k1, Bc, hmx]
  refine pD o57 rfl (by simp) fun w8 o8 x8 s8 => ?_
  simp only [aLd, aLc] at o8
  try simp (disch := omega) only [true_and]
  exact ⟨l.length - (i + 1), by omega, i + 1, rfl, rfl, by omega, o8, (x5.more x57).seq x8⟩
 .have d1 : decide ((i : Int) < (l.length : Int)) = false := by simp; omega
  obtain rfl : i = l.length := by omega
  rw [<- hCl, aMU] at o5
  unfold Lo JO
  have k0 := o5.cell (off := 0)
  simp only [aK7, aK8] at k0
  have hm11 : pI C <= 11 := by omega
  have hp11 : 2 ^ pI C <= 2 ^ 11 := aLj (by omega) hm11
  have hsh := alQ (a := 1) (n := pI C) (by omega) (by omega)
  rw [aNl] at hsh
  have one1 : ((1 : Nat) : Int) = 1 := rfl
  rw [one1] at hsh
  simp (disch := omega) only [aD, aS, d1, fX, bK, aP, aA, bO, fI, aLa, k0, aH, pE, aK9, hsh, aE]
  have hN : (16 : Int) * ((2 ^ pI C : Nat) : Int) <= 2 ^ 48 := by generalize 2 ^ pI C = N at *; omega
  refine ajL (Int.natCast_nonneg _) hN fun w6 o6 x6 s6 => ?_
  rw [aK9] at o6 ⊢
  rw [aE2, <- aFN C] at o6
  have z6 := x6.size
  obtain ⟨pt, hpt⟩ : ∃ p, p = w5.heap.size := ⟨_, rfl⟩
  rw [<- hpt] at o6 ⊢
  refine aqY (o5.ext x6 (fun h => h)) rfl (by simp) fun w7 o7 x7 s7 => ?_
  simp only [aLd, aLc] at o7
  have l6 := o6.lt
  have l5 := o5.lt
  have o67 := o6.ext x7 (by omega)
  have x47 : aW w4 w7 (fun y => y = p6) := (x5.more x6).seq x7
  unfold KR LK Kr
  simp (disch := omega) only [aD, fG, aA]
  unfold JP JK
  refine cS.rule (fun m (t : aNF) w' => ∃ i : Nat, m = l.length - i /\ t = .int .i64 i /\ i <= l.length /\ eM w' pt (fc (YW C (pI C) i)) /\ aW w7 w' (fun y => y = pt)) l.length
   ⟨0, rfl, rfl, by omega, o67, aW.refl _ _⟩ ?_
  rintro m t w8 ⟨i, rfl, rfl, hi8, o8, x8⟩
  have z8 := x8.size
  unfold Df Kg
  by_cases hlt : i < l.length
  .have d2 : decide ((i : Int) < (l.length : Int)) = true := by simp; omega
   obtain ⟨e, he⟩ : ∃ e, C[i]? = some e := ⟨_, aLg (by omega)⟩
   have q1 : (aL 171 (.pointer (some ⟨b, i * 2, none⟩))).run pg w8 = .ok (.value (.agg #[.int .i64 (e.1 : Nat), .int .i64 (e.2 : Nat)])) w8 := by
    have := SO (off := i * 2) ((ob4.ext x47 (by omega)).ext x8 (by omega)) (by rw [Ev]; omega)
    rw [azS he] at this
    exact this
   simp (disch := omega) only [aD, aS, d2, aA, aG]
   unfold Pc Nm Xq OS
   simp (disch := omega) only [aD, eN, aK9, aLa, fX, aA, bO, q1]
   refine UO fun w9 o9 x9 s9 => ?_
   refine HD o9 rfl (by simp [one]) (by simp) fun wa oa xa sa => ?_
   simp only [bM, aLd, aLc] at oa
   have x8a : aW w8 wa eT := x9.new xa (aLm _)
   have z8a := x8a.size
   have k1 := oa.cell (off := 0)
   have k2 := oa.cell (off := 1)
   have k3 := ((o7.ext x8 (by omega)).ext x8a (fun h => h)).cell (off := 0)
   simp only [aK7, aK8] at k1 k2 k3
   have e1 : (i : Int) + 1 = ((i + 1 : Nat) : Int) := by omega
   have o8a := o8.ext x8a (fun h => h)
   obtain ⟨eb, ec⟩ := e
   simp only at k1 k2
   by_cases hb0 : eb = 0
   .have n1 : ((eb : Int) == 0) = true := by simp; omega
    simp (disch := omega) only [dD, eZ, aLa, aA, bO, k1, aH, dQ, n1, k2, k3, fE, aP, pE, aG]
    unfold BI
    simp (disch := omega) only [aD, bK, e1, aP, aA]
    subst hb0
    exact ⟨l.length - (i + 1), by omega, i + 1, rfl, rfl, by omega, by rw [aFB he]; exact o8a, x8.more x8a⟩
   .have n1 : ((eb : Int) == 0) = false := by simp; omega
    obtain ⟨hle, hfit⟩ := hF.le _ _ _ he
    have hlow := aJW hF he (by omega)
    have hp := aLC (pI C - eb)
    have e2 : ((pI C : Nat) : Int) - (eb : Int) = ((pI C - eb : Nat) : Int) := by omega
    have e3 := alQ (a := ec) (n := pI C - eb) (by omega) (by omega)
    have e4 := alQ (a := 1) (n := pI C - eb) (by omega) (by omega)
    rw [aNl, one1] at e4
    simp (disch := omega) only [dD, eZ, aLa, aA, bO, k1, aH, dQ, n1, k2, k3, fE, e2, aP, pE, aK9, e3, e4, aE]
    unfold Pf Od
    refine cS.rule (fun m (t : aNF) w' => ∃ j : Nat, m = 2 ^ (pI C - eb) - j /\ t = .int .i64 j /\ j <= 2 ^ (pI C - eb) /\ eM w' pt (fc (axK C (pI C) i (ec * 2 ^ (pI C - eb)) j)) /\ aW wa w' (fun y => y = pt)) (2 ^ (pI C - eb))
     ⟨0, rfl, rfl, by omega, by rw [aFu]; exact o8a, aW.refl _ _⟩ ?_
    rintro m t wb ⟨j, rfl, rfl, hj, ob', xb⟩
    unfold GM
    by_cases hjt : j < 2 ^ (pI C - eb)
    .have d3 : decide ((j : Int) < ((2 ^ (pI C - eb) : Nat) : Int)) = true := decide_eq_true (Int.ofNat_lt.2 hjt)
     have f1 := (((o7.ext x8 (by omega)).ext x8a (fun h => h)).ext xb (by omega)).cell (off := 1)
     have f2 := (oa.ext xb (by omega)).cell (off := 0)
     simp only [aK7, aK8] at f1 f2
     have e5 : ((ec * 2 ^ (pI C - eb) : Nat) : Int) + (j : Int) = ((ec * 2 ^ (pI C - eb) + j : Nat) : Int) := by omega
     have e6 : IntKind.u8.wrap (i : Int) = (i : Int) := xK (by omega) (by omega)
     have e7 : (j : Int) + 1 = ((j + 1 : Nat) : Int) := by omega
     simp (disch := omega) only [aD, aS, d3, fI, aLa, bK, e5, aP, eS, e6, dD, e7, aA, bO, hJ, f1, aH, f2, jB, aK9, iV, aG]
     have hx : ec * 2 ^ (pI C - eb) + j < 2 ^ pI C := by omega
     refine Xt (off := (ec * 2 ^ (pI C - eb) + j) * 2) ob' rfl (by simp [one]) (by rw [apM, arV]; omega) fun wc oc xc sc => ?_
     simp only [bM] at oc
     have hs := aH7 (L := axK C (pI C) i (ec * 2 ^ (pI C - eb)) j) (i := ec * 2 ^ (pI C - eb) + j) (i, eb) (by rw [arV]; exact hx)
     simp only at hs
     have hbo := apR he
     have hj2 := aGK (C := C) (s := i) hx
     rw [hbo] at hj2
     rw [hs, hj2] at oc
     try simp (disch := omega) only [true_and]
     exact ⟨2 ^ (pI C - eb) - (j + 1), by omega, j + 1, rfl, rfl, by omega, oc, xb.seq xc⟩
    .have d3 : decide ((j : Int) < ((2 ^ (pI C - eb) : Nat) : Int)) = false := decide_eq_false fun h => hjt (Int.ofNat_lt.1 h)
     have hje : j = 2 ^ (pI C - eb) := by omega
     subst hje
     unfold BI
     simp (disch := omega) only [aD, aS, d3, fI, aLa, bK, aP, eS, xK, dD, aA, bO, hJ, e1, aE]
     exact ⟨l.length - (i + 1), by omega, i + 1, rfl, rfl, by omega, by rw [<- aHf hF he (by omega)]; exact ob', (x8.more x8a).seq xb⟩
  .have d2 : decide ((i : Int) < (l.length : Int)) = false := by simp; omega
   have hie : i = l.length := by omega
   subst hie
   unfold Gw
   have o78 := o7.ext x8 (by omega)
   have q1 := OJ (off := 0) o78 (by simp)
   simp only [aLf, aLe, aLi] at q1
   simp (disch := omega) only [aD, aS, d2, aA, q1, aE]
   refine vH ((o14.ext x47 (by omega)).ext x8 (by omega)) rfl (by simp [one]) (by simp) fun w9 o9 x9 s9 => ?_
   refine VT o9 (by simp [bM]) ?_
   simp only [bM, aLd, aLc, aLf, aLe, aLi]
   rw [hRR]
   refine ⟨_, rfl, ⟨pt, rfl, by omega, ?_⟩, ?_⟩
   .rw [hCl]; exact o8.ext x9 (by omega)
   .exact ((x04.trans x47 fun y hy h => by omega).trans x8 fun y hy h => by omega).new x9 (by omega)
theorem aEW {w : aNE} {b i : Nat} {C : List (Nat × Nat)} {e : Nat × Nat} (o : eM w b (cc C)) (h : C[i]? = some e) :
 w.cell? ⟨b, i * 2, none⟩ = some (.int .i64 (e.1 : Nat)) /\ w.cell? ⟨b, i * 2 + 1, none⟩ = some (.int .i64 (e.2 : Nat)) := by
 have ht := azS h
 obtain ⟨hi, rfl⟩ := aL5.1 h
 have h0 := congrArg (fun l => l[0]?) ht
 have h1 := congrArg (fun l => l[1]?) ht
 simp only [List.getElem?_take, aMN, aMi, aK7, aK8] at h0 h1
 rw [o.cell, o.cell]
 exact ⟨by simpa using h0, by simpa using h1⟩
def WrC (C : List (Nat × Nat)) : Prop := C.length <= 256 /\ ∀ (s : Nat) (e : Nat × Nat), C[s]? = some e -> e.1 <= 11 /\ (0 < e.1 -> e.2 < 2 ^ 11)
def aKd (w : aNE) (base : Nat) (C : List (Nat × Nat)) (l : List UInt8) (r : aNF) : Prop :=
 ((∃ s ∈ bT l, bitsOf C s = 0) /\ r = .tuple #[.slice none 0 0, .int .i64 1]) ∨
 ((∀ s ∈ bT l, 0 < bitsOf C s) /\ ∃ v bytes, r = .tuple #[v, .int .i64 0] /\ Bs w v bytes /\ atW (Tk C (bT l) ++ [true]) bytes /\ AtI v base w.heap.size)
theorem aJe : aGA dW = #[12, 13] := by kernel_rfl
theorem aJ9 : apL pg mX = 42 := by kernel_rfl
theorem aGd {C : List (Nat × Nat)} {l : List Nat} {i s : Nat} (h : l[i]? = some s) : Tk C (l.drop i) = Tk C (l.drop (i + 1)) ++ yW (C.getD s (0, 0)).2 (C.getD s (0, 0)).1 := by
 obtain ⟨hi, rfl⟩ := aL5.1 h
 rw [aLK hi, Tk]
theorem aDB {C : List (Nat × Nat)} {l : List UInt8} {b : Nat} {v : aNF} {w : aNE} (ho : eM w b (cc C)) (hb : Bs w v l) (hC : WrC C) (hl : l.length <= 200000) :
 aT pg mX #[.slice (some ⟨b, 0, none⟩) C.length C.length, v] w (fun r w' => aKd w' w.heap.size C l r /\ aW w w' eT) := by
 refine apI ?_
 obtain ⟨RR, hRR⟩ : ∃ RR : aNF -> aNE -> Prop, RR = fun r w' => aKd w' w.heap.size C l r /\ aW w w' eT := ⟨_, rfl⟩
 rw [<- hRR]
 unfold asX Ob NK
 refine nO fun w1 o1 x1 s1 => ?_
 simp only [Value.cells] at o1
 refine aCh fun w2 o2 x2 s2 => ?_
 refine aBL fun w3 o3 x3 s3 => ?_
 refine (aBy w3).mono ?_
 rintro r w4 ⟨rfl, s4, hW4, x4⟩
 refine aqQ fun w5 o5 x5 s5 => ?_
 refine aqJ o5 rfl (by simp) fun w6 o6 x6 s6 => ?_
 simp only [aLd] at o6
 unfold Nc M7 NL
 refine P3 ?_
 unfold Jv xV
 obtain ⟨va, vn, vc, hv, -⟩ := id hb
 subst hv
 refine nO fun w7 o7 x7 s7 => ?_
 simp only [Value.cells] at o7
 have q1 := fun w => aJI (P := pg) (f := oX) [] [.pointer (some ⟨w6.heap.size, 0, none⟩)] w
 simp (disch := omega) only [aD, q1, aA]
 unfold OL Pg
 intro g g2 g4 g5 g6 g11 gm
 generalize hn0 : w.heap.size = n0 at *
 have e1 : w1.heap.size = n0 + 1 := by omega
 have e2 : w2.heap.size = n0 + 2 := by omega
 have e3 : w3.heap.size = n0 + 3 := by omega
 have e4 : w4.heap.size = n0 + 4 := by omega
 have e6 : w6.heap.size = n0 + 5 := by omega
 have e7 : w7.heap.size = n0 + 6 := by omega
 rw [e1] at o2 g4
 rw [e2] at o3 g5
 rw [e3] at hW4 o6
 rw [e4] at o6 g6
 rw [e6] at o7 g11
 have x06 : aW w w6 eT := ((((x1.seq x2).seq x3).seq x4).seq x5).trans x6 fun y hy h => by omega
 have x07 : aW w w7 eT := x06.seq x7
 have hv7 : Bs w7 (.slice va vn vc) l := hb.ext x07 (bZ _)
 have lb := ho.lt
 have b1 : eM w7 n0 [.slice (some ⟨b, 0, none⟩) C.length C.length] := ((((((o1.ext x2 (fun h => h)).ext x3 (fun h => h)).ext x4 (fun h => h)).ext x5 (fun h => h)).ext x6 (by omega))).ext x7 (fun h => h)
 have b2 : eM w7 (n0 + 1) [.slice none 0 0] := (((((o2.ext x3 (fun h => h)).ext x4 (fun h => h)).ext x5 (fun h => h)).ext x6 (by omega))).ext x7 (fun h => h)
 have b3 : eM w7 (n0 + 2) [.int .i64 0] := ((((o3.ext x4 (fun h => h)).ext x5 (fun h => h)).ext x6 (by omega))).ext x7 (fun h => h)
 have b6 : eM w7 (n0 + 4) [.pointer (some ⟨n0 + 3, 0, none⟩)] := o6.ext x7 (fun h => h)
 have bC : eM w7 b (cc C) := ho.ext x07 (fun h => h)
 have hW7 : Ws w7 (fun y => n0 + 7 < y) (n0 + 3) [] :=
  ((hW4.ext x5 (fun h => h) (fun _ h => h.elim)).ext x6 (by omega) (fun _ h => h.elim)).ext x7 (fun h => h) (fun _ h => h.elim) |>.turn (by omega) (fun _ h => h.elim)
 refine aHV (fi := oX) (cap := #[.pointer (some ⟨n0 + 5, 0, none⟩)]) (by show noMark (g 1000003) = true; rw [gm] <;> rfl) g11 Tryz.func105 (by kernel_rfl) (by kernel_rfl) ?_
 obtain ⟨x8, s8, d8, l8⟩ := aF6 mX (apL pg mX) (aGA dW) (aFC dW) (aD5 dW) g w7
 rw [e7] at s8 d8 l8 ⊢
 generalize rfW mX (apL pg mX) (aGA dW) (aFC dW) (aD5 dW) g w7 = w8 at *
 obtain ⟨r0, hr0⟩ : ∃ r0 : Loop, r0 = { state := .ready, pending := none, fn := mX, tmps := tmpsOf (apL pg mX) g, params := aGA dW, assign := aFC dW, body := aD5 dW, defers := n0 + 6 } := ⟨_, rfl⟩
 rw [<- hr0] at l8
 let I : Nat -> aNE -> Prop := fun i W => W.heap[n0 + 7]? = some (.loop r0) /\ aW w8 W (fun y => y = n0 + 7 ∨ y = n0 + 3 ∨ n0 + 7 < y) /\ Ws W (fun y => n0 + 7 < y) (n0 + 3) (Tk C ((bT l).drop i)) /\ ∀ s ∈ (bT l).drop i, 0 < bitsOf C s
 let S : aNE -> Prop := fun W => (∃ s ∈ bT l, bitsOf C s = 0) /\ W.heap[n0 + 7]? = some (.loop { r0 with state := .done, pending := some .ret }) /\ eM W (n0 + 1) [.slice none 0 0] /\ eM W (n0 + 2) [.int .i64 1] /\ aW w W eT /\ W.heap[n0 + 6]? = some (.deferred (some []))
 have hbits : ∀ s, bitsOf C s <= 11 := fun s => by
  unfold bitsOf
  rw [aLl]
  cases h : C[s]? with
  | none => simp
  | some e => exact (hC.2 s e h).1
 have x08 : aW w w8 eT := x07.seq x8
 have hmain := aDZ (l := l) (v := .slice va vn vc) (box := n0 + 5) (lp := n0 + 7) (r0 := r0) (w := w8) I S ?hI ?hp (by omega) ?h0 ?hs
 case hI =>
  rintro i W ⟨hlp, hx, _⟩
  exact ⟨(o7.ext x8 (fun h => h)).ext hx (by omega), hb.ext (x08.trans hx fun y hy h => by omega) (bZ _), hlp⟩
 case hp => rw [hr0, aJe] <;> rfl
 case h0 =>
  refine ⟨l8, aW.refl _ _, ?_, ?_⟩
  .rw [aNy (by rw [iQ]; omega)]; exact hW7.ext x8 (fun h => h) (fun _ _ h => h)
  .rw [aNy (by rw [iQ]; omega)]; intro s hs; cases hs
 case hs =>
  rintro i W hi ⟨hlp, hx, hW, hall⟩
  have zW := hx.size
  have y08 : aW w W eT := x08.trans hx fun y hy h => by omega
  have hT : awL r0 [.int .i64 i, .int .u8 ((l[i]'hi).toNat : Nat)] = ((tmpsOf 42 g).setIfInBounds 12 (.int .i64 i)).setIfInBounds 13 (.int .u8 ((l[i]'hi).toNat : Nat)) := by
   exact aIq (by rw [hr0]; exact aJe) (by rw [hr0]; simp only; rw [aJ9]) _ _
  have hE : ∀ {x : Nat} {u v z : aNF}, x < 12 -> g x = u -> Vi (((tmpsOf 42 g).setIfInBounds 12 v).setIfInBounds 13 z) x = u := fun {x u v z} h1 h2 => by
   rw [awT (by simp [tmpsOf]), if_neg (by omega), awT (by simp [tmpsOf]), if_neg (by omega), aFA (by omega), h2]
  have hE13 : ∀ {v z : aNF}, Vi (((tmpsOf 42 g).setIfInBounds 12 v).setIfInBounds 13 z) 13 = z := fun {v z} => by
   rw [awT (by simp [tmpsOf]), if_pos rfl]
  rw [hT]
  have a0 := (b1.ext x8 (fun h => h)).ext hx (by omega)
  have a1 := (b2.ext x8 (fun h => h)).ext hx (by omega)
  have a2 := (b3.ext x8 (fun h => h)).ext hx (by omega)
  have a6 := (b6.ext x8 (fun h => h)).ext hx (by omega)
  have aC := (bC.ext x8 (fun h => h)).ext hx (by omega)
  have ad := HQ d8 hx (by omega)
  have hlt : n0 + 7 < W.heap.size := by omega
  subst hr0
  refine alH (by simp [tmpsOf]) ?_
  rw [hE (by omega) g2, hE (by omega) g4, hE (by omega) g5, hE (by omega) g6, hE13]
  unfold UK FN
  refine aFG hlp rfl fun W1 l1 y1 z1 => ?_
  have a0 := a0.ext y1 (by omega)
  have a1 := a1.ext y1 (by omega)
  have a2 := a2.ext y1 (by omega)
  have a6 := a6.ext y1 (by omega)
  have aC := aC.ext y1 (by omega)
  have ad := HQ ad y1 (by omega)
  have hW := hW.ext y1 (by omega) (fun _ h => by omega)
  have y01 : aW w W1 eT := y08.trans y1 fun y hy h => by omega
  have hs256 : (l[i]'hi).toNat < 256 := aLO _
  have hget : (bT l)[i]? = some (l[i]'hi).toNat := by unfold bT; rw [aLD, aLg hi] <;> rfl
  have hmem : (l[i]'hi).toNat ∈ bT l := aMg hget
  have hdr := aGd (C := C) hget
  have hcons : (bT l).drop i = (l[i]'hi).toNat :: (bT l).drop (i + 1) := by
   obtain ⟨hj, e⟩ := aL5.1 hget
   rw [aLK hj, e]
  generalize (l[i]'hi).toNat = s at *
  have c0 := a0.cell (off := 0)
  simp only [aK7] at c0
  have hbad : bitsOf C s = 0 -> ∀ W2, aW W1 W2 (fun y => y = n0 + 1 ∨ y = n0 + 2) -> eM W2 (n0 + 1) [.slice none 0 0] -> eM W2 (n0 + 2) [.int .i64 1] -> aDw (n0 + 7) (some .ret) (fun b W' => (b = .bool true /\ I i W') ∨ (b = .bool false /\ S W')) W2 := by
   intro h0 W2 y2 k1 k2
   refine awS (HQ l1 y2 (by omega)) fun W3 l3 y3 z3 => .inr ⟨rfl, ⟨s, hmem, h0⟩, l3, k1.ext y3 (by omega), k2.ext y3 (by omega), ?_, ?_⟩
   .exact (y01.trans y2 fun y hy h => by omega).trans y3 fun y hy h => by omega
   .exact HQ (HQ ad y2 (by omega)) y3 (by omega)
  unfold A9
  by_cases hge : C.length <= s
  .have d1 : decide ((C.length : Int) <= (s : Int)) = true := by simp; omega
   simp (disch := omega) only [aD, dF, aP, gL, hZ, true_and, aA, c0, aH, fG, nF, d1, jM, bE, if_true, aG, cK]
   refine yZ a1 rfl (by simp) fun W2 k1 y2 z2 => ?_
   refine GA (a2.ext y2 (by omega)) rfl (by simp) fun W3 k2 y3 z3 => ?_
   simp only [aLd] at k1 k2
   refine hbad ?_ W3 ((y2.mono fun _ _ h => .inl h).seq (y3.mono fun _ _ h => .inr h)) (k1.ext y3 (by omega)) k2
   unfold bitsOf; rw [aLl, aLo hge] <;> rfl
  .have d1 : decide ((C.length : Int) <= (s : Int)) = false := by simp; omega
   obtain ⟨e, he⟩ : ∃ e, C[s]? = some e := ⟨_, aLg (by omega)⟩
   obtain ⟨p0, p1⟩ := aEW aC he
   obtain ⟨hc1, hc2⟩ := hC.2 s e he
   have hbo := apR (b := e.1) (c := e.2) he
   by_cases h0 : e.1 = 0
   .have n1 : (((e.1 : Nat) : Int) == 0) = true := by simp; omega
    simp (disch := omega) only [aD, dF, aP, gL, hZ, true_and, aA, c0, aH, fG, nF, d1, dI, bE, aLb, if_false, bJ, eN, aK9, aLa, dD, bO, p0, dQ, n1, aG]
    refine yZ a1 rfl (by simp) fun W2 k1 y2 z2 => ?_
    refine GA (a2.ext y2 (by omega)) rfl (by simp) fun W3 k2 y3 z3 => ?_
    simp only [aLd] at k1 k2
    exact hbad (by rw [hbo]; exact h0) W3 ((y2.mono fun _ _ h => .inl h).seq (y3.mono fun _ _ h => .inr h)) (k1.ext y3 (by omega)) k2
   .have n1 : (((e.1 : Nat) : Int) == 0) = false := by simp; omega
    have hc2 := hc2 (by omega)
    have c0d := (kA a0).cell (off := 0)
    have c6d := (kA a6).cell (off := 0)
    simp only [aK7] at c0d c6d
    obtain ⟨p0d, p1d⟩ := aEW (kA aC) he
    simp (disch := omega) only [aD, dF, aP, gL, hZ, true_and, aA, c0, aH, fG, nF, d1, dI, bE, aLb, if_false, bJ, eN, aK9, aLa, dD, bO, p0, dQ, n1, c6d, c0d, p0d, eZ, p1d, fS, kS, aE]
    have hlen := tF hbits ((bT l).drop (i + 1))
    rw [aLs, iQ] at hlen
    refine (aGZ (x := e.2) (n := e.1) (hW.ext (aW.dr W1 eT) (fun h => h) (fun _ _ h => h)) (fun y hy => by have : (dr W1).heap.size = W1.heap.size := rfl; omega) (by omega) (by omega) (by omega)).mono ?_
    rintro r W2 ⟨rfl, hW2, y2⟩
    have y12 : aW W1 W2 (fun y => y = n0 + 3 ∨ n0 + 7 < y) := (aW.dr W1 _).seq y2
    refine awS (HQ l1 y12 (by omega)) fun W3 l3 y3 z3 => .inl ⟨rfl, l3, ?_, ?_, ?_⟩
    .refine ((hx.trans y1 fun y _ h => by omega).trans y12 fun y _ h => by omega).trans y3 fun y _ h => by omega
    .rw [hdr]
     have hg : C.getD s (0, 0) = e := by rw [aLl, he] <;> rfl
     rw [hg]
     exact hW2.ext y3 (by omega) (fun _ h => by omega)
    .rw [hcons]
     intro t ht
     rcases aL2.1 ht with rfl | ht
     .rw [hbo]; omega
     .exact hall t ht
 refine hmain.mono ?_
 rintro r w9 ⟨rfl, h⟩
 rcases h with ⟨hlp, hx, hW, hall⟩ | ⟨hbad, hlp, k1, k2, hx, hd⟩
 .have a1 := (b2.ext x8 (fun h => h)).ext hx (by omega)
  have a2 := (b3.ext x8 (fun h => h)).ext hx (by omega)
  have a6 := (b6.ext x8 (fun h => h)).ext hx (by omega)
  have ad := HQ d8 hx (by omega)
  have y09 : aW w w9 eT := x08.trans hx fun y hy h => by omega
  refine arL hlp (by rw [hr0]; simp) fun wa ya za => ?_
  rw [hr0]
  have hz : put g (some DS) (.pointer (some ⟨n0 + 6, 0, none⟩)) 4 = g 4 := rfl
  have hz5 : put g (some DS) (.pointer (some ⟨n0 + 6, 0, none⟩)) 5 = g 5 := rfl
  have hz6 : put g (some DS) (.pointer (some ⟨n0 + 6, 0, none⟩)) 6 = g 6 := rfl
  have hzm : put g (some DS) (.pointer (some ⟨n0 + 6, 0, none⟩)) 1000003 = .pointer (some ⟨n0 + 6, 0, none⟩) := rfl
  show BH RR (put g (some DS) (.pointer (some ⟨n0 + 6, 0, none⟩)) 4) (put g (some DS) (.pointer (some ⟨n0 + 6, 0, none⟩)) 5) (put g (some DS) (.pointer (some ⟨n0 + 6, 0, none⟩)) 6) (put g (some DS) (.pointer (some ⟨n0 + 6, 0, none⟩)) 1000003) wa
  rw [hz, hz5, hz6, hzm, g4, g5, g6]
  unfold BH
  have a1 := a1.ext ya (by omega)
  have a2 := a2.ext ya (by omega)
  have a6 := a6.ext ya (by omega)
  have ad := HQ ad ya (by omega)
  have hW := hW.ext ya (by omega) (fun _ h => by omega)
  have y0a : aW w wa eT := y09.trans ya fun y hy h => by omega
  have c6 := a6.cell (off := 0)
  simp only [aK7] at c6
  simp (disch := omega) only [aD, hZ, c6, aH, aA]
  have hlen := tF hbits (bT l)
  rw [iQ] at hlen
  rw [aLf] at hW hall
  refine (aH1 hW.wr (by omega)).mono ?_
  rintro r wb ⟨bytes, hbs, hheld, hat, yb⟩
  refine yZ (a1.ext yb (fun h => h)) ?_ (by simp) fun wc kc yc zc => ?_
  .obtain ⟨a, n, c, rfl, _⟩ := hbs; rfl
  refine GA ((a2.ext yb (fun h => h)).ext yc (by omega)) rfl (by simp) fun wd kd yd zd => ?_
  simp only [aLd] at kc kd
  refine axL (HQ (HQ (HQ ad yb (fun h => h)) yc (by omega)) yd (by omega)) fun we ye ze => ?_
  refine akV ((kc.ext yd (by omega)).ext ye (by omega)) rfl ?_
  refine Zn (kd.ext ye (by omega)) rfl ?_
  have y0b : aW w wb eT := y0a.seq yb
  have zb := yb.size
  have z0a := y0a.size
  have z89 := hx.size
  have zcd := yc.size
  have zdd := yd.size
  have zee := ye.size
  rw [hRR]
  refine ⟨.inr ⟨hall, _, bytes, rfl, ?_, hheld, ?_⟩, ((y0b.trans yc fun y hy h => by omega).trans yd fun y hy h => by omega).trans ye fun y hy h => by omega⟩
  .refine ((hbs.ext yc ?_).ext yd ?_).ext ye ?_ <;> exact hat _ fun y h1 h2 => by omega
  .exact fun M hM => hat M fun y h1 h2 => hM y (by omega) (by omega)
 .refine arL hlp (by simp) fun wa ya za => ?_
  show G7 (put g (some DS) (.pointer (some ⟨n0 + 6, 0, none⟩)) 1000003) wa fun w => An pg 22 (put g (some DS) (.pointer (some ⟨n0 + 6, 0, none⟩)) 4) w fun r0 => An pg 27 (put g (some DS) (.pointer (some ⟨n0 + 6, 0, none⟩)) 5) w fun r1 => RR (.tuple #[r0, r1]) w
  have hz : put g (some DS) (.pointer (some ⟨n0 + 6, 0, none⟩)) 4 = g 4 := rfl
  have hz5 : put g (some DS) (.pointer (some ⟨n0 + 6, 0, none⟩)) 5 = g 5 := rfl
  have hzm : put g (some DS) (.pointer (some ⟨n0 + 6, 0, none⟩)) 1000003 = .pointer (some ⟨n0 + 6, 0, none⟩) := rfl
  rw [hz, hz5, hzm, g4, g5]
  refine axL (HQ hd ya (by omega)) fun we ye ze => ?_
  refine akV ((k1.ext ya (by omega)).ext ye (by omega)) rfl ?_
  refine Zn ((k2.ext ya (by omega)).ext ye (by omega)) rfl ?_
  rw [hRR]
  exact ⟨.inl ⟨hbad, rfl⟩, (hx.trans ya fun y hy h => by omega).trans ye fun y hy h => by omega⟩
theorem aBt (p : Int) (w : aNE) : aT pg yD #[.int .i64 p] w (fun r w' => r = .int .i64 (iU p) /\ w' = w) := by
 refine akW ?_
 unfold iU
 by_cases h : p < 0
 .have d : decide (p < 0) = true := by simpa using h
  simp (disch := omega) only [TN, C0, aD, aS, d, aA, and_true, aG]
  rw [if_pos h]
 .have d : decide (p < 0) = false := by simpa using h
  simp (disch := omega) only [TN, C0, aD, aS, d, aA, and_true, aE]
  rw [if_neg h]
theorem Uk {ps : List Int} (h : 0 < ps.length) : (ps.getLast? = some 0) ↔ ps[ps.length - 1]'(by omega) = 0 := by
 rw [aM2, aLg (by omega)]
 simp
theorem aKc {log : Int} {sv : aNF} {ps : List Int} {w : aNE} (hs : Sl w sv (ps.map (Value.int .i64))) (hl : ps.length <= 9223372036854775807) :
 aT pg MF #[.agg #[.int .i64 log, sv]] w (fun r w' => r = .bool (Y6 log ps) /\ aW w w' eT) := by
 refine atM ?_
 unfold awI RZ Sd
 obtain ⟨a, c, rfl, hc⟩ := hs.lenI
 refine nO fun w1 o1 x1 s1 => ?_
 have hs0 := hs
 have hs := hs.ext x1 (bZ _)
 have c0 := o1.cell (off := 0)
 have c1 := o1.cell (off := 1)
 simp only [Value.cells, aK7, aK8] at c0 c1
 have no : ¬ (5 <= log /\ log <= 15 /\ 1 <= ps.length /\ ps.length <= 256 /\ ps.getLast? ≠ some 0) -> Y6 log ps = false := fun h => by
  unfold Y6 aAv; rw [decide_eq_false h] <;> rfl
 by_cases h1 : log < 5
 .have d1 : decide (log < 5) = true := by simpa using h1
  simp (disch := omega) only [aD, bW, aA, bL, aLa, bO, c0, aH, aS, d1, jM, bE, if_true, aG, cK]
  exact ⟨by rw [no (by omega)], x1⟩
 have d1 : decide (log < 5) = false := by simpa using h1
 by_cases h2 : 15 < log
 .have d2 : decide (15 < log) = true := by simpa using h2
  simp (disch := omega) only [aD, bW, aA, bL, aLa, bO, c0, aH, aS, d1, dI, bE, aLb, if_false, bJ, dE, d2, jM, if_true, aG, cK]
  exact ⟨by rw [no (by omega)], x1⟩
 have d2 : decide (15 < log) = false := by simpa using h2
 by_cases h3 : ps.length < 1
 .have d3 : decide ((ps.length : Int) < 1) = true := by simp; omega
  simp (disch := omega) only [aD, bW, aA, bL, aLa, bO, c0, aH, aS, d1, dI, bE, aLb, if_false, bJ, dE, d2, dT, c1, gB, d3, jM, if_true, aG, cK]
  exact ⟨by rw [no (by omega)], x1⟩
 have d3 : decide ((ps.length : Int) < 1) = false := by simp; omega
 by_cases h4 : 256 < ps.length
 .have d4 : decide ((256 : Int) < (ps.length : Int)) = true := by simp; omega
  simp (disch := omega) only [aD, bW, aA, bL, aLa, bO, c0, aH, aS, d1, dI, bE, aLb, if_false, bJ, dE, d2, dT, c1, gB, d3, d4, jM, if_true, aG, cK]
  exact ⟨by rw [no (by omega)], x1⟩
 have d4 : decide ((256 : Int) < (ps.length : Int)) = false := by simp; omega
 obtain ⟨b, off, c', e, hc', hcell⟩ := hs.openI (by omega)
 cases e
 have e1 : ((ps.length : Int) - 1) = ((ps.length - 1 : Nat) : Int) := by omega
 have g1 := hcell (ps.length - 1) (by omega)
 by_cases h5 : ps[ps.length - 1]'(by omega) = 0
 .have d5 : (ps[ps.length - 1]'(by omega) == 0) = true := by simpa using h5
  simp (disch := omega) only [aD, bW, aA, bL, aLa, bO, c0, aH, aS, d1, dI, bE, aLb, if_false, bJ, dE, d2, dT, c1, gB, d3, d4, fE, e1, aP, iD, aK9, g1, dQ, d5, pE, aG]
  exact ⟨by rw [no (fun h => h.2.2.2.2 ((Uk (by omega)).2 h5))], x1⟩
 have d5 : (ps[ps.length - 1]'(by omega) == 0) = false := by simpa using h5
 obtain ⟨l, rfl⟩ : ∃ l : Nat, log = l := ⟨log.toNat, by omega⟩
 have hsh : IntKind.i64.wrap (1 * 2 ^ (min l IntKind.i64.bits)) = (2 : Int) ^ l := by
  have : ∀ k : Fin 16, IntKind.i64.wrap (1 * 2 ^ (min k.val IntKind.i64.bits)) = (2 : Int) ^ k.val := by decide
  exact this ⟨l, by omega⟩
 have hyes : Y6 (l : Int) ps = fits (2 ^ l) ps := by
  unfold Y6 aAv
  rw [decide_eq_true ⟨by omega, by omega, by omega, by omega, fun h => h5 ((Uk (by omega)).1 h)⟩, aK9] <;> rfl
 simp (disch := omega) only [aD, bW, aA, bL, aLa, bO, c0, aH, aS, d1, dI, bE, aLb, if_false, bJ, dE, d2, dT, c1, gB, d3, d4, fE, e1, aP, iD, aK9, g1, dQ, d5, pE, hsh, aE]
 unfold QJ Rg Q8 QS QQ
 simp (disch := omega) only [aD, bL, aLa, aA, dT, c1, aH, gB]
 have hp15 := aCr (log := l) (by omega)
 have hp1 := aDa l
 refine cS.rule (fun m t w' => ∃ (i : Nat) (left : Int), m = ps.length - i /\ t = (.int .i64 left, .int .i64 i) /\ i <= ps.length /\ 0 <= left /\ left <= 32768 /\ fits (2 ^ l) ps = fits left (ps.drop i) /\ aW w w' eT) ps.length
  ⟨0, 2 ^ l, rfl, rfl, by omega, by omega, hp15, rfl, x1⟩ ?_
 rintro m t w2 ⟨i, left, rfl, rfl, hi, hl0, hl1, hf, x2⟩
 by_cases hlt : i < ps.length
 .have d6 : decide ((i : Int) < (ps.length : Int)) = true := by simp; omega
  have hsw := hs0.ext x2 (bZ _)
  obtain ⟨b', off', c', e, _, hcell2⟩ := hsw.openI (by omega)
  cases e
  have g2 := hcell2 i hlt
  have hd : ps.drop i = ps[i] :: ps.drop (i + 1) := aLK hlt
  rw [hd, fits] at hf
  by_cases h6 : ps[i] < -1
  .have d7 : decide (ps[i] < -1) = true := by simpa using h6
   simp (disch := omega) only [Au, aD, aS, d6, iD, aK9, bK, aP, aA, bO, g2, aH, d7, jM, bE, if_true, aG, cK]
   rw [if_pos (.inl h6)] at hf
   exact ⟨by rw [hyes, hf], x2⟩
  have d7 : decide (ps[i] < -1) = false := by simpa using h6
  simp (disch := omega) only [Au, aD, aS, d6, iD, aK9, bK, aP, aA, bO, g2, aH, d7, dI, bE, aLb, if_false, bJ, aG]
  refine (aBt _ _).mono ?_
  rintro r w3 ⟨rfl, rfl⟩
  by_cases h7 : left < iU ps[i]
  .have d8 : decide (left < iU ps[i]) = true := by simpa using h7
   simp (disch := omega) only [dE, d8, aA, aG]
   rw [if_pos (.inr h7)] at hf
   exact ⟨by rw [hyes, hf], x2⟩
  have d8 : decide (left < iU ps[i]) = false := by simpa using h7
  simp (disch := omega) only [dE, d8, aA, aE]
  refine (aBt _ _).mono ?_
  rintro r w3 ⟨rfl, rfl⟩
  rw [if_neg (by omega)] at hf
  have hpn := sT (p := ps[i]) (by omega)
  simp (disch := omega) only [fE, aP, aA]
  exact ⟨ps.length - (i + 1), by omega, i + 1, left - iU ps[i], rfl, rfl, by omega, by omega, by omega, hf, x2⟩
 .have d6 : decide ((i : Int) < (ps.length : Int)) = false := by simp; omega
  rw [aMW (by omega), fits] at hf
  unfold Au IN
  simp (disch := omega) only [aD, aS, d6, bK, aP, aA, dQ, aE]
  exact ⟨by rw [hyes, hf], x2⟩
theorem aGT {ps : List Int} {i : Nat} (hi : i < ps.length) : Fm (ps.take (i + 1)) = Fm (ps.take i) + iU ps[i] := by
 rw [aL6, aLg hi, Wp]; simp [Fm]
theorem aHY {log : Int} {sv : aNF} {ps : List Int} {w : aNE} (hs : Sl w sv (ps.map (Value.int .i64))) (hl : ps.length <= 9223372036854775807) :
 aT pg Qd #[.agg #[.int .i64 log, sv]] w (fun r w' => r = .bool (Y6 log ps) /\ aW w w' eT) := by
 refine ayA ?_
 unfold aAO RJ QK
 obtain ⟨a, c, rfl, hc⟩ := hs.lenI
 refine nO fun w1 o1 x1 s1 => ?_
 have hs0 := hs.ext x1 (bZ _)
 have c0 := o1.cell (off := 0)
 have c1 := o1.cell (off := 1)
 simp only [Value.cells, aK7, aK8] at c0 c1
 have no : ¬ (5 <= log /\ log <= 15 /\ 1 <= ps.length /\ ps.length <= 256 /\ ps.getLast? ≠ some 0) -> Y6 log ps = false := fun h => by
  unfold Y6 aAv; rw [decide_eq_false h] <;> rfl
 by_cases h1 : log < 5
 .have d1 : decide (log < 5) = true := by simpa using h1
  simp (disch := omega) only [aD, bB, aA, aN, aLa, bO, c0, aH, aS, d1, jM, bE, if_true, aG, cK]
  exact ⟨by rw [no (by omega)], x1⟩
 have d1 : decide (log < 5) = false := by simpa using h1
 by_cases h2 : 15 < log
 .have d2 : decide (15 < log) = true := by simpa using h2
  simp (disch := omega) only [aD, bB, aA, aN, aLa, bO, c0, aH, aS, d1, dI, bE, aLb, if_false, bJ, dE, d2, jM, if_true, aG, cK]
  exact ⟨by rw [no (by omega)], x1⟩
 have d2 : decide (15 < log) = false := by simpa using h2
 by_cases h3 : ps.length < 1
 .have d3 : ((ps.length : Int) == 0) = true := by rw [beq_iff_eq]; omega
  simp (disch := omega) only [aD, bB, aA, aN, aLa, bO, c0, aH, aS, d1, dI, bE, aLb, if_false, bJ, dE, d2, dT, c1, gB, dQ, d3, jM, if_true, aG, cK]
  exact ⟨by rw [no (by omega)], x1⟩
 have d3 : ((ps.length : Int) == 0) = false := by rw [beq_eq_false_iff_ne]; omega
 by_cases h4 : 256 < ps.length
 .have d4 : decide ((256 : Int) < (ps.length : Int)) = true := by simp; omega
  simp (disch := omega) only [aD, bB, aA, aN, aLa, bO, c0, aH, aS, d1, dI, bE, aLb, if_false, bJ, dE, d2, dT, c1, gB, dQ, d3, d4, jM, if_true, aG, cK]
  exact ⟨by rw [no (by omega)], x1⟩
 have d4 : decide ((256 : Int) < (ps.length : Int)) = false := by simp; omega
 obtain ⟨b, off, c', e, hc', hcell⟩ := hs0.openI (by omega)
 cases e
 have e1 : ((ps.length : Int) - 1) = ((ps.length - 1 : Nat) : Int) := by omega
 have g1 := hcell (ps.length - 1) (by omega)
 by_cases h5 : ps[ps.length - 1]'(by omega) = 0
 .have d5 : (ps[ps.length - 1]'(by omega) == 0) = true := by simpa using h5
  simp (disch := omega) only [aD, bB, aA, aN, aLa, bO, c0, aH, aS, d1, dI, bE, aLb, if_false, bJ, dE, d2, dT, c1, gB, dQ, d3, d4, fE, e1, aP, iD, aK9, g1, d5, aG]
  exact ⟨by rw [no (fun h => h.2.2.2.2 ((Uk (by omega)).2 h5))], x1⟩
 have d5 : (ps[ps.length - 1]'(by omega) == 0) = false := by simpa using h5
 obtain ⟨l, rfl⟩ : ∃ l : Nat, log = l := ⟨log.toNat, by omega⟩
 have hyes : Y6 (l : Int) ps = fits (2 ^ l) ps := by
  unfold Y6 aAv
  rw [decide_eq_true ⟨by omega, by omega, by omega, by omega, fun h => h5 ((Uk (by omega)).1 h)⟩, aK9] <;> rfl
 simp (disch := omega) only [aD, bB, aA, aN, aLa, bO, c0, aH, aS, d1, dI, bE, aLb, if_false, bJ, dE, d2, dT, c1, gB, dQ, d3, d4, fE, e1, aP, iD, aK9, g1, d5, aE]
 unfold R2 Q7 R0 QV QL
 have hp15 := aCr (log := l) (by omega)
 refine cS.rule (fun m t w' => ∃ (i : Nat), m = ps.length - i /\ t = (.int .i64 (Fm (ps.take i)), .int .i64 i) /\ i <= ps.length /\ 0 <= Fm (ps.take i) /\ Fm (ps.take i) <= 32768 * i /\ (∀ p ∈ ps.take i, -1 <= p) /\ aW w w' eT /\ aW w1 w' eT) ps.length
  ⟨0, rfl, by simp [Fm], by omega, by simp [Fm], by simp [Fm], by simp, x1, aW.refl _ _⟩ ?_
 rintro m t w2 ⟨i, rfl, rfl, hi, hs0', hs1, hlo, x2, x12⟩
 have o2 := o1.ext x12 (fun h => h)
 have c0 := o2.cell (off := 0)
 have c1 := o2.cell (off := 1)
 simp only [Value.cells, aK7, aK8] at c0 c1
 by_cases hlt : i < ps.length
 .have d6 : decide ((i : Int) < (ps.length : Int)) = true := by simp; omega
  obtain ⟨b', off', c', e, _, hcell2⟩ := (hs.ext x2 (bZ _)).openI (by omega)
  cases e
  have g2 := hcell2 i hlt
  have bad : ¬ (-1 <= ps[i] /\ ps[i] <= 32768) -> Y6 (l : Int) ps = false := fun h => by
   rw [hyes, <- Bool.not_eq_true, akR]
   rintro ⟨k1, k2⟩
   have := aFb k1 (aLW hlt)
   have := k1 _ (aLW hlt)
   unfold iU at *
   split at * <;> omega
  by_cases h6 : ps[i] < -1
  .have d7 : decide (ps[i] < -1) = true := by simpa using h6
   unfold zK B6 EP Gm Mi G5
   simp (disch := omega) only [aD, aN, aLa, aA, dT, c1, aH, gB, aS, d6, iD, aK9, bO, g2, d7, jM, bE, if_true, aG, cK]
   exact ⟨by rw [bad (by omega)], x2⟩
  have d7 : decide (ps[i] < -1) = false := by simpa using h6
  by_cases h7 : 32768 < ps[i]
  .have d8 : decide (32768 < ps[i]) = true := by simpa using h7
   unfold zK B6 EP Gm Mi G5
   simp (disch := omega) only [aD, aN, aLa, aA, dT, c1, aH, gB, aS, d6, iD, aK9, bO, g2, d7, dI, bE, aLb, if_false, bJ, dE, d8, aG]
   exact ⟨by rw [bad (by omega)], x2⟩
  have d8 : decide (32768 < ps[i]) = false := by simpa using h7
  have hts := aGT hlt
  have hlow : ∀ p ∈ ps.take (i + 1), -1 <= p := fun p hp => by
   rw [aL6, aLg hlt] at hp
   rcases aLQ.1 hp with hp | hp
   .exact hlo p hp
   .simp at hp; omega
  unfold zK B6 EP Gm Mi G5
  by_cases h8 : ps[i] < 0
  .have d9 : decide (ps[i] < 0) = true := by simpa using h8
   have e : iU ps[i] = 1 := by unfold iU; rw [if_pos h8]
   simp (disch := omega) only [aD, aN, aLa, FP, bK, aP, Fl, aA, dT, c1, aH, gB, aS, d6, iD, aK9, bO, g2, d7, d9, aG, dI, bE, aLb, if_false, bJ, dE, d8, aE]
   exact ⟨ps.length - (i + 1), by omega, i + 1, rfl, by rw [hts, e] <;> rfl, by omega, by omega, by omega, hlow, x2, x12⟩
  .have d9 : decide (ps[i] < 0) = false := by simpa using h8
   have e : iU ps[i] = ps[i] := by unfold iU; rw [if_neg h8]
   simp (disch := omega) only [aD, aN, aLa, FP, bK, aP, Fl, aA, dT, c1, aH, gB, aS, d6, iD, aK9, bO, g2, d7, d9, aE, dI, bE, aLb, if_false, bJ, dE, d8, aG]
   exact ⟨ps.length - (i + 1), by omega, i + 1, rfl, by rw [hts, e] <;> rfl, by omega, by omega, by omega, hlow, x2, x12⟩
 .have d6 : decide ((i : Int) < (ps.length : Int)) = false := by simp; omega
  unfold zK B6 Mk
  simp (disch := omega) only [aD, aN, aLa, bB, aA, bO, dT, c1, aH, gB, aS, d6, c0, aE]
  refine (IV l (by omega) _).mono ?_
  rintro r w3 ⟨rfl, rfl⟩
  rw [aLH (by omega)] at hlo ⊢
  simp (disch := omega) only [dQ, aA]
  refine ⟨?_, x2⟩
  rw [hyes]
  congr 1
  rw [Bool.eq_iff_iff, akR, beq_iff_eq]
  exact ⟨fun h => ⟨hlo, h⟩, fun h => h.2⟩
def aFs (log : Int) (ps : List Int) (most : Int) : Int := if Y6 log ps = false then 1 else if most < log then 12 else 0
theorem aIX {log most : Int} {sv : aNF} {ps : List Int} {w : aNE} (hs : Sl w sv (ps.map (Value.int .i64))) (hl : ps.length <= 9223372036854775807) :
 aT pg FG #[.agg #[.int .i64 log, sv], .int .i64 most] w (fun r w' => r = .int .i64 (aFs log ps most) /\ aW w w' eT) := by
 refine aiV ?_
 unfold afS KT
 refine nO fun w1 o1 x1 s1 => ?_
 have hs := hs.ext x1 (bZ _)
 rw [show aL 100 = aL 100 from rfl]
 have l1 := rE o1 (off := 0) (by simp [Value.cells])
 simp only [Value.cells, aLf, aLe, aLi] at l1
 simp (disch := omega) only [aD, l1, bW, aA, bO]
 refine (aKc hs hl).mono ?_
 rintro r w2 ⟨rfl, x2⟩
 have o2 := o1.ext x2 (fun h => h)
 have c0 := o2.cell (off := 0)
 simp only [Value.cells, aK7] at c0
 unfold aFs
 cases hm : Y6 log ps with
 | false =>
   simp (disch := omega) only [oP, aLE, if_true, true_and, aA, aG]
   exact x1.seq x2
 | true =>
   by_cases h : most < log
   .have d : decide (most < log) = true := by simpa using h
    simp (disch := omega) only [oP, aLu, aA, c0, aH, dE, d, aG, aE]
    exact ⟨by simp [h], x1.seq x2⟩
   .have d : decide (most < log) = false := by simpa using h
    simp (disch := omega) only [oP, aLu, aA, c0, aH, dE, d, aE]
    exact ⟨by simp [h], x1.seq x2⟩
theorem aEi {log most : Int} {sv : aNF} {ps : List Int} {w : aNE} (hs : Sl w sv (ps.map (Value.int .i64))) (hl : ps.length <= 9223372036854775807) :
 aT pg IJ #[.agg #[.int .i64 log, sv], .int .i64 most] w (fun r w' => r = .int .i64 (aFs log ps most) /\ aW w w' eT) := by
 refine aoU ?_
 unfold asH OD
 refine nO fun w1 o1 x1 s1 => ?_
 have hs := hs.ext x1 (bZ _)
 have l1 := pW o1 (off := 0) (by simp [Value.cells])
 simp only [Value.cells, aLf, aLe, aLi] at l1
 simp (disch := omega) only [aD, l1, bB, aA, bO]
 refine (aHY hs hl).mono ?_
 rintro r w2 ⟨rfl, x2⟩
 have o2 := o1.ext x2 (fun h => h)
 have c0 := o2.cell (off := 0)
 simp only [Value.cells, aK7] at c0
 unfold aFs
 cases hm : Y6 log ps with
 | false =>
   simp (disch := omega) only [oP, aLE, if_true, true_and, aA, aG]
   exact x1.seq x2
 | true =>
   by_cases h : most < log
   .have d : decide (most < log) = true := by simpa using h
    simp (disch := omega) only [oP, aLu, aA, c0, aH, dE, d, aG, aE]
    exact ⟨by simp [h], x1.seq x2⟩
   .have d : decide (most < log) = false := by simpa using h
    simp (disch := omega) only [oP, aLu, aA, c0, aH, dE, d, aE]
    exact ⟨by simp [h], x1.seq x2⟩
theorem aJE {x : Nat} (hx : x < 256) (w : aNE) : aT pg Cb #[.int .u8 x] w (fun r w' => r = .int .i64 (bl x : Nat) /\ w' = w) := by
 refine YL ?_
 have hg := aCR x hx
 have hs := XP
 have hb : bl x <= 8 := wO (n := 8) (by omega)
 unfold WS GC
 change aD pg (DX 9 (.string aCz) _) w _
 simp (disch := omega) only [aD, jD, aK9, hg, aA, dF, aP, and_true]
def Bwd (w : aNE) (lo hi : Nat) (l : List UInt8) (left : Int) : Prop := ∃ v, eM w hi [v, .int .i64 left] /\ Bs w v l /\ AtI v lo hi
theorem Bwd.ext {w w' : aNE} {lo hi : Nat} {left : Int} {l : List UInt8} {M : Nat -> Prop} (h : Bwd w lo hi l left) (hx : aW w w' M) (hM : ∀ b, lo <= b -> b <= hi -> ¬ M b) (hlh : lo <= hi) : Bwd w' lo hi l left := by
 obtain ⟨v, h1, h2, h3⟩ := h
 exact ⟨v, h1.ext hx (hM _ hlh (aLm _)), h2.ext hx (h3 M fun b hb hh => hM b hb (by omega)), h3⟩
theorem Uy {v : aNF} {l : List UInt8} {w : aNE} (h : Bs w v l) (he : Yf l = none) (hl : l.length <= 1000000) :
 aT pg sI #[v] w (fun r w' => r = .tuple #[.pointer none, .int .i64 11] /\ w' = w) := by
 refine Hg ?_
 unfold Ih xN
 rcases aMv l.length with h0 | h0
 .obtain ⟨a, n, c, rfl, hn, hc, hh⟩ := h
  rw [aLk, h0] at hn
  subst hn
  have d1 : (((0 : Nat) : Int) == 0) = true := rfl
  simp (disch := omega) only [aD, aQ, true_and, jJ, Result.ok.injEq, Next.value.injEq, and_true, aA, fE, aP, oN, dQ, d1, jM, bE, if_true, aG, cK]
 .obtain ⟨b, off, c, rfl, hc, hcell⟩ := O6 h h0
  rw [MN h0] at he
  have g := hcell (l.length - 1) (by omega)
  generalize (l[l.length - 1]'(by omega)) = x at *
  have hx0 : x.toNat = 0 := by
   rcases aMv x.toNat with h | h
   .exact h
   .rw [if_neg (by omega)] at he; cases he
  rw [hx0] at g
  have d1 : ((l.length : Int) == 0) = false := by simp; intro h; subst h; simp at h0
  have e1 : (l.length : Int) - 1 = ((l.length - 1 : Nat) : Int) := by omega
  have d2 : (((0 : Nat) : Int) == 0) = true := rfl
  simp (disch := omega) only [aD, aQ, true_and, jJ, Result.ok.injEq, Next.value.injEq, and_true, aA, fE, e1, aP, dA, aK9, gS, oN, dQ, d1, dI, bE, aLb, if_false, bJ, g, aH, d2, aG]
theorem Wa {v : aNF} {l : List UInt8} {k : Nat} {w : aNE} (h : Bs w v l) (he : Yf l = some k) (hl : l.length <= 1000000) :
 aT pg sI #[v] w (fun r w' => ∃ hi, r = .tuple #[.pointer (some ⟨hi, 0, none⟩), .int .i64 0] /\ w.heap.size <= hi /\ hi < w'.heap.size /\ Bwd w' w.heap.size hi l k /\ aW w w' eT) := by
 refine Hg ?_
 unfold Ih xN
 have h0 := (Ij he).1
 obtain ⟨b, off, c, rfl, hc, hcell⟩ := O6 h h0
 rw [MN h0] at he
 have g := hcell (l.length - 1) (by omega)
 generalize (l[l.length - 1]'(by omega)) = x at *
 have hx : x.toNat < 256 := aLO x
 have hx0 : x.toNat ≠ 0 := by
  intro h; rw [if_pos h] at he; cases he
 rw [if_neg hx0] at he
 have he := aLA he
 have hb1 := NR hx0
 have hb2 : bl x.toNat <= 8 := wO (n := 8) (by omega)
 have d1 : ((l.length : Int) == 0) = false := by simp; intro h; subst h; simp at h0
 have e1 : (l.length : Int) - 1 = ((l.length - 1 : Nat) : Int) := by omega
 have d2 : ((x.toNat : Int) == 0) = false := by simpa using hx0
 simp (disch := omega) only [aD, aQ, jJ, Result.ok.injEq, Next.value.injEq, and_true, true_and, aA, fE, e1, aP, dA, aK9, gS, oN, dQ, d1, dI, bE, aLb, if_false, bJ, g, aH, d2, aE]
 refine (IP (h.ext (aW.dr _ eT) (bZ _)) (by omega)).mono ?_
 rintro r w1 ⟨o1, x1⟩
 have x01 : aW w w1 eT := (aW.dr w eT).seq x1
 have g1 := ajE g x01 (fun h => h)
 have hat := sV.atI o1
 have hs := o1.sl
 obtain ⟨a, c', rfl⟩ := o1.len
 have gd : (dr w).cell? ⟨b, off + (l.length - 1), none⟩ = some (.int .u8 (x.toNat : Nat)) := g
 simp (disch := omega) only [g1, aH, gd, Result.ok.injEq, Next.value.injEq, and_true, aA, true_and]
 refine (aJE hx _).mono ?_
 rintro r w2 ⟨rfl, rfl⟩
 have e2 : 8 * ((l.length - 1 : Nat) : Int) + (bl x.toNat : Nat) - 1 = (k : Int) := by omega
 simp (disch := omega) only [bK, aP, aA, fE, e2, gG, true_and]
 refine nO fun w3 o3 x3 s3 => ?_
 simp only [Value.cells] at o3
 exact ⟨_, rfl, x01.size, by omega, ⟨_, o3, hs.ext x3 (bZ _), hat⟩, x01.seq x3⟩
theorem apQ {l : List UInt8} {lo hi : Nat} {left : Int} {w : aNE} (h : Bwd w lo hi l left) :
 aT pg qX #[.pointer (some ⟨hi, 0, none⟩)] w (fun r w' => r = .int .i64 left /\ w' = w) := by
 refine SU ?_
 obtain ⟨v, o, hs, hat⟩ := h
 have c1 := o.cell (off := 1)
 simp only [aK7, aK8] at c1
 unfold OX AE
 simp (disch := omega) only [aD, eY, aLt, qU, aA, dZ, aLa, bO, and_true, c1, aH, aE]
theorem amT {l : List UInt8} {lo hi n : Nat} {left : Int} {w : aNE} (h : Bwd w lo hi l left) (hlh : lo <= hi) (hn : n <= 56) (h1 : left <= 8 * l.length) (h2 : -1000000000 <= left) (hl : l.length <= 1000000) :
 aT pg qQ #[.pointer (some ⟨hi, 0, none⟩), .int .i64 n] w (fun r w' =>
  r = .int .u64 (qH ((aZ l).take left.toNat) n) /\ Bwd w' lo hi l (left - n) /\ aW w w' (fun y => y = hi)) := by
 refine Th ?_
 unfold OP AM
 by_cases hn0 : n = 0
 .subst hn0
  have d1 : decide (((0 : Nat) : Int) < 1) = true := rfl
  simp (disch := omega) only [aD, eY, aLt, qU, jJ, and_true, aA, dZ, aLa, bO, true_and, gU, eQ, dI, bE, aLb, if_false, bJ, aS, d1, jM, if_true, aG, cK]
  have h0 : qH ((aZ l).take left.toNat) 0 = 0 := by
   have := tC ((aZ l).take left.toNat) 0
   rw [Nat.pow_zero] at this; omega
  exact ⟨by rw [h0] <;> rfl, by simpa using h, aW.refl _ _⟩
 obtain ⟨v, o, hs, hat⟩ := h
 have c0 := o.cell (off := 0)
 have c1 := o.cell (off := 1)
 have od := kA o
 have c0d := od.cell (off := 0)
 have c1d := od.cell (off := 1)
 simp only [aK7, aK8] at c0 c1 c0d c1d
 have d1 : decide ((n : Int) < 1) = false := by simp; omega
 have d2 : decide ((56 : Int) < (n : Int)) = false := by simp; omega
 obtain ⟨k0, hk0⟩ : ∃ k0, k0 = left.toNat := ⟨_, rfl⟩
 obtain ⟨th, hth⟩ : ∃ th, th = min n k0 := ⟨_, rfl⟩
 have e1 : (if (0 : Int) > left then 0 else left) = (k0 : Int) := by split <;> omega
 have e2 : (if (n : Int) < (k0 : Int) then (n : Int) else (k0 : Int)) = (th : Int) := by split <;> omega
 have e3 : (k0 : Int) - (th : Int) = ((k0 - th : Nat) : Int) := by omega
 have e4 : (n : Int) - (th : Int) = ((n - th : Nat) : Int) := by omega
 rw [<- hk0]
 have hlen : ((aZ l).take k0).length = k0 := by rw [aLn, lY]; omega
 have hlast : qH ((aZ l).take k0) n = wM (((aZ l).drop (k0 - th)).take th) * 2 ^ (n - th) := by
  unfold qH
  rw [hlen, <- hth, List.drop_take, show k0 - (k0 - th) = th from by omega]
 have hlt := tC ((aZ l).take k0) n
 have hp : 2 ^ n <= 2 ^ 56 := aLj (by omega) hn
 have e5 : IntKind.u64.wrap (((wM (((aZ l).drop (k0 - th)).take th) : Nat) : Int) * 2 ^ (min (n - th) IntKind.u64.bits)) = ((qH ((aZ l).take k0) n : Nat) : Int) := by
  rw [show min (n - th) IntKind.u64.bits = n - th from aL3 (by have h64 : IntKind.u64.bits = 64 := rfl; omega), hlast]
  have e : ((wM (((aZ l).drop (k0 - th)).take th) : Nat) : Int) * 2 ^ (n - th) = ((wM (((aZ l).drop (k0 - th)).take th) * 2 ^ (n - th) : Nat) : Int) := by simp
  rw [e]
  rw [hlast] at hlt
  exact kS (by omega) (by omega)
 simp (disch := omega) only [aD, eY, aLt, qU, jJ, and_true, aA, dZ, aLa, bO, true_and, gU, eQ, dI, bE, aLb, if_false, bJ, aS, d1, dE, d2, c1, aH, Bc, e1, L3, e2, c0d, c1d, fE, e4, aP, Result.ok.injEq, Next.value.injEq, fW, kS, e3, aE]
 refine (aHA (l := l) (st := k0 - th) (n := th) (hs.ext (aW.dr _ eT) (bZ _)) (by omega) (by omega) (by omega)).mono ?_
 rintro r w1 ⟨rfl, rfl⟩
 simp (disch := omega) only [pE, aK9, e5, c1d, aH, aA, fE, aP, true_and]
 refine pD od rfl (by simp) fun w2 o2 x2 s2 => ?_
 simp only [aLd, aLc] at o2
 have x02 : aW w w2 (fun y => y = hi) := (aW.dr _ _).seq x2
 exact ⟨⟨_, o2, hs.ext x02 (hat _ fun b hb hh => by omega), hat⟩, x02⟩
end Go.Proofs.YtgpimhlgaokobaaGreat
namespace Go.En
open Go Go.RowKit
section
variable {P : Program} {w : aNE} {t e : TypeId} {k : IntKind}
theorem aFH {i : TypeInfo} {z : aNF} (hu : P.underlying t = some (.slice e)) (hi : P.info? e = some i) (h1 : i.size = 1) (hz : i.zero = some z) (hz1 : one z = true) {m n : Int} (h0 : 0 <= m) (hmn : m <= n) (hn : i.bytes * n <= 2 ^ 48) (hn2 : n <= 9223372036854775807)
 {K : aNF -> aNE -> Prop}
 (hk : ∀ w', eM w' w.heap.size (List.replicate n.toNat z) -> aW w w' eT -> w'.heap.size = w.heap.size + 1 -> K (.slice (some ⟨w.heap.size, 0, none⟩) m.toNat n.toNat) w') :
 aD P (qC t (.int k m) (.int k n)) w K := by
 have hw : IntKind.i64.wrap n = n := aP (by omega) hn2
 have hwm : IntKind.i64.wrap m = m := aP (by omega) (by omega)
 have hcells : z.cells = #[z] := anU hz1
 have harr : (Array.range n.toNat).map (fun j => (#[z] : Array aNF)[j % (#[z] : Array aNF).size]!) = (List.replicate n.toNat z).toArray := by
  apply Array.ext
  .simp
  .intro j h1 h2; simp [Nat.mod_one]
 have hz' : (zeroValue e).run P w = .ok z w := by simp [zeroValue, typeInfo, hi, hz]
 have : (qC t (.int k m) (.int k n)).run P w = .ok (.value (.slice (some ⟨w.heap.size, 0, none⟩) m.toNat n.toNat)) (w.alloc (.cells (List.replicate n.toNat z).toArray e)) := by
  unfold qC
  rw [uR]
  have t1 : (decide (n < 0) || decide ((i.bytes : Int) * n > 2 ^ 48) || decide (m < 0) || decide (m > n)) = false := by
   simp only [aM1, decide_eq_false_iff_not]; omega
  by_cases hn0 : n.toNat = 0
  .simp only [Instr.makeSlice, underlying, typeInfo, asInt, asIntOf, pure_bind, Sem.run_bind, run_program, Result.andThen_ok, hu, hi, Sem.run_pure, hw, hwm, t1, aLb, if_false, run_askRoom, kZ hi, h1, aMy, hn0, if_true, newRow, run_newObj]
   have : (Array.range 0).map (fun x => (#[] : Array aNF)[x % (#[] : Array aNF).size]!) = (List.replicate 0 z).toArray := by simp
   rw [this]
   rfl
  .simp only [Instr.makeSlice, underlying, typeInfo, asInt, asIntOf, pure_bind, Sem.run_bind, run_program, Result.andThen_ok, hu, hi, Sem.run_pure, hw, hwm, t1, aLb, if_false, run_askRoom, kZ hi, h1, aMy, hn0, hz', hcells, newRow, run_newObj, harr]
   rfl
 unfold aD
 rw [this]
 exact hk _ (eM.alloc _ _ _) (aW.alloc _ _ _) (by simp)
end
end Go.En
namespace Go.En
open Go
theorem OSS.ext {w w' : aNE} {S M : Nat -> Prop} {sz n : Nat} {v : aNF} {l : List aNF} (h : OSS w S sz v n l) (hx : aW w w' M) (hM : ∀ b, S b -> ¬ M b) : OSS w' S sz v n l := by
 refine ⟨h.1, ?_⟩
 rcases h.2 with h2 | ⟨b, c, rest, h1, h2, h3, h4, h5⟩
 .exact .inl h2
 .exact .inr ⟨b, c, rest, h1, h2, h3.ext hx (hM b h2), h4, h5⟩
theorem sV.ne {w : aNE} {base p sz n : Nat} {v : aNF} {l : List aNF} (h : sV w base sz v n l) (hp : w.heap.size <= p) : OSS w (fun b => base <= b /\ b ≠ p) sz v n l := by
 refine ⟨h.1, ?_⟩
 rcases h.2 with h2 | ⟨b, c, rest, h1, h2, h3, h4, h5⟩
 .exact .inl h2
 .have := h3.lt
  exact .inr ⟨b, c, rest, h1, ⟨h2, by omega⟩, h3, h4, h5⟩
theorem OSS.osl {w : aNE} {base p sz n : Nat} {v : aNF} {l : List aNF} (h : OSS w (fun b => base <= b /\ b ≠ p) sz v n l) : sV w base sz v n l := by
 refine ⟨h.1, ?_⟩
 rcases h.2 with h2 | ⟨b, c, rest, h1, h2, h3, h4, h5⟩
 .exact .inl h2
 .exact .inr ⟨b, c, rest, h1, h2.1, h3, h4, h5⟩
theorem OSS.len {w : aNE} {S : Nat -> Prop} {sz n : Nat} {v : aNF} {l : List aNF} (h : OSS w S sz v n l) : ∃ a c, v = .slice a n c := by
 rcases h.2 with ⟨h1, rfl⟩ | ⟨b, c, rest, h1, _⟩
 .exact ⟨_, _, h1⟩
 .exact ⟨_, _, h1⟩
end Go.En
namespace Go.Proofs.YtgpimhlgaokobaaGreat
open Go Go.En Go.Pu
set_option maxRecDepth 4000
theorem HtV.ext {w w' : aNE} {base : Nat} {C : List (Nat × Nat)} {v : aNF} {M : Nat -> Prop} (h : HtV w base C v) (x : aW w w' M) (hM : ∀ b, base <= b -> ¬ M b) : HtV w' base C v := by
 obtain ⟨b, h1, h2, h3⟩ := h
 exact ⟨b, h1, h2, h3.ext x (hM b h2)⟩
def rU (C : List (Nat × Nat)) (l : List UInt8) (n : Nat) : Except Int (List Nat) := match Yf l with
 | none => .error 11
 | some k =>
   if (Ce C (pI C) (aZ l) n (k : Int)).2 < 0 then .error 11
   else if 0 < (Ce C (pI C) (aZ l) n (k : Int)).2 then .error 15
   else .ok (Ce C (pI C) (aZ l) n (k : Int)).1
theorem azP {C : List (Nat × Nat)} {m : Nat} {B : List Bool} (hF : YD C m) : ∀ {n : Nat} {left : Int}, ∀ s ∈ (Ce C m B n left).1, s < C.length
 | 0, _, s, hs => by cases hs
 | n + 1, left, s, hs => by
   rw [Ce] at hs
   rcases aL2.1 hs with rfl | hs
   .exact avT (apO hF (Ke _ _ _))
   .exact azP hF s hs
theorem amJ {C : List (Nat × Nat)} {m : Nat} {B : List Bool} : ∀ (n : Nat) (left : Int), Ce C m B (n + 1) left =
 ((Ce C m B n left).1 ++ [EF C m (LW B (Ce C m B n left).2 m)], (Ce C m B n left).2 - bitsOf C (EF C m (LW B (Ce C m B n left).2 m)))
 | 0, left => rfl
 | n + 1, left => by
   rw [Ce, amJ n]
   rw [Ce]
   simp
theorem aBe {C : List (Nat × Nat)} {m : Nat} {B : List Bool} (h : ∀ s, bitsOf C s <= 11) : ∀ (n : Nat) (left : Int), (Ce C m B n left).2 <= left /\ left - 11 * n <= (Ce C m B n left).2
 | 0, left => ⟨Int.le_refl _, by simp [Ce]⟩
 | n + 1, left => by
   have := aBe (m := m) (B := B) h n (left - bitsOf C (EF C m (LW B left m)))
   have := h (EF C m (LW B left m))
   rw [Ce]
   simp only
   omega
theorem arT {a b : Nat} (ha : a < 2 ^ 62) (hb : b < 2 ^ 62) : orI .i64 (a : Int) (b : Int) = ((a ||| b : Nat) : Int) := by
 have h := Nat.or_lt_two_pow ha hb
 unfold orI
 have e : IntKind.i64.bits = 64 := rfl
 rw [e, BitVec.ofInt_natCast, BitVec.ofInt_natCast, BitVec.toNat_or, BitVec.toNat_ofNat, BitVec.toNat_ofNat, aLP (by omega), aLP (by omega)]
 exact aP (by omega) (by omega)
abbrev u8n (m : List Nat) : List aNF := m.map fun (x : Nat) => Value.int .u8 x
def T8 (w : aNE) (base : Nat) (o : Except Int (List Nat)) (r : aNF) : Prop := match o with
 | .error e => r = .tuple #[.slice none 0 0, .int .i64 e]
 | .ok m => ∃ v, r = .tuple #[v, .int .i64 0] /\ sV w base 1 v m.length (u8n m)
theorem aC6 {t v : aNF} {C : List (Nat × Nat)} {l : List UInt8} {n base : Nat} {w : aNE} (hF : YD C (pI C)) (hm : pI C <= 11) (hCl : C.length <= 256) (ht : HtV w base C t) (h : Bs w v l) (hl : l.length <= 1000000) (hn : n <= 131072) :
 aT pg uA #[t, v, .int .i64 n] w (fun r w' => T8 w' w.heap.size (rU C l n) r /\ aW w w' eT) := by
 refine TG ?_
 obtain ⟨RR, hRR⟩ : ∃ RR : aNF -> aNE -> Prop, RR = fun r w' => T8 w' w.heap.size (rU C l n) r /\ aW w w' eT := ⟨_, rfl⟩
 rw [<- hRR]
 obtain ⟨pt, rfl, hpt, oT⟩ := ht
 unfold Qa BK BD
 refine nO fun w1 o1 x1 s1 => ?_
 simp only [Value.cells] at o1
 have z1 := x1.size
 have lt1 := oT.lt
 cases he : Yf l with
 | none =>
   have hR : rU C l n = .error 11 := by unfold rU; rw [he]
   refine (Uy (h.ext x1 (bZ _)) he hl).mono ?_
   rintro r w2 ⟨rfl, rfl⟩
   have n1 : ((11 : Int) != 0) = true := rfl
   simp (disch := omega) only [aD, pT, pS, aA, cY, n1, aG]
   rw [hRR, hR]
   exact ⟨rfl, x1⟩
 | some k =>
   have hk := Ij he
   refine (Wa (h.ext x1 (bZ _)) he hl).mono ?_
   rintro r w2 ⟨hi, rfl, hhi, hhi2, hB, x2⟩
   have n1 : ((0 : Int) != 0) = false := rfl
   simp (disch := omega) only [aD, pT, pS, aA, cY, n1, aE]
   refine aFH Tryz.underlying22 Sr rfl rfl rfl (m := 0) (n := (n : Int)) (by omega) (by omega) (by rw [show Tryz.t5.bytes = 1 from rfl]; omega) (by omega) fun w3 o3 x3 s3 => ?_
   rw [aK9] at o3 ⊢
   have t0 : (0 : Int).toNat = 0 := rfl
   rw [t0]
   have z2 := x2.size
   have z3 := x3.size
   have x03 := (x1.seq x2).seq x3
   have hbit : ∀ s, bitsOf C s <= 11 := fun s => by
    unfold bitsOf
    rw [aLl]
    cases hq : C[s]? with
    | none => simp
    | some e => have := anY (aMg hq); simp; omega
   unfold BO BE BP Bq Bw
   have hBl : ((aZ l).length : Int) = 8 * l.length := by rw [lY]; omega
   refine cS.rule (fun q (t : aNF × aNF × aNF × aNF) w' => ∃ (i th : Nat) (ov : aNF), q = n - i /\ t = (ov, .int .i64 (LW (aZ l) (Ce C (pI C) (aZ l) i (k : Int)).2 th : Nat), .int .i64 th, .int .i64 i) /\ i <= n /\ th <= pI C /\ sV w' (hi + 1) 1 ov i (u8n (Ce C (pI C) (aZ l) i (k : Int)).1) /\
    Bwd w' w1.heap.size hi l ((Ce C (pI C) (aZ l) i (k : Int)).2 - th) /\ aW w3 w' (fun y => hi <= y)) n
    ⟨0, 0, _, rfl, ?_, by omega, by omega, ⟨rfl, .inr ⟨_, n, _, rfl, by omega, o3, by simp [Ce], by omega⟩⟩, ?_, aW.refl _ _⟩ ?_
   .have : LW (aZ l) (Ce C (pI C) (aZ l) 0 (k : Int)).2 0 = 0 := by have := Ke (aZ l) (Ce C (pI C) (aZ l) 0 (k : Int)).2 0; omega
    rw [this] <;> rfl
   .show Bwd w3 w1.heap.size hi l ((k : Int) - (0 : Nat))
    rw [Int.natCast_zero, Int.sub_zero]
    exact hB.ext x3 (fun _ _ _ h => h) (by omega)
   rintro q t w4 ⟨i, th, ov, rfl, rfl, hi', hth, os, hB4, x4⟩
   have z4 := x4.size
   have bd := aBe (C := C) (m := pI C) (B := aZ l) hbit i (k : Int)
   have hBs := amJ (C := C) (m := pI C) (B := aZ l) i (k : Int)
   generalize hg : Ce C (pI C) (aZ l) i (k : Int) = g at *
   obtain ⟨gs, gl⟩ := g
   simp only at *
   unfold xA
   by_cases hlt : i < n
   .have d1 : decide ((i : Int) < (n : Int)) = true := by simp; omega
    have o14 := (o1.ext (x2.seq x3) (fun h => h)).ext x4 (by omega)
    have k0 := o14.cell (off := 0)
    simp only [aK7, aK8] at k0
    have e1 : ((pI C : Nat) : Int) - (th : Int) = ((pI C - th : Nat) : Int) := by omega
    have r1 := Ke (aZ l) gl th
    have hp1 : 2 ^ th <= 2 ^ 11 := aLj (by omega) (by omega)
    have hp2 : 2 ^ (pI C - th) <= 2 ^ 11 := aLj (by omega) (by omega)
    have hmul : LW (aZ l) gl th * 2 ^ (pI C - th) <= 2 ^ 11 * 2 ^ 11 := Nat.mul_le_mul (by omega) hp2
    have e2 := alQ (a := LW (aZ l) gl th) (n := pI C - th) (by omega) (by omega)
    simp (disch := omega) only [aD, aS, d1, fX, jJ, and_true, fI, aLa, bK, aP, aA, bO, hJ, true_and, k0, aH, fE, e1, pE, aK9, e2, Result.ok.injEq, Next.value.injEq, aG]
    have zd : (dr w4).heap.size = w4.heap.size := rfl
    refine (amT (hB4.ext (aW.dr w4 eT) (fun _ _ _ h => h) (by omega)) (by omega) (by omega) (by omega) (by omega) hl).mono ?_
    rintro r w5 ⟨rfl, hB5, x5⟩
    have q1 : qH ((aZ l).take (gl - (th : Int)).toNat) (pI C - th) = LW (aZ l) (gl - th) (pI C - th) := rfl
    rw [q1]
    have r2 := Ke (aZ l) (gl - th) (pI C - th)
    have z5 := x5.size
    have x45 : aW w4 w5 (fun y => hi <= y) := (aW.dr w4 _).seq (x5.mono fun y _ hy => by omega)
    have hadd := aBc (B := aZ l) (left := gl) th (pI C - th) (by omega)
    rw [show th + (pI C - th) = pI C from by omega] at hadd
    have e3 : IntKind.i64.wrap ((LW (aZ l) (gl - th) (pI C - th) : Nat) : Int) = ((LW (aZ l) (gl - th) (pI C - th) : Nat) : Int) := aP (by omega) (by omega)
    have e4 : orI .i64 ((LW (aZ l) gl th * 2 ^ (pI C - th) : Nat) : Int) ((LW (aZ l) (gl - th) (pI C - th) : Nat) : Int) = ((LW (aZ l) gl (pI C) : Nat) : Int) := by
     rw [arT (by omega) (by omega), Nat.or_comm, ayX r2, hadd, aLJ (2 ^ (pI C - th)), Nat.add_comm]
    have hX := Ke (aZ l) gl (pI C)
    have o15 := o14.ext x45 (by omega)
    have k1 := o15.cell (off := 1)
    simp only [aK7, aK8] at k1
    have hent := aHw hF hX
    obtain ⟨X, hXe⟩ : ∃ X, X = LW (aZ l) gl (pI C) := ⟨_, rfl⟩
    rw [<- hXe] at e4 hX hent hBs
    obtain ⟨sy, hsy⟩ : ∃ sy, sy = EF C (pI C) X := ⟨_, rfl⟩
    rw [<- hsy] at hent hBs
    have hsyl : sy < C.length := by rw [hsy]; exact avT (apO hF hX)
    have hbs := hbit sy
    obtain ⟨bs, hbse⟩ : ∃ bs, bs = bitsOf C sy := ⟨_, rfl⟩
    rw [<- hbse] at hent hBs hbs
    have hbm : bs <= pI C := by
     rw [hbse]
     unfold bitsOf
     rw [aLl, aLg hsyl]
     exact anY (aLW hsyl)
    have xT : aW w w5 (fun y => hi <= y) := ((x03.mono fun _ _ h => h.elim).seq x4).seq x45
    have q2 : (aL 173 (.pointer (some ⟨pt, X * 2, none⟩))).run pg w5 = .ok (.value (.agg #[.int .u8 (sy : Nat), .int .i64 (bs : Nat)])) w5 := by
     have := azG (off := X * 2) (oT.ext xT (by omega)) (by rw [apM, aCk]; omega)
     rw [aFq hent] at this
     exact this
    have hX2 : (X : Int) < ((2 ^ pI C : Nat) : Int) := Int.ofNat_lt.2 hX
    have c5 : w5.cell? ⟨w.heap.size, 1, none⟩ = some (.slice (some ⟨pt, 0, none⟩) (2 ^ pI C) (2 ^ pI C)) := k1
    simp (disch := omega) only [bY, e3, k1, aH, aA, LA, e4, jB, aK9, aLa, q2, true_and]
    refine azY fun w6 o6 x6 s6 => ?_
    refine Xt o6 rfl (by simp [one]) (by simp) fun w7 o7 x7 s7 => ?_
    simp only [bM, aLd, aLc] at o7
    have x57 : aW w5 w7 eT := x6.new x7 (aLm _)
    have z57 := x57.size
    have f0 := o7.cell (off := 0)
    simp only [aK7, aK8] at f0
    simp (disch := omega) only [gE, iE, aLa, aA, bO, gS, f0, aH]
    refine pC (cells := #[.int .u8 (sy : Nat)]) (by decide) (by decide) (by kernel_rfl) fun w8 o8 x8 s8 => ?_
    have z8 := x8.size
    have x45h : aW w4 w5 (fun y => y = hi) := (aW.dr w4 _).seq x5
    have os5 := os.ext x45h (fun b hb hh => by omega)
    have os7 := ((os5.ne (aLm _)).ext x6 (fun b _ h => h)).ext x7 (fun b h1 h2 => h1.2 h2)
    refine zA (m := 1) (news := [.int .u8 (sy : Nat)]) (i := Tryz.t5) Tryz.underlying22 Tryz.underlying22 Sr rfl rfl rfl (os7.ext x8 (fun b _ h => h)) (o8.cl (off := 0) (l := [.int .u8 (sy : Nat)]) (n := 1) rfl (fun i hi => by rw [aLa])) (by simp [one]) (fun b hb => ⟨by omega, by omega⟩) (by omega) (by rw [show Tryz.t5.bytes = 1 from rfl]; omega) (by decide) fun v9 w9 o9 x9 => ?_
    have z9 := x9.size
    have x59 : aW w5 w9 (fun y => hi + 1 <= y) := ((x57.seq x8).mono fun _ _ h => h.elim).seq (x9.mono fun y _ h => h.1)
    have k3 := (o15.ext x59 (by omega)).cell (off := 0)
    have f1 := ((o7.ext x8 (fun h => h)).ext x9 (fun h => h.2 rfl)).cell (off := 1)
    simp only [aK7, aK8] at k3 f1
    have e5 : ((pI C : Nat) : Int) - (bs : Int) = ((pI C - bs : Nat) : Int) := by omega
    have hp3 : 2 ^ (pI C - bs) <= 2 ^ 11 := aLj (by omega) (by omega)
    have e6 := alQ (a := 1) (n := pI C - bs) (by omega) (by omega)
    rw [aNl] at e6
    have one1 : ((1 : Nat) : Int) = 1 := rfl
    rw [one1] at e6
    have hp0 := aLC (pI C - bs)
    have e7 : ((2 ^ (pI C - bs) : Nat) : Int) - 1 = ((2 ^ (pI C - bs) - 1 : Nat) : Int) := by omega
    have hp4 : 2 ^ pI C <= 2 ^ 11 := aLj (by omega) (by omega)
    have e8 : VF .i64 (X : Int) ((2 ^ (pI C - bs) - 1 : Nat) : Int) = ((X % 2 ^ (pI C - bs) : Nat) : Int) := by
     rw [aED (by omega) (by omega), Nat.and_two_pow_sub_one_eq_mod]
    have hmod := (aB3 (B := aZ l) (left := gl) (a := bs) (m := pI C) (by omega) hbm).2
    rw [<- hXe] at hmod
    have e9 : (i : Int) + 1 = ((i + 1 : Nat) : Int) := by omega
    simp (disch := omega) only [k3, aH, e9, aA, f1, fE, e5, aP, pE, aK9, e6, e7, wK, e8]
    refine ⟨n - (i + 1), by omega, i + 1, pI C - bs, v9, rfl, ?_, by omega, by omega, ?_, ?_, ?_⟩
    .rw [hBs, hmod]
    .rw [hBs]
     show sV w9 (hi + 1) 1 v9 (i + 1) (u8n (gs ++ [sy]))
     unfold u8n
     rw [aLz]
     exact ⟨o9.1, o9.2.imp id fun ⟨b, c, rest, q1, q2, q3⟩ => ⟨b, c, rest, q1, q2.1, q3⟩⟩
    .rw [hBs]
     have : gl - (bs : Int) - ((pI C - bs : Nat) : Int) = gl - (th : Int) - ((pI C - th : Nat) : Int) := by omega
     show Bwd w9 w1.heap.size hi l (gl - (bs : Int) - ((pI C - bs : Nat) : Int))
     rw [this]
     exact hB5.ext x59 (fun b _ hb h => by omega) (by omega)
    .exact (x4.seq x45).trans x59 fun y _ h => by omega
   .have d1 : decide ((i : Int) < (n : Int)) = false := by simp; omega
    have hin : i = n := by omega
    subst hin
    unfold wY
    simp (disch := omega) only [aD, aS, d1, fX, jJ, and_true, fI, aLa, bK, aP, aA, bO, hJ, true_and, aE]
    refine (apQ hB4).mono ?_
    rintro r w5 ⟨rfl, rfl⟩
    have e1 : gl - (th : Int) + (th : Int) = gl := by omega
    have xall : aW w w5 eT := x03.trans x4 fun y hy h => by omega
    have hR : rU C l i = if gl < 0 then .error 11 else if 0 < gl then .error 15 else .ok gs := by unfold rU; rw [he]; simp only [hg]
    rw [hRR, hR]
    by_cases g1 : gl < 0
    .have d2 : decide (gl < 0) = true := decide_eq_true g1
     rw [if_pos g1]
     simp (disch := omega) only [bK, e1, aP, aA, aS, d2, dE, aG]
     exact ⟨rfl, xall⟩
    .have d2 : decide (gl < 0) = false := decide_eq_false g1
     rw [if_neg g1]
     by_cases g2 : 0 < gl
     .have d3 : decide (0 < gl) = true := decide_eq_true g2
      rw [if_pos g2]
      simp (disch := omega) only [bK, e1, aP, aA, aS, d2, dE, d3, aG, aE]
      exact ⟨rfl, xall⟩
     .have d3 : decide (0 < gl) = false := decide_eq_false g2
      rw [if_neg g2]
      simp (disch := omega) only [bK, e1, aP, aA, aS, d2, dE, d3, aE]
      have hgl : gs.length = i := by have := Xz (C := C) (m := pI C) (B := aZ l) (n := i) (left := (k : Int)); rw [hg] at this; exact this
      refine ⟨⟨ov, rfl, ?_⟩, xall⟩
      rw [hgl]
      rcases os.2 with h0 | ⟨b, c, rest, h1, h2, h3⟩
      .exact ⟨os.1, .inl h0⟩
      .exact ⟨os.1, .inr ⟨b, c, rest, h1, by omega, h3⟩⟩
theorem AtI.sub {a : Option Addr} {n c m c' k sz lo hi : Nat} (h : AtI (.slice a n c) lo hi) (hm : m <= n) : AtI (.slice (mW a c k sz) m c') lo hi := by
 intro M hM hin
 cases m with
 | zero => unfold inB at hin; split at hin <;> simp_all
 | succ m =>
   obtain ⟨n', rfl⟩ : ∃ n', n = n' + 1 := ⟨n - 1, by omega⟩
   have h1 := h M hM
   cases a with
   | none => unfold mW at hin; split at hin <;> exact hin
   | some x =>
     unfold mW at hin
     have h2 : M x.block := by
      split at hin
      .exact hin
      .rw [aLZ] at hin
       have e : (x.add (k * sz)).block = x.block := by unfold Addr.add; split <;> rfl
       have h3 : M (x.add (k * sz)).block := hin
       rwa [e] at h3
     exact h1 h2
abbrev Bl (w : aNE) (v : aNF) (L : List Bool) : Prop := Sl w v (L.map Value.bool)
theorem aHv {w : aNE} {v : aNF} {L : List Bool} (h : Bl w v L) (h0 : 0 < L.length) : ∃ b off c, v = .slice (some ⟨b, off, none⟩) L.length c /\ L.length <= c /\ ∀ i, (h : i < L.length) -> w.cell? ⟨b, off + i, none⟩ = some (.bool L[i]) := by
 obtain ⟨b, off, c, rfl, hc, hcell⟩ := h.openV (by simpa using h0)
 refine ⟨b, off, c, by rw [aLk], by simpa using hc, fun i hi => ?_⟩
 have := hcell i (by simpa using hi)
 simpa using this
theorem GG {w : aNE} {v : aNF} {L : List Bool} (h : Bl w v L) : ∃ a c, v = .slice a L.length c /\ L.length <= c := by
 obtain ⟨a, n, c, rfl, hn, hc, _⟩ := h
 rw [aLk] at hn
 subst hn
 exact ⟨a, c, rfl, hc⟩
theorem aHn (c : UInt8) : Sw c = yW c.toNat 8 := rfl
theorem awC {x : ByteArray} {w : aNE} (hl : x.size <= 1000000) :
 aT pg ES #[.string x] w (fun r w' => sV w' w.heap.size 1 r (8 * x.size) ((aZ (fZ x)).map Value.bool) /\ aW w w' eT) := by
 refine avH ?_
 have hll := gM x
 unfold ayZ On MV PJ OG MU Ox Oh
 refine cS.rule (fun m (t : aNF × aNF) w' => ∃ (i : Nat) (v : aNF), m = x.size - i /\ t = (v, .int .i64 i) /\ i <= x.size /\ sV w' w.heap.size 1 v (8 * i) ((aZ ((fZ x).take i)).map Value.bool) /\ aW w w' (fun y => w.heap.size <= y)) x.size
  ⟨0, _, rfl, rfl, by omega, sV.nil _ _ _, aW.refl _ _⟩ ?_
 rintro m t w1 ⟨i, v, rfl, rfl, hi, o1, x1⟩
 unfold F4 Ow
 by_cases hlt : i < x.size
 .have d1 : decide ((i : Int) < (x.size : Int)) = true := by simp; omega
  obtain ⟨c, hc⟩ : ∃ c, c = (fZ x)[i]'(by omega) := ⟨_, rfl⟩
  have hg : (x[i]'hlt).toNat = c.toNat := by rw [hc, QE]
  have htk : aZ ((fZ x).take (i + 1)) = aZ ((fZ x).take i) ++ yW c.toNat 8 := by
   rw [aL6, aLg (by omega), Uf, <- hc, Option.toList, aZ, aZ, aLX, aHn]
  have hcl : c.toNat < 256 := aLO c
  generalize c.toNat = y at *
  unfold RE Rv Y9 QF
  simp (disch := omega) only [aD, dU, jD, aK9, hg, aA, aS, d1, aG]
  unfold Q6 RQ
  refine cS.rule (fun m (t : aNF × aNF × aNF) w' => ∃ (k : Nat) (v : aNF), m = 8 - k /\ t = (v, .int .u8 (y / 2 ^ k : Nat), .int .i64 k) /\ k <= 8 /\ sV w' w.heap.size 1 v (8 * i + k) ((aZ ((fZ x).take i) ++ yW y k).map Value.bool) /\ aW w w' (fun y => w.heap.size <= y)) 8
   ⟨0, v, rfl, by simp, by omega, by simpa [PM] using o1, x1⟩ ?_
  rintro m t w2 ⟨k, v2, rfl, rfl, hk, o2, x2⟩
  unfold I8
  by_cases hk8 : k < 8
  .have d2 : decide ((k : Int) < 8) = true := by simp; omega
   obtain ⟨z, hz⟩ : ∃ z, z = y / 2 ^ k := ⟨_, rfl⟩
   have hz2 : y / 2 ^ (k + 1) = z / 2 := by rw [hz, aLM, aMG]
   have hzl : z < 256 := by have := aMa y (2 ^ k); omega
   have e1 : (z : Int).tmod 2 = ((z % 2 : Nat) : Int) := by rw [aLB (by omega)]; omega
   have e2 : (z : Int).tdiv 2 = ((z / 2 : Nat) : Int) := by rw [aLr (by omega)]; omega
   have hbit : y.testBit k = decide (z % 2 = 1) := by rw [aM8, hz]
   have e3 : (((z % 2 : Nat) : Int) == 1) = y.testBit k := by
    rw [hbit]
    have : z % 2 = 0 ∨ z % 2 = 1 := by omega
    rcases this with h | h <;> simp [h]
   have hbs := abS y k
   generalize y.testBit k = bt at *
   rw [<- hz]
   simp (disch := omega) only [aD, aS, d2, rD, e1, oR, e2, xK, bK, aP, aA, dQ, e3, aG]
   refine aDQ (cells := #[.bool bt]) (by decide) (by decide) (by kernel_rfl) fun w3 o3 x3 s3 => ?_
   refine aaS (o2.ext x3 (fun _ _ h => h)) (o3.cl (off := 0) (l := [.bool bt]) (n := 1) rfl (fun i hi => by rw [aLa])) (by simp [one]) (aMf x2.size x3.size) (by omega) fun v4 w4 o4 x4 => ?_
   refine ⟨8 - (k + 1), by omega, k + 1, v4, rfl, ?_, by omega, ?_, ?_⟩
   .rw [hz2] <;> rfl
   .rw [hbs, <- aLF, aLz]
    exact o4
   .exact (x2.seq (x3.mono fun _ _ h => h.elim)).seq x4
  .have d2 : decide ((k : Int) < 8) = false := by simp; omega
   obtain rfl : k = 8 := by omega
   rw [<- htk] at o2
   unfold Ja
   simp (disch := omega) only [aD, aS, d2, rD, oR, bK, aP, aA, dQ, aE]
   exact ⟨x.size - (i + 1), by omega, i + 1, _, rfl, rfl, by omega, o2, x2⟩
 .have d1 : decide ((i : Int) < (x.size : Int)) = false := by simp; omega
  obtain rfl : i = x.size := by omega
  rw [aLH (by omega)] at o1
  unfold IE
  simp (disch := omega) only [aD, dU, aA, aS, d1, aE]
  exact ⟨o1, x1.mono fun b hb h => Nat.not_le_of_lt hb h⟩
theorem asR {L : List Bool} {v : aNF} {w : aNE} (h : Bl w v L) (hl : L.length <= 60) :
 aT pg BU #[v] w (fun r w' => r = .int .u64 (wM L : Nat) /\ w' = w) := by
 refine ajC ?_
 obtain ⟨a, c, hv, hc⟩ := GG h
 subst hv
 unfold agA Iu Io Ki J0 JI
 simp (disch := omega) only [aD, lI, aA, fE, aP]
 unfold JD J4
 refine cS.rule (fun m (t : aNF × aNF) w' => t = (.int .u64 (wM (L.drop m) : Nat), .int .i64 ((m : Int) - 1)) /\ m <= L.length /\ w' = w) L.length
  ⟨by rw [List.drop_length] <;> rfl, by omega, rfl⟩ ?_
 rintro m t w1 ⟨rfl, hm, rfl⟩
 unfold Dy KV
 cases m with
 | zero =>
   have d1 : decide ((0 : Int) <= ((0 : Nat) : Int) - 1) = false := rfl
   unfold DA
   simp (disch := omega) only [aD, nF, d1, oN, aA, bK, and_true, aE]
   simp
 | succ j =>
   have e0 : ((j + 1 : Nat) : Int) - 1 = (j : Int) := by omega
   have d1 : decide ((0 : Int) <= (j : Int)) = true := by simp
   obtain ⟨b, off, c', e, _, hcell⟩ := aHv h (by omega)
   cases e
   have g := hcell j (by omega)
   have hd : L.drop j = L[j] :: L.drop (j + 1) := aLK (by omega)
   have hlt := ahJ (L.drop j)
   rw [aLs] at hlt
   have hp : 2 ^ (L.length - j) <= 2 ^ 60 := aLj (by omega) (by omega)
   generalize L[j] = bt at *
   have hn : wM (L.drop j) = bt.toNat + 2 * wM (L.drop (j + 1)) := by rw [hd, wM]
   generalize wM (L.drop (j + 1)) = x at *
   cases bt with
   | true =>
     have hn : wM (L.drop j) = 1 + 2 * x := hn
     rw [e0]
     simp (disch := omega) only [aD, nF, d1, oN, kS, nQ, aK9, aA, uF, bK, g, aH, aG]
     unfold Af
     simp (disch := omega) only [aD, fE, aP, aA, and_true]
     exact ⟨j, by omega, by rw [hn]; simp; omega, by omega⟩
   | false =>
     have hn : wM (L.drop j) = 2 * x := by rw [hn]; simp
     rw [e0]
     simp (disch := omega) only [aD, nF, d1, oN, kS, nQ, aK9, aA, uF, bK, g, aH, aE, aG]
     unfold Af
     simp (disch := omega) only [aD, fE, aP, aA, and_true]
     exact ⟨j, by omega, by rw [hn]; simp; omega, by omega⟩
end Go.Proofs.YtgpimhlgaokobaaGreat
namespace Go.Pu
def sE : List UInt8 -> Nat
 | [] => 0
 | c :: l => c.toNat + 256 * sE l
theorem Qm : ∀ l : List UInt8, sE l < 256 ^ l.length
 | [] => by simp [sE]
 | c :: l => by
   have := Qm l
   have hc := c.toNat_lt
   rw [sE, aLw, aLM]; omega
theorem amG (c : UInt8) : ∀ l : List UInt8, sE (l ++ [c]) = sE l + 256 ^ l.length * c.toNat
 | [] => by simp [sE]
 | d :: l => by
   rw [aMh, sE, amG c l, sE, aLw, aLM, aNm, aMH, aLJ (256 ^ l.length) 256, aNk]
theorem aEL (i : Nat) : 256 ^ i = 2 ^ (8 * i) := by rw [Nat.pow_mul]
theorem aIh (l : List UInt8) (c : UInt8) : sE l ||| (c.toNat * 2 ^ (8 * l.length)) = sE (l ++ [c]) := by
 have := Qm l
 rw [aEL] at this
 rw [ayX this, amG, aEL]
def pV (x : Nat) : Nat -> List UInt8
 | 0 => []
 | n + 1 => UInt8.ofNat (x % 256) :: pV (x / 256) n
theorem oD : ∀ (n x : Nat), (pV x n).length = n
 | 0, _ => rfl
 | n + 1, x => by rw [pV, aLw, oD n]
theorem aqH : ∀ (n x : Nat), sE (pV x n) = x % 256 ^ n
 | 0, x => by simp [pV, sE, Nat.mod_one]
 | n + 1, x => by
   rw [pV, sE, aqH n, aLM, aLJ (256 ^ n) 256, Nat.mod_mul]
   have : (UInt8.ofNat (x % 256)).toNat = x % 256 := by
    rw [UInt8.toNat_ofNat']; omega
   rw [this]
theorem aAW : ∀ (n x : Nat), pV x (n + 1) = pV x n ++ [UInt8.ofNat (x / 256 ^ n % 256)]
 | 0, x => by simp [pV]
 | n + 1, x => by
   rw [pV, aAW n (x / 256), pV, aMh, aMG, aLM, aLJ (256 ^ n) 256]
end Go.Pu
namespace Go.Proofs.YtgpimhlgaokobaaGreat
open Go Go.En Go.Pu
set_option maxRecDepth 4000
def AtS (v : aNF) (S : Nat -> Prop) : Prop := ∀ M : Nat -> Prop, (∀ b, S b -> ¬ M b) -> ¬ inB v M
theorem AtI.toS {v : aNF} {lo hi : Nat} {S : Nat -> Prop} (h : AtI v lo hi) (hS : ∀ b, lo <= b -> b < hi -> S b) : AtS v S := fun M hM => h M fun b h1 h2 => hM b (hS b h1 h2)
theorem AtS.mono {v : aNF} {S T : Nat -> Prop} (h : AtS v S) (hT : ∀ b, S b -> T b) : AtS v T := fun M hM => h M fun b hb => hM b (hT b hb)
theorem AtS.toI {v : aNF} {S : Nat -> Prop} {lo hi : Nat} (h : AtS v S) (hS : ∀ b, S b -> lo <= b /\ b < hi) : AtI v lo hi := fun M hM => h M fun b hb => hM b (hS b hb).1 (hS b hb).2
theorem AtS.nil (S : Nat -> Prop) : AtS (.slice none 0 0) S := fun M _ h => h
theorem AtS.sub {a : Option Addr} {n c m c' k mx sz : Nat} {S : Nat -> Prop} (h : AtS (.slice a n c) S) (hm : m <= n) : AtS (.slice (mW a mx k sz) m c') S := by
 intro M hM hin
 cases m with
 | zero => unfold inB at hin; split at hin <;> simp_all
 | succ m =>
   obtain ⟨n', rfl⟩ : ∃ n', n = n' + 1 := ⟨n - 1, by omega⟩
   have h1 := h M hM
   cases a with
   | none => unfold mW at hin; split at hin <;> exact hin
   | some x =>
     unfold mW at hin
     have h2 : M x.block := by
      split at hin
      .exact hin
      .rw [aLZ] at hin
       have e : (x.add (k * sz)).block = x.block := by unfold Addr.add; split <;> rfl
       have h3 : M (x.add (k * sz)).block := hin
       rwa [e] at h3
     exact h1 h2
theorem aKs {w : aNE} {a : Option Addr} {n c : Nat} {l : List aNF} (h : Sl w (.slice a n c) l) {k : Nat} (hk : k <= n) : Sl w (.slice (mW a k 0 1) (k - 0) (k - 0)) (l.take k) := by
 obtain ⟨a', n', c', e, hn, hc, h⟩ := h
 cases e
 refine ⟨_, _, _, rfl, by rw [aLn]; omega, aLm _, fun h0 => ?_⟩
 obtain ⟨b, off, rfl, h2⟩ := h (by omega)
 have hs : mW (some ⟨b, off, none⟩) k 0 1 = some ⟨b, off + 0 * 1, none⟩ := by unfold mW; rw [if_neg (by omega)] <;> rfl
 refine ⟨b, off, by rw [hs]; simp, fun i hi => ?_⟩
 rw [aLY (by omega)]
 exact h2 i (by omega)
def Rdr (w : aNE) (lo hi p : Nat) (l : List UInt8) (e : Int) : Prop := lo <= p /\ p < hi /\ ∃ v, eM w p [v, .int .i64 e] /\ Bs w v l /\ AtS v (fun b => lo <= b /\ b < hi /\ b ≠ p)
theorem Rdr.ext {w w' : aNE} {lo hi p : Nat} {l : List UInt8} {e : Int} {M : Nat -> Prop} (h : Rdr w lo hi p l e) (x : aW w w' M) (hM : ∀ b, lo <= b -> b < hi -> ¬ M b) : Rdr w' lo hi p l e := by
 obtain ⟨h0, h0', v, h1, h2, h3⟩ := h
 exact ⟨h0, h0', v, h1.ext x (hM _ h0 h0'), h2.ext x (h3 M fun b hb => hM b hb.1 hb.2.1), h3⟩
theorem Rdr.lt {w : aNE} {lo hi p : Nat} {l : List UInt8} {e : Int} (h : Rdr w lo hi p l e) : p < w.heap.size := by
 obtain ⟨_, _, v, h1, _⟩ := h; exact h1.lt
theorem asM {v : aNF} {l : List UInt8} {w : aNE} (h : Bs w v l) (hl : l.length <= 1000000000) :
 aT pg vC #[v] w (fun r w' => ∃ p, r = .pointer (some ⟨p, 0, none⟩) /\ Rdr w' w.heap.size w'.heap.size p l 0 /\ aW w w' eT) := by
 refine Vm ?_
 unfold S6 CB
 refine (IP h hl).mono ?_
 rintro r w1 ⟨ho, x1⟩
 have hat := sV.atI ho
 have hs := ho.sl
 obtain ⟨va, vc, rfl⟩ := ho.len
 simp (disch := omega) only [aD, iJ, aA]
 refine nO fun w2 o2 x2 s2 => ?_
 have o2 : eM w2 w1.heap.size [.slice va l.length vc, .int .i64 0] := o2
 have hz := o2.lt
 exact ⟨w1.heap.size, rfl, ⟨x1.size, hz, _, o2, hs.ext x2 (bZ _), hat.toS fun b h1 h2 => ⟨h1, by omega, by omega⟩⟩, x1.seq x2⟩
def Aw (l : List UInt8) (e : Int) (n : Nat) : List UInt8 × List UInt8 × Int := if e ≠ 0 then ([], l, e) else if l.length < n then ([], l, 10) else (l.take n, l.drop n, 0)
theorem aCY {lo hi p n : Nat} {l : List UInt8} {e : Int} {w : aNE} (h : Rdr w lo hi p l e) (hl : l.length <= 1000000000) (hn : n <= 1000000000) :
 aT pg sX #[.pointer (some ⟨p, 0, none⟩), .int .i64 n, .bool true] w (fun r w' => Bs w' r (Aw l e n).1 /\ AtS r (fun b => lo <= b /\ b < hi /\ b ≠ p) /\ Rdr w' lo hi p (Aw l e n).2.1 (Aw l e n).2.2 /\ aW w w' (fun y => y = p)) := by
 refine S0 ?_
 unfold Pd AA
 have h' := h
 obtain ⟨h0, h0', v, o, hb, hat⟩ := h'
 obtain ⟨va, vc, rfl, hvc⟩ := hb.len
 rw [aLk] at hb hat o hvc
 have c0 := o.cell (off := 0)
 have c1 := o.cell (off := 1)
 simp only [aK7, aK8] at c0 c1
 by_cases he : e = 0
 rotate_left
 .have n1 : (e != 0) = true := by simpa using he
  have ht : Aw l e n = ([], l, e) := by unfold Aw; rw [if_pos he]
  rw [ht]
  simp (disch := omega) only [aD, qU, oP, aLu, aA, fO, aLa, fP, eQ, aE, gP, c1, aH, cY, n1, aG]
  exact ⟨Sl.nil _, AtS.nil _, h, aW.refl _ _⟩
 subst he
 have n1 : ((0 : Int) != 0) = false := rfl
 by_cases hsh : l.length < n
 .have d1 : decide ((l.length : Int) < (n : Int)) = true := by simp; omega
  have ht : Aw l 0 n = ([], l, 10) := by unfold Aw; rw [if_neg (by decide), if_pos hsh]
  rw [ht]
  simp (disch := omega) only [aD, qU, oP, aLu, aA, fO, aLa, fP, eQ, aE, gP, c1, aH, cY, n1, c0, aQ, dE, d1, aG]
  refine GA o rfl (by simp) fun w1 o1 x1 s1 => ?_
  simp only [aLd, aLc] at o1
  exact ⟨Sl.nil _, AtS.nil _, ⟨h0, h0', _, o1, hb.ext x1 (hat _ fun b hb => hb.2.2), hat⟩, x1⟩
 .have d1 : decide ((l.length : Int) < (n : Int)) = false := by simp; omega
  have ht : Aw l 0 n = (l.take n, l.drop n, 0) := by unfold Aw; rw [if_neg (by decide), if_neg hsh]
  rw [ht]
  simp (disch := omega) only [aD, qU, oP, aLu, aA, fO, aLa, fP, eQ, aE, gP, c1, aH, cY, n1, c0, aQ, dE, d1, lE, aK9, eE]
  refine yZ o rfl (by simp [one]) fun w1 o1 x1 s1 => ?_
  simp only [aLd, aLc] at o1
  have hbn : Bs w (.slice (mW va n 0 1) (n - 0) (n - 0)) (l.take n) := by
   have := aKs hb (k := n) (by omega)
   rwa [<- aMZ] at this
  have hbd : Bs w (.slice (mW va vc n 1) (l.length - n) (vc - n)) (l.drop n) := by
   have := hb.drop' (k := n) (by omega)
   rwa [<- aMS] at this
  have hn1 := hat.sub (mx := n) (k := 0) (sz := 1) (m := n - 0) (c' := n - 0) (by omega)
  have hn2 := hat.sub (mx := vc) (k := n) (sz := 1) (m := l.length - n) (c' := vc - n) (by omega)
  exact ⟨hbn.ext x1 (hn1 _ fun b hb => hb.2.2), hn1, ⟨h0, h0', _, o1, hbd.ext x1 (hn2 _ fun b hb => hb.2.2), hn2⟩, x1⟩
theorem aG6 {lo hi p : Nat} {l : List UInt8} {e : Int} {w : aNE} (h : Rdr w lo hi p l e) :
 aT pg wT #[.pointer (some ⟨p, 0, none⟩)] w (fun r w' => r = .int .i64 l.length /\ w' = w) := by
 refine SH ?_
 unfold NM AD
 obtain ⟨h0, h0', v, o, hb, hat⟩ := h
 obtain ⟨va, vc, rfl, hvc⟩ := hb.len
 rw [aLk] at hb hat o hvc
 have c0 := o.cell (off := 0)
 simp only [aK7, aK8] at c0
 simp (disch := omega) only [aD, eJ, aLt, qU, aA, fP, eQ, and_true, c0, aH, aQ, aE]
theorem avR {lo hi p : Nat} {l : List UInt8} {e : Int} {w : aNE} (h : Rdr w lo hi p l e) :
 aT pg rN #[.pointer (some ⟨p, 0, none⟩)] w (fun r w' => r = .int .i64 e /\ w' = w) := by
 refine Uc ?_
 unfold Qs BS
 obtain ⟨h0, h0', v, o, hb, hat⟩ := h
 have c1 := o.cell (off := 1)
 simp only [aK7, aK8] at c1
 simp (disch := omega) only [aD, eJ, aLt, qU, aA, fO, aLa, gP, and_true, c1, aH, aE]
theorem aGo {lo hi p n : Nat} {l : List UInt8} {e : Int} {w : aNE} (h : Rdr w lo hi p l e) (hl : l.length <= 1000000000) (hn : n <= 1000000000) :
 aT pg vP #[.pointer (some ⟨p, 0, none⟩), .int .i64 n] w (fun r w' => Bs w' r (Aw l e n).1 /\ AtS r (fun b => lo <= b /\ b < hi /\ b ≠ p) /\ Rdr w' lo hi p (Aw l e n).2.1 (Aw l e n).2.2 /\ aW w w' (fun y => y = p)) := by
 refine RH ?_
 unfold L6 zR
 have d1 : decide ((0 : Int) <= (n : Int)) = true := by simp
 simp (disch := omega) only [aD, eJ, aLt, nF, d1, aA, aE]
 refine (aCY h hl hn).mono ?_
 rintro r w1 hr
 exact hr
theorem awY {lo hi p n : Nat} {l : List UInt8} {e : Int} {w : aNE} (h : Rdr w lo hi p l e) (hl : l.length <= 1000000000) (hn : 1 <= n /\ n <= 8) :
 aT pg rI #[.pointer (some ⟨p, 0, none⟩), .int .i64 n] w (fun r w' => r = .int .u64 (sE (Aw l e n).1 : Nat) /\ Rdr w' lo hi p (Aw l e n).2.1 (Aw l e n).2.2 /\ aW w w' (fun y => y = p)) := by
 refine P4 ?_
 unfold Ju yL yH xZ yM yK
 have d1 : decide ((1 : Int) <= (n : Int)) = true := by simp; omega
 have d2 : decide ((n : Int) <= 8) = true := by simp; omega
 simp (disch := omega) only [aD, eJ, aLt, nF, d1, aA, pB, bE, if_true, bJ, Bi, d2, aE]
 refine (aCY h hl (by omega)).mono ?_
 rintro r w1 ⟨hb, hat, hr, x1⟩
 obtain ⟨t, ht⟩ : ∃ t, t = (Aw l e n).1 := ⟨_, rfl⟩
 have htl : t.length <= 8 := by
  rw [ht]; unfold Aw
  split
  .simp
  .split
   .simp
   .simp; omega
 rw [<- ht] at hb ⊢
 obtain ⟨va, vc, rfl, hvc⟩ := hb.len
 rw [aLk] at hb hvc hat
 simp (disch := omega) only [aLk, aQ, aA]
 unfold yG xY
 refine cS.rule (fun m s w' => ∃ i : Nat, m = t.length - i /\ i <= t.length /\ s = (.int .u64 (sE (t.take i) : Nat), .int .i64 i) /\ w' = w1) t.length ⟨0, rfl, by omega, rfl, rfl⟩ ?_
 rintro m s w2 ⟨i, rfl, hi, rfl, hw⟩
 rw [hw]; clear hw w2
 unfold tM
 by_cases hlt : i < t.length
 .have d3 : decide ((i : Int) < (t.length : Int)) = true := by simp; omega
  obtain ⟨c, hc⟩ : ∃ c, c = t[i]'hlt := ⟨_, rfl⟩
  have htk : t.take (i + 1) = t.take i ++ [c] := by rw [aL6, aLg hlt, <- hc] <;> rfl
  have hor := aIh (t.take i) c
  rw [<- htk, aLn, aL3 (by omega)] at hor
  have hcl : c.toNat < 256 := aLO c
  obtain ⟨b, off, c', hv, hcc, hcell⟩ := hb.openV (by rw [aLk]; omega)
  have g1 := hcell i (by rw [aLk]; exact hlt)
  rw [aLk] at hv
  cases hv
  rw [aMe, <- hc] at g1
  simp only [sU] at g1
  generalize c.toNat = cx at *
  have hp : 2 ^ (8 * i) <= 2 ^ 56 := aLj (by omega) (by omega)
  have hm : cx * 2 ^ (8 * i) <= 255 * 2 ^ 56 := Nat.mul_le_mul (by omega) hp
  have hb0 := Qm (t.take i)
  have hb1 := Qm (t.take (i + 1))
  rw [aLn, aL3 (by omega)] at hb0 hb1
  have hq : 256 ^ i <= 256 ^ 7 := aLj (by omega) (by omega)
  have e0 : ((8 : Int) * (i : Int)) = ((8 * i : Nat) : Int) := by omega
  have e5 : IntKind.u64.wrap ((cx : Int) * 2 ^ (min (8 * i) IntKind.u64.bits)) = ((cx * 2 ^ (8 * i) : Nat) : Int) := by
   rw [show min (8 * i) IntKind.u64.bits = 8 * i from aL3 (by have : IntKind.u64.bits = 64 := rfl
                                                              omega)]
   have e : (cx : Int) * 2 ^ (8 * i) = ((cx * 2 ^ (8 * i) : Nat) : Int) := by simp
   rw [e]
   exact kS (by omega) (by omega)
  have e6 := aBq (a := sE (t.take i)) (b := cx * 2 ^ (8 * i)) (by omega) (by omega)
  rw [hor] at e6
  have e7 : IntKind.u64.wrap (cx : Int) = (cx : Int) := kS (by omega) (by omega)
  simp (disch := omega) only [aD, aS, d3, dA, aK9, oN, e0, aP, bK, aA, fW, kS, gS, g1, aH, iT, e7, pE, e5, LA, e6, and_true, aG]
  exact ⟨t.length - (i + 1), by omega, i + 1, rfl, by omega, rfl⟩
 .have d3 : decide ((i : Int) < (t.length : Int)) = false := by simp; omega
  obtain rfl : i = t.length := by omega
  simp (disch := omega) only [aD, aS, d3, oN, aP, bK, aA, fW, kS, aE]
  unfold tQ
  rw [aMU]
  exact ⟨rfl, hr, x1⟩
theorem awZ {v : aNF} {l : List UInt8} {w : aNE} (h : Bs w v l) (hl : l.length <= 100000) (hd : gQ (bT l) = 0) :
 aT pg Ar #[v] w (fun r w' => r = .tuple #[.agg #[.int .i64 0, .slice none 0 0], .int .i64 1] /\ aW w w' eT) := by
 refine SF ?_
 unfold VY Dn CZ
 refine xF fun w1 o1 x1 s1 => ?_
 refine (anL (h.ext x1 (bZ _)) hl hd).mono ?_
 rintro r w2 ⟨rfl, rfl⟩
 have n0 : ((1 : Int) != 0) = true := rfl
 simp (disch := omega) only [aD, pT, pS, kN, aA, cY, n0, aG]
 refine vH o1 rfl (by simp [one]) (by simp) fun w3 o3 x3 s3 => ?_
 refine VT o3 (by simp [bM]) ?_
 simp only [bM, aLd, aLc, aLf, aLe, aLi]
 exact ⟨trivial, x1.new x3 (aLm _)⟩
abbrev wC (wl : List UInt8) : List (Nat × Nat) := pL (bT wl) (gQ (bT wl))
structure WOk (wl : List UInt8) : Prop where
 d0 : gQ (bT wl) ≠ 0
theorem WOk.full {wl : List UInt8} (h : gQ (bT wl) ≠ 0) : YD (wC wl) (pI (wC wl)) /\ pI (wC wl) <= 11 /\ (wC wl).length <= 256 := by
 obtain ⟨h1, h2⟩ := axR rfl h
 have h3 := vZ rfl h
 exact ⟨h1, aMf h2 h3.2.1, by rw [sS]; exact h3.2.2.2.1⟩
def U7 (wl s : List UInt8) (n : Nat) : Except Int (List Nat) := if gQ (bT wl) = 0 then .error 1 else rU (wC wl) s n
theorem aC3 {lv v : aNF} {wl l : List UInt8} {n : Nat} {w : aNE} (hw : Bs w lv wl) (hwl : wl.length <= 100000) (h : Bs w v l) (hl : l.length <= 1000000) (hn : n <= 131072) :
 aT pg IC #[lv, v, .int .i64 n] w (fun r w' => T8 w' w.heap.size (U7 wl l n) r /\ aW w w' eT) := by
 refine arA ?_
 unfold asJ NQ
 by_cases hd : gQ (bT wl) = 0
 .refine (awZ hw hwl hd).mono ?_
  rintro r w1 ⟨rfl, x1⟩
  have n0 : ((1 : Int) != 0) = true := rfl
  simp (disch := omega) only [aD, pT, pS, aS, aA, bE, cY]
  refine xF fun w2 o2 x2 s2 => ?_
  refine vH o2 rfl (by simp [one]) (by simp) fun w3 o3 x3 s3 => ?_
  simp (disch := omega) only [n0, aG]
  unfold U7
  rw [if_pos hd]
  exact ⟨rfl, x1.seq (x2.new x3 (aLm _))⟩
 .obtain ⟨hF, hm, hC⟩ := WOk.full hd
  refine (aCK hw rfl hd).mono ?_
  rintro r w1 ⟨t, rfl, ht, x1⟩
  have n0 : ((0 : Int) != 0) = false := rfl
  obtain ⟨b, rfl, hb, ob⟩ := ht
  simp (disch := omega) only [aD, pT, pS, aS, aA, bE, cY]
  refine xF fun w2 o2 x2 s2 => ?_
  refine vH o2 rfl (by simp [one]) (by simp) fun w3 o3 x3 s3 => ?_
  simp only [bM, aLd, aLc] at o3
  have x13 : aW w1 w3 eT := x2.new x3 (aLm _)
  have x03 := x1.seq x13
  have d1 : decide ((n : Int) < 0) = false := decide_eq_false (by omega)
  have d2 : decide (131072 < (n : Int)) = false := decide_eq_false (by omega)
  have q1 := OJ (off := 0) o3 (by simp)
  simp only [aLf, aLe, aLi] at q1
  simp (disch := omega) only [n0, d1, dI, aLb, if_false, bJ, dE, d2, aA, q1, aE]
  refine (aC6 (base := 0) hF hm hC ⟨b, rfl, aM4 _, ob.ext x13 (fun h => h)⟩ (h.ext x03 (bZ _)) hl hn).mono ?_
  rintro r w4 ⟨hr, x4⟩
  unfold U7
  rw [if_neg hd]
  have z03 := x03.size
  cases hs : rU (wC wl) l n with
  | error e =>
    rw [hs] at hr
    obtain rfl : r = .tuple #[.slice none 0 0, .int .i64 e] := hr
    simp (disch := omega) only [pT, pS, aA]
    exact ⟨rfl, x03.seq x4⟩
  | ok m =>
    rw [hs] at hr
    obtain ⟨ov, rfl, os⟩ := hr
    simp (disch := omega) only [pT, pS, aA]
    refine ⟨⟨ov, rfl, ?_⟩, x03.seq x4⟩
    rcases os.2 with h0 | ⟨b, c, rest, h1, h2, h3⟩
    .exact ⟨os.1, .inl h0⟩
    .exact ⟨os.1, .inr ⟨b, c, rest, h1, by omega, h3⟩⟩
theorem aDz {n q : Nat} (hn : n <= 131072) (hq : q = (n + 3) / 4) (w : aNE) :
 aT pg FJ #[.int .i64 n] w (fun r w' => r = .tuple #[.agg #[.int .i64 (q : Nat), .int .i64 (q : Nat), .int .i64 (q : Nat), .int .i64 ((n : Int) - 3 * (q : Int))], .bool (decide (3 * (q : Int) <= (n : Int)))] /\ aW w w' eT) := by
 refine atZ ?_
 unfold ayB Rn
 have e1 : (n : Int) + 4 - 1 = ((n + 3 : Nat) : Int) := by omega
 have e2 : ((n + 3 : Nat) : Int).tdiv 4 = (q : Int) := by rw [aLr (by omega)]; omega
 have e3 : IntKind.i64.wrap (q : Int) = (q : Int) := aP (by omega) (by omega)
 generalize hK : (fun (t2 : aNF) (w : aNE) => _) = K
 refine TD fun w1 o1 x1 s1 => ?_
 simp (disch := omega) only [hK.symm, aD, bK, aP, aA, fE, e1, oR, e2, e3, oN, nF, dJ]
 refine Wf o1 rfl (by simp [one]) (by simp) fun w2 o2 x2 s2 => ?_
 refine aDl o2 (by simp [bM]) ?_
 simp only [bM, aLd, aLc, aLf, aLe, aLi]
 exact ⟨trivial, x1.new x2 (aLm _)⟩
def EI (C : List (Nat × Nat)) : List UInt8 -> List (Nat × Nat) -> Except Int (List Nat)
 | _, [] => .ok []
 | l, (k, n) :: r => match rU C (l.take k) n with
   | .error e => .error e
   | .ok m => (match EI C (l.drop k) r with
     | .error e => .error e
     | .ok m' => .ok (m ++ m'))
def XJ (acc : List Nat) (x : Except Int (List Nat)) : Except Int (List Nat) := match x with
 | .error e => .error e
 | .ok m => .ok (acc ++ m)
theorem anG {C : List (Nat × Nat)} {l : List UInt8} {k n : Nat} {r : List (Nat × Nat)} (acc : List Nat) : XJ acc (EI C l ((k, n) :: r)) = match rU C (l.take k) n with
 | .error e => .error e
 | .ok m => XJ (acc ++ m) (EI C (l.drop k) r) := by
 rw [EI]
 cases rU C (l.take k) n with
 | error e => rfl
 | ok m =>
   simp only
   cases EI C (l.drop k) r with
   | error e => rfl
   | ok m' => simp [XJ]
def nA (l : List UInt8) : Nat := sE (l.take 2)
def nB (l : List UInt8) : Nat := sE ((l.drop 2).take 2)
def nC (l : List UInt8) : Nat := sE ((l.drop 4).take 2)
def JA (wl l : List UInt8) (n : Nat) : Except Int (List Nat) :=
 if gQ (bT wl) = 0 then .error 1
 else if n < 3 * ((n + 3) / 4) then .error 11
 else if l.length < 6 then .error 10
 else if (l.drop 6).length < nA l + nB l + nC l then .error 10
 else EI (wC wl) (l.drop 6) [(nA l, (n + 3) / 4), (nB l, (n + 3) / 4), (nC l, (n + 3) / 4), ((l.drop 6).length - (nA l + nB l + nC l), n - 3 * ((n + 3) / 4))]
def nx (l : List UInt8) : Nat -> List UInt8 × Int
 | 0 => (l, 0)
 | i + 1 => ((Aw (nx l i).1 (nx l i).2 2).2.1, (Aw (nx l i).1 (nx l i).2 2).2.2)
def nv (l : List UInt8) (i : Nat) : Nat := sE (Aw (nx l i).1 (nx l i).2 2).1
theorem aEA (l : List UInt8) : ∀ i, (nx l i).1.length <= l.length
 | 0 => aLm _
 | i + 1 => by
   have := aEA l i
   rw [nx]
   unfold Aw
   split
   .exact this
   .split
    .exact this
    .simp only [aLs]; omega
theorem aI8 {l : List UInt8} (h : 6 <= l.length) : nx l 1 = (l.drop 2, 0) /\ nx l 2 = (l.drop 4, 0) /\ nx l 3 = (l.drop 6, 0) /\ nv l 0 = nA l /\ nv l 1 = nB l /\ nv l 2 = nC l := by
 have t : ∀ m : List UInt8, 2 <= m.length -> Aw m 0 2 = (m.take 2, m.drop 2, 0) := fun m hm => by
  unfold Aw; rw [if_neg (by simp), if_neg (by omega)]
 have h1 : nx l 1 = (l.drop 2, 0) := by rw [nx, nx, t l (by omega)]
 have h2 : nx l 2 = (l.drop 4, 0) := by rw [nx, h1, t _ (by rw [aLs]; omega), aM5]
 have h3 : nx l 3 = (l.drop 6, 0) := by rw [nx, h2, t _ (by rw [aLs]; omega), aM5]
 refine ⟨h1, h2, h3, ?_, ?_, ?_⟩
 .unfold nv nA; rw [nx, t l (by omega)]
 .unfold nv nB; rw [h1, t _ (by rw [aLs]; omega)]
 .unfold nv nC; rw [h2, t _ (by rw [aLs]; omega)]
theorem aHI {l : List UInt8} (h : l.length < 6) : (nx l 3).2 = 10 := by
 have e : ∀ (m : List UInt8), Aw m 10 2 = ([], m, 10) := fun m => rfl
 have t : ∀ m : List UInt8, 2 <= m.length -> Aw m 0 2 = (m.take 2, m.drop 2, 0) := fun m hm => by
  unfold Aw; rw [if_neg (by simp), if_neg (by omega)]
 have b : ∀ m : List UInt8, m.length < 2 -> Aw m 0 2 = ([], m, 10) := fun m hm => by
  unfold Aw; rw [if_neg (by simp), if_pos hm]
 rcases aLv l.length 2 with h1 | h1
 .rw [nx, nx, nx, nx, b l h1] <;> rfl
 .rcases aLv l.length 4 with h2 | h2
  .rw [nx, nx, nx, nx, t l h1]; simp only; rw [b _ (by rw [aLs]; omega)] <;> rfl
  .rw [nx, nx, nx, nx, t l h1]; simp only; rw [t _ (by rw [aLs]; omega)]; simp only; rw [b _ (by rw [aLs, aLs]; omega)]
theorem awX {l : List UInt8} {e : Int} : sE (Aw l e 2).1 < 65536 := by
 have h : ∀ m : List UInt8, m.length <= 2 -> sE m < 65536 := fun m hm => by
  match m, hm with
  | [], _ => decide
  | [a], _ => have := aLO a; simp [sE]; omega
  | [a, b], _ => have := aLO a; have := aLO b; simp [sE]; omega
 apply h
 unfold Aw
 split
 .simp
 .split
  .simp
  .simp only [aLn]; omega
def l4 (l : List UInt8) (i : Nat) (d : Int) : List aNF := [.int .i64 (if 0 < i then nv l 0 else 0 : Nat), .int .i64 (if 1 < i then nv l 1 else 0 : Nat), .int .i64 (if 2 < i then nv l 2 else 0 : Nat), .int .i64 d]
theorem aJN (l : List UInt8) {i : Nat} (h : i < 3) : (l4 l i 0).set i (.int .i64 (nv l i : Nat)) = l4 l (i + 1) 0 := by
 rcases (show i = 0 ∨ i = 1 ∨ i = 2 by omega) with rfl | rfl | rfl <;> rfl
theorem Aq {w : aNE} {base base' sz n : Nat} {v : aNF} {l : List aNF} (h : sV w base sz v n l) (hb : base' <= base) : sV w base' sz v n l := by
 rcases h.2 with h0 | ⟨b, c, rest, h1, h2, h3⟩
 .exact ⟨h.1, .inl h0⟩
 .exact ⟨h.1, .inr ⟨b, c, rest, h1, by omega, h3⟩⟩
theorem XR {C : List (Nat × Nat)} {l : List UInt8} {n : Nat} {e : Int} (h : rU C l n = .error e) : e = 11 ∨ e = 15 := by
 unfold rU at h
 split at h
 .cases h; exact .inl rfl
 .split at h
  .cases h; exact .inl rfl
  .split at h
   .cases h; exact .inr rfl
   .cases h
theorem amV {C : List (Nat × Nat)} {l : List UInt8} {n : Nat} {m : List Nat} (h : rU C l n = .ok m) : m.length = n := by
 unfold rU at h
 split at h
 .cases h
 .split at h
  .cases h
  .split at h
   .cases h
   .cases h; exact Xz
theorem aBG {lv v : aNF} {wl l : List UInt8} {n : Nat} {w : aNE} (hw : Bs w lv wl) (hwl : wl.length <= 100000) (h : Bs w v l) (hl : l.length <= 1000000) (hn : n <= 131072) :
 aT pg Fc #[lv, v, .int .i64 n] w (fun r w' => T8 w' w.heap.size (JA wl l n) r /\ aW w w' eT) := by
 refine afY ?_
 obtain ⟨RR, hRR⟩ : ∃ RR : aNF -> aNE -> Prop, RR = fun r w' => T8 w' w.heap.size (JA wl l n) r /\ aW w w' eT := ⟨_, rfl⟩
 rw [<- hRR]
 have err : ∀ {e : Int} {w' : aNE}, JA wl l n = .error e -> aW w w' eT -> RR (.tuple #[.slice none 0 0, .int .i64 e]) w' := fun h x => by
  rw [hRR, h]; exact ⟨rfl, x⟩
 unfold alE Iv It
 by_cases hd : gQ (bT wl) = 0
 .refine (awZ hw hwl hd).mono ?_
  rintro r w1 ⟨rfl, x1⟩
  have n0 : ((1 : Int) != 0) = true := rfl
  simp (disch := omega) only [aD, pT, pS, aS, aA, bE, cY]
  refine xF fun w2 o2 x2 s2 => ?_
  refine vH o2 rfl (by simp [one]) (by simp) fun w3 o3 x3 s3 => ?_
  simp (disch := omega) only [n0, aG]
  exact err (by unfold JA; rw [if_pos hd]) (x1.seq (x2.new x3 (aLm _)))
 .obtain ⟨hF, hm, hC⟩ := WOk.full hd
  refine (aCK hw rfl hd).mono ?_
  rintro r w1 ⟨t, rfl, ht, x1⟩
  have n0 : ((0 : Int) != 0) = false := rfl
  obtain ⟨b, rfl, hb, ob⟩ := ht
  simp (disch := omega) only [aD, pT, pS, aS, aA, bE, cY]
  refine xF fun w2 o2 x2 s2 => ?_
  refine vH o2 rfl (by simp [one]) (by simp) fun w3 o3 x3 s3 => ?_
  simp only [bM, aLd, aLc] at o3
  have x13 : aW w1 w3 eT := x2.new x3 (aLm _)
  have x03 := x1.seq x13
  have z1 := x1.size
  have z13 := x13.size
  have lb := ob.lt
  have ob3 := ob.ext x13 (fun h => h)
  obtain ⟨p8, hp8⟩ : ∃ p, p = w1.heap.size := ⟨_, rfl⟩
  rw [<- hp8] at o3 ⊢
  have l3 := o3.lt
  have d1 : decide ((n : Int) < 0) = false := decide_eq_false (by omega)
  have d2 : decide (131072 < (n : Int)) = false := decide_eq_false (by omega)
  obtain ⟨q, hq⟩ : ∃ q, q = (n + 3) / 4 := ⟨_, rfl⟩
  simp (disch := omega) only [n0, d1, dI, aLb, if_false, bJ, dE, d2, aA, aE]
  refine (aDz hn hq w3).mono ?_
  rintro r w4 ⟨rfl, x4⟩
  simp (disch := omega) only [pT, pS, aA, oP]
  refine TD fun w5 o5 x5 s5 => ?_
  refine Wf o5 rfl (by simp [one]) (by simp) fun w6 o6 x6 s6 => ?_
  simp only [bM, aLd, aLc] at o6
  have x46 : aW w4 w6 eT := x5.new x6 (aLm _)
  have x36 := x4.seq x46
  have x06 := x03.seq x36
  obtain ⟨p10, hp10⟩ : ∃ p, p = w4.heap.size := ⟨_, rfl⟩
  rw [<- hp10] at o6 ⊢
  have l6 := o6.lt
  by_cases h3 : n < 3 * q
  .have d3 : decide (3 * (q : Int) <= (n : Int)) = false := decide_eq_false (by omega)
   simp (disch := omega) only [d3, aLE, aG]
   exact err (by unfold JA; rw [if_neg hd, <- hq, if_pos h3]) x06
  have d3 : decide (3 * (q : Int) <= (n : Int)) = true := decide_eq_true (by omega)
  simp (disch := omega) only [d3, aLu, aE]
  refine (asM (h.ext x06 (bZ _)) (by omega)).mono ?_
  rintro r w7 ⟨p, rfl, hr7, x7⟩
  refine TD fun w8 o8 x8 s8 => ?_
  have z7 := x7.size
  have z36 := x36.size
  have hp := hr7.1
  have hp2 := hr7.2.1
  have hr8 := hr7.ext x8 (fun _ _ _ h => h)
  obtain ⟨p13, hp13⟩ : ∃ p, p = w7.heap.size := ⟨_, rfl⟩
  rw [<- hp13] at o8 ⊢
  have z8 := x8.size
  have x08 := (x06.seq x7).seq x8
  have o38 := ((o3.ext x36 (fun h => h)).ext x7 (fun h => h)).ext x8 (fun h => h)
  have o68 := (o6.ext x7 (fun h => h)).ext x8 (fun h => h)
  have ob8 := ((ob3.ext x36 (fun h => h)).ext x7 (fun h => h)).ext x8 (fun h => h)
  unfold HX Hx Hz
  simp (disch := omega) only [true_and]
  unfold Ir Ik
  refine cS.rule (fun m (t : aNF) w' => ∃ i : Nat, m = 3 - i /\ t = .int .i64 i /\ i <= 3 /\ eM w' p13 (l4 l i 0) /\ Rdr w' w6.heap.size w7.heap.size p (nx l i).1 (nx l i).2 /\ aW w8 w' (fun y => y = p ∨ y = p13)) 3
   ⟨0, rfl, rfl, by omega, o8, hr8, aW.refl _ _⟩ ?_
  rintro m t w9 ⟨i, rfl, rfl, hi, o9, hr9, x9⟩
  have z9 := x9.size
  unfold Cm
  by_cases hlt : i < 3
  .have d4 : decide ((i : Int) < 3) = true := by simp; omega
   have hnl := aEA l i
   simp (disch := omega) only [aD, aS, d4, nN, aK9, aLa, bK, aP, aA, aG]
   refine (awY (n := 2) hr9 (by omega) ⟨by omega, by omega⟩).mono ?_
   rintro r wa ⟨rfl, hra, xa⟩
   have hnv : sE (Aw (nx l i).1 (nx l i).2 2).1 = nv l i := rfl
   rw [hnv]
   have hn2 := awX (l := (nx l i).1) (e := (nx l i).2)
   rw [hnv] at hn2
   have e1 : IntKind.i64.wrap ((nv l i : Nat) : Int) = ((nv l i : Nat) : Int) := aP (by omega) (by omega)
   have e2 : (i : Int) + 1 = ((i + 1 : Nat) : Int) := by omega
   simp (disch := omega) only [bY, e1, e2, aA]
   refine pD (o9.ext xa (by omega)) rfl (by simp [l4]; omega) fun wb o_b xb sb => ?_
   rw [aJN l hlt] at o_b
   try simp (disch := omega) only [true_and]
   exact ⟨3 - (i + 1), by omega, i + 1, rfl, rfl, by omega, o_b, hra.ext xb (fun y _ hy => by omega), (x9.seq (xa.mono fun _ _ h => .inl h)).seq (xb.mono fun _ _ h => .inr h)⟩
  .have d4 : decide ((i : Int) < 3) = false := by simp; omega
   obtain rfl : i = 3 := by omega
   simp (disch := omega) only [aD, aS, d4, nN, aK9, aLa, bK, aP, aA, aE]
   unfold Kt Ln
   have b0 : nv l 0 < 65536 := awX
   have b1 : nv l 1 < 65536 := awX
   have b2 : nv l 2 < 65536 := awX
   have hnl := aEA l 3
   have od := kA o9
   have k0 := od.cell (off := 0)
   have k1 := od.cell (off := 1)
   have k2 := od.cell (off := 2)
   simp only [l4, aK7, aK8] at k0 k1 k2
   have i0 : (if 0 < 3 then nv l 0 else 0) = nv l 0 := rfl
   have i1 : (if 1 < 3 then nv l 1 else 0) = nv l 1 := rfl
   have i2 : (if 2 < 3 then nv l 2 else 0) = nv l 2 := rfl
   rw [i0] at k0
   rw [i1] at k1
   rw [i2] at k2
   have t0 : (0 : Int).toNat = 0 := rfl
   have t1 : (1 : Int).toNat = 1 := rfl
   have t2 : (2 : Int).toNat = 2 := rfl
   have t3 : (3 : Int).toNat = 3 := rfl
   obtain ⟨N3, hN3⟩ : ∃ N, N = (nx l 3).1.length := ⟨_, rfl⟩
   obtain ⟨D, hD⟩ : ∃ D : Int, D = (N3 : Int) - nv l 0 - nv l 1 - nv l 2 := ⟨_, rfl⟩
   have hrd := hr9.ext (aW.dr w9 eT) (fun _ _ _ h => h)
   simp (disch := omega) only [aD, nN, aLa, jJ, Result.ok.injEq, Next.value.injEq, and_true, aA, true_and, bO]
   refine (aG6 hrd).mono ?_
   rintro r wa ⟨rfl, rfl⟩
   rw [<- hN3]
   simp (disch := omega) only [t0, k0, aH, Result.ok.injEq, Next.value.injEq, and_true, t1, k1, t2, k2, t3, aA, true_and, fE, aP]
   rw [<- hD]
   refine pD od rfl (by simp [l4]) fun wb o_b xb sb => ?_
   have o_b : eM wb p13 (l4 l 3 D) := o_b
   have zd : (dr w9).heap.size = w9.heap.size := rfl
   have hrb := hrd.ext xb (fun y _ hy => by omega)
   have x9b : aW w8 wb (fun y => y = p ∨ y = p13) := (x9.seq (aW.dr _ _)).seq (xb.mono fun _ _ h => .inr h)
   have x0b : aW w wb eT := x08.trans x9b fun y hy h => by omega
   refine (avR hrb).mono ?_
   rintro r wc ⟨rfl, rfl⟩
   rcases aLv l.length 6 with h6 | h6
   .have he := aHI h6
    rw [he]
    have n1 : ((10 : Int) != 0) = true := rfl
    simp (disch := omega) only [cY, n1, aA, jM, bE, if_true, aG, cK]
    exact err (by unfold JA; rw [if_neg hd, <- hq, if_neg h3, if_pos h6]) x0b
   .obtain ⟨_, _, e3, g0, g1, g2⟩ := aI8 h6
    rw [e3] at hrb hN3 ⊢
    simp only at hrb hN3
    have n1 : ((0 : Int) != 0) = false := rfl
    have k3 := o_b.cell (off := 3)
    simp only [l4, aK7, aK8] at k3
    by_cases hneg : N3 < nA l + nB l + nC l
    .have d5 : decide (D < 0) = true := decide_eq_true (by omega)
     simp (disch := omega) only [cY, n1, aA, dI, bE, aLb, if_false, bJ, bO, k3, aH, aS, d5, aG]
     exact err (by unfold JA; rw [if_neg hd, <- hq, if_neg h3, if_neg (by omega), <- hN3, if_pos hneg]) x0b
    .have d5 : decide (D < 0) = false := decide_eq_false (by omega)
     simp (disch := omega) only [cY, n1, aA, dI, bE, aLb, if_false, bJ, bO, k3, aH, aS, d5, aE]
     obtain ⟨L4, hL4⟩ : ∃ L, L = [(nA l, q), (nB l, q), (nC l, q), (N3 - (nA l + nB l + nC l), n - 3 * q)] := ⟨_, rfl⟩
     have hH : JA wl l n = EI (wC wl) (l.drop 6) L4 := by
      unfold JA
      rw [if_neg hd, <- hq, if_neg h3, if_neg (by omega), <- hN3, if_neg hneg, hL4]
     have cells : ∀ i, i < 4 -> ∃ (k m : Nat), L4[i]? = some (k, m) /\ (l4 l 3 D)[i]? = some (.int .i64 (k : Nat)) /\ [Value.int .i64 (q : Nat), .int .i64 (q : Nat), .int .i64 (q : Nat), .int .i64 ((n : Int) - 3 * (q : Int))][i]? = some (.int .i64 (m : Nat)) /\ m <= n := fun i hi => by
      rcases (show i = 0 ∨ i = 1 ∨ i = 2 ∨ i = 3 by omega) with rfl | rfl | rfl | rfl
      .exact ⟨nA l, q, by rw [hL4] <;> rfl, by rw [<- g0] <;> rfl, rfl, by omega⟩
      .exact ⟨nB l, q, by rw [hL4] <;> rfl, by rw [<- g1] <;> rfl, rfl, by omega⟩
      .exact ⟨nC l, q, by rw [hL4] <;> rfl, by rw [<- g2] <;> rfl, rfl, by omega⟩
      .refine ⟨N3 - (nA l + nB l + nC l), n - 3 * q, by rw [hL4] <;> rfl, ?_, ?_, by omega⟩
       .show some (Value.int .i64 D) = _
        rw [show D = ((N3 - (nA l + nB l + nC l) : Nat) : Int) from by omega]
       .show some (Value.int .i64 ((n : Int) - 3 * (q : Int))) = _
        rw [show (n : Int) - 3 * (q : Int) = ((n - 3 * q : Nat) : Int) from by omega]
     have hsum : (L4.map (·.1)).sum = (l.drop 6).length := by rw [hL4, <- hN3]; simp; omega
     have z0b := x0b.size
     have z9b := x9b.size
     have o8b := o38.ext x9b (by omega)
     have o10b := o68.ext x9b (by omega)
     have obb := ob8.ext x9b (by omega)
     unfold Ls Ky KN
     try simp (disch := omega) only [true_and]
     unfold KI Kj
     refine cS.rule (fun z (t : aNF × aNF) w' => ∃ (i : Nat) (acc : List Nat) (li : List UInt8) (ov : aNF), z = 4 - i /\ t = (ov, .int .i64 i) /\ i <= 4 /\ sV w' wc.heap.size 1 ov acc.length (u8n acc) /\ Rdr w' w6.heap.size w7.heap.size p li 0 /\
      EI (wC wl) (l.drop 6) L4 = XJ acc (EI (wC wl) li (L4.drop i)) /\ li.length = ((L4.drop i).map (·.1)).sum /\ li.length <= l.length /\ acc.length <= i * 131072 /\ aW wc w' (fun y => y = p)) 4
      ⟨0, [], l.drop 6, _, rfl, rfl, by omega, sV.nil _ _ _, hrb, ?_, by rw [aLf, hsum], by rw [aLs]; omega, by simp, aW.refl _ _⟩ ?_
     .rw [aLf]
      cases EI (wC wl) (l.drop 6) L4 with
      | error e => rfl
      | ok m => simp [XJ]
     rintro z t wd ⟨i, acc, li, ov, rfl, rfl, hi4, os, hrd4, hres, hls, hll, hal, xd⟩
     have zd4 := xd.size
     unfold DE
     by_cases hlt4 : i < 4
     .have d6 : decide ((i : Int) < 4) = true := by simp; omega
      obtain ⟨k, m, hLi, hc1, hc2, hmn⟩ := cells i hlt4
      have hdrop : L4.drop i = (k, m) :: L4.drop (i + 1) := by
       rw [aLK (aL5.1 hLi).1, (aL5.1 hLi).2]
      rw [hdrop] at hres hls
      rw [aMn, List.sum_cons] at hls
      simp only at hls
      have od13 := kA (o_b.ext xd (by omega))
      have m1 := od13.cell (off := i)
      rw [hc1] at m1
      have t8' : ∀ {w' : aNE}, aW wd w' (fun y => y = p) -> (aL 122 (.pointer (some ⟨p8, 0, none⟩))).run pg w' = .ok (.value (.agg #[.int .i64 (pI (wC wl) : Nat), .slice (some ⟨b, 0, none⟩) (2 ^ pI (wC wl)) (2 ^ pI (wC wl))])) w' := fun x => by
       have := OJ (off := 0) ((o8b.ext xd (by omega)).ext x (by omega)) (by simp)
       simp only [aLf, aLe, aLi] at this
       exact this
      have q1 := t8' (aW.dr wd _)
      have m2d := (kA (o10b.ext xd (by omega))).cell (off := i)
      rw [hc2] at m2d
      simp (disch := omega) only [aD, aS, d6, nN, aK9, aLa, jJ, and_true, Result.ok.injEq, Next.value.injEq, bK, aP, aA, true_and, bO, q1, m1, aH, aG]
      refine (aGo (n := k) (hrd4.ext (aW.dr wd eT) (fun _ _ _ h => h)) (by omega) (by omega)).mono ?_
      rintro r we ⟨hbs, _, hre, xe⟩
      have htk : Aw li 0 k = (li.take k, li.drop k, 0) := by unfold Aw; rw [if_neg (by simp), if_neg (by omega)]
      rw [htk] at hbs hre
      simp only at hbs hre
      have xde : aW wd we (fun y => y = p) := (aW.dr wd _).seq xe
      have zde := xde.size
      have q2 := t8' xde
      have m2 := ((o10b.ext xd (by omega)).ext xde (by omega)).cell (off := i)
      rw [hc2] at m2
      simp (disch := omega) only [q2, m2, aH, m2d, Result.ok.injEq, Next.value.injEq, and_true, aA, true_and]
      have hbs2 := hbs
      obtain ⟨sa, sn, sc, rfl, _, _⟩ := hbs2
      refine (aC6 (base := 0) hF hm hC ⟨b, rfl, aM4 _, (obb.ext xd (by omega)).ext xde (by omega)⟩ hbs (by rw [aLn]; omega) (by omega)).mono ?_
      rintro r wf ⟨hr, xf⟩
      have zf := xf.size
      have x0f : aW w wf eT := ((x0b.trans xd fun y hy h => by omega).trans xde fun y hy h => by omega).seq xf
      cases hs : rU (wC wl) (li.take k) m with
      | error e =>
        rw [hs] at hr
        obtain rfl : r = .tuple #[.slice none 0 0, .int .i64 e] := hr
        have n2 : (e != 0) = true := by have := XR hs; simp; omega
        simp (disch := omega) only [pT, pS, aA, cY, n2, aG, true_and]
        exact err (by rw [hH, hres, anG, hs]) x0f
      | ok mm =>
        rw [hs] at hr
        obtain ⟨sv, rfl, osv⟩ := hr
        have hml := amV hs
        have e2 : (i : Int) + 1 = ((i + 1 : Nat) : Int) := by omega
        simp (disch := omega) only [pT, pS, aA, cY, n1, aE, true_and]
        have osf := (os.ext xde (fun y hy h => by omega)).ext xf (fun _ _ h => h)
        refine mJ (m := mm.length) (news := u8n mm) osf osv.cl (fun y hy => by obtain ⟨z, _, rfl⟩ := aMl.1 hy; rfl) (by omega) (by omega) fun vg wg og xg => ?_
        have e3 : u8n acc ++ u8n mm = u8n (acc ++ mm) := by unfold u8n; rw [aLz]
        rw [e3, <- aLh] at og
        try simp (disch := omega) only [e2]
        refine ⟨4 - (i + 1), by omega, i + 1, acc ++ mm, li.drop k, vg, rfl, rfl, by omega, og, ?_, ?_, ?_, ?_, ?_, ?_⟩
        .exact (hre.ext xf (fun _ _ _ h => h)).ext xg (fun y _ hy h => by omega)
        .rw [hres, anG, hs]
        .rw [aLs]; omega
        .rw [aLs]; omega
        .rw [aLh]; omega
        .exact ((xd.seq xde).more xf).trans xg fun y hy h => by omega
     .have d6 : decide ((i : Int) < 4) = false := by simp; omega
      obtain rfl : i = 4 := by omega
      unfold DH
      simp (disch := omega) only [aD, aS, d6, jJ, and_true, bK, aP, aA, true_and, aE]
      have hnil : L4.drop 4 = [] := by rw [hL4] <;> rfl
      rw [hnil] at hres
      have hfin : JA wl l n = .ok acc := by rw [hH, hres]; simp [EI, XJ]
      rw [hRR, hfin]
      exact ⟨⟨ov, rfl, Aq os (by omega)⟩, x0b.trans xd fun y hy h => by omega⟩
def Cw (w : aNE) (p : Nat) (S : Nat -> Prop) (l : List UInt8) : Prop := ¬ S p /\ ∃ v, eM w p [v] /\ OSS w S 1 v l.length (l.map sU)
theorem Cw.ext {w w' : aNE} {p : Nat} {S M : Nat -> Prop} {l : List UInt8} (h : Cw w p S l) (x : aW w w' M) (hp : ¬ M p) (hM : ∀ b, S b -> ¬ M b) : Cw w' p S l := by
 obtain ⟨h0, v, h1, h2⟩ := h
 exact ⟨h0, v, h1.ext x hp, Lp h2 x hM⟩
theorem Cw.lt {w : aNE} {p : Nat} {S : Nat -> Prop} {l : List UInt8} (h : Cw w p S l) : p < w.heap.size := by
 obtain ⟨_, v, h1, _⟩ := h; exact h1.lt
theorem Cw.turn {w : aNE} {p : Nat} {S T : Nat -> Prop} {l : List UInt8} (h : Cw w p S l) (hT : ∀ b, S b -> b < w.heap.size -> T b) (hp : ¬ T p) : Cw w p T l := by
 obtain ⟨h0, v, h1, h2, h3⟩ := h
 refine ⟨hp, v, h1, h2, ?_⟩
 rcases h3 with h3 | ⟨b, c, rest, g1, g2, g3, g4, g5⟩
 .exact .inl h3
 .exact .inr ⟨b, c, rest, g1, hT b g2 g3.lt, g3, g4, g5⟩
theorem So {w : aNE} {S : Nat -> Prop} {sz n : Nat} {v : aNF} {l : List aNF} (o3 : OSS w S sz v n l) : ∃ a c, v = .slice a n c := by
 rcases o3.2 with ⟨rfl, rfl⟩ | ⟨b, c, rest, rfl, _⟩
 .exact ⟨_, _, rfl⟩
 .exact ⟨_, _, rfl⟩
theorem aGF {w : aNE} {S : Nat -> Prop} {n : Nat} {v : aNF} {l : List aNF} (o3 : OSS w S 1 v n l) : Sl w v l := by
 have : sV w 0 1 v n l := ⟨o3.1, by
  rcases o3.2 with h | ⟨b, c, rest, g1, g2, g3⟩
  .exact .inl h
  .exact .inr ⟨b, c, rest, g1, by omega, g3⟩⟩
 exact this.sl
theorem acZ (w : aNE) : aT pg sQ #[] w (fun r w' => r = .pointer (some ⟨w.heap.size, 0, none⟩) /\ w.heap.size < w'.heap.size /\ Cw w' w.heap.size (fun b => w.heap.size < b) [] /\ aW w w' eT) := by
 refine Vr ?_
 unfold Tl Cx
 simp (disch := omega) only [aD, iZ, aA]
 refine nO fun w1 o1 x1 s1 => ?_
 simp only [Value.cells] at o1
 exact ⟨rfl, by omega, ⟨by omega, _, o1, ⟨rfl, .inl ⟨rfl, rfl⟩⟩⟩, x1⟩
theorem axF {p : Nat} {S : Nat -> Prop} {l m : List UInt8} {v : aNF} {w : aNE} (h : Cw w p S l) (hS : ∀ b, w.heap.size <= b -> S b) (hv : Bs w v m) (hl : l.length + m.length <= 1000000000) :
 aT pg sF #[.pointer (some ⟨p, 0, none⟩), v] w (fun r w' => r = .tuple #[] /\ Cw w' p S (l ++ m) /\ aW w w' (fun y => y = p ∨ S y)) := by
 refine Q9 ?_
 unfold L5 zE
 obtain ⟨h0, v0, o, os⟩ := h
 obtain ⟨va, vc, rfl⟩ := So os
 have c0 := o.cell (off := 0)
 simp only [aK7, aK8] at c0
 have lp := o.lt
 simp (disch := omega) only [aD, gI, aLt, aLE, qU, true_and, aA, fR, eQ, c0, aH, aG]
 have hcl := hv.cl
 rw [aLk] at hcl
 refine zA (m := m.length) (news := m.map sU) (i := Tryz.t5) Tryz.underlying22 Tryz.underlying22 Sr rfl rfl rfl os hcl (awD _) (fun b hb => hS b hb) (by omega) (by rw [show Tryz.t5.bytes = 1 from rfl]; omega) (by decide) fun v3 w3 o3 x3 => ?_
 have op3 := o.ext x3 h0
 obtain ⟨a3, c3, rfl⟩ := So o3
 refine yZ op3 rfl (by simp) fun w4 o4 x4 s4 => ?_
 simp only [aLd, aLc] at o4
 refine ⟨⟨h0, _, o4, ?_⟩, (x3.mono fun y _ h => .inr h).seq (x4.mono fun y _ h => .inl h)⟩
 have := Lp o3 x4 (fun b hb h => h0 (h ▸ hb))
 rw [aLh, aLz]
 exact this
theorem Wl {p x n : Nat} {S : Nat -> Prop} {l : List UInt8} {w : aNE} (h : Cw w p S l) (hS : ∀ b, w.heap.size <= b -> S b) (hx : x < 2 ^ 64) (hn : 1 <= n /\ n <= 8) (hl : l.length <= 100000000) :
 aT pg lJ #[.pointer (some ⟨p, 0, none⟩), .int .u64 x, .int .i64 n] w (fun r w' => r = .tuple #[] /\ Cw w' p S (l ++ pV x n) /\ aW w w' (fun y => y = p ∨ S y)) := by
 refine P5 ?_
 unfold Jj yC yY
 have d1 : decide ((n : Int) < 1) = false := by simp; omega
 have d2 : decide ((8 : Int) < (n : Int)) = false := by simp; omega
 simp (disch := omega) only [aD, fJ, aLt, true_and, aA, dI, bE, aLb, if_false, bJ, aS, d1, dE, d2, aE]
 unfold yT yN
 refine cS.rule (fun m (t : aNF) w' => ∃ i : Nat, m = n - i /\ t = .int .i64 i /\ i <= n /\ Cw w' p S (l ++ pV x i) /\ aW w w' (fun y => y = p ∨ S y)) n
  ⟨0, rfl, rfl, by omega, by rw [pV, aLX]; exact h, aW.refl _ _⟩ ?_
 rintro m t w1 ⟨i, rfl, rfl, hi, hw, x1⟩
 unfold tR
 by_cases hlt : i < n
 .have d3 : decide ((i : Int) < (n : Int)) = true := by simp; omega
  have e0 : ((8 : Int) * (i : Int)) = ((8 * i : Nat) : Int) := by omega
  have e1 : (x : Int).fdiv (2 ^ (min (8 * i) IntKind.u64.bits)) = ((x / 256 ^ i : Nat) : Int) := by
   rw [aEL]; exact XT x (8 * i) (by omega)
  have e2 : IntKind.u8.wrap ((x / 256 ^ i : Nat) : Int) = (((UInt8.ofNat (x / 256 ^ i % 256)).toNat : Nat) : Int) := by
   rw [UInt8.toNat_ofNat']
   generalize x / 256 ^ i = y
   rw [show IntKind.u8.wrap (y : Int) = (y : Int) % 256 from rfl]
   omega
  obtain ⟨c, hc⟩ : ∃ c, c = UInt8.ofNat (x / 256 ^ i % 256) := ⟨_, rfl⟩
  rw [<- hc] at e2
  obtain ⟨h0, v0, o, os⟩ := hw
  obtain ⟨va, vc, rfl⟩ := So os
  have c0 := o.cell (off := 0)
  simp only [aK7, aK8] at c0
  have lp := o.lt
  have hsz := x1.size
  have hpl := oD i x
  rw [aLh, hpl] at os
  rw [aLh, hpl] at c0
  simp (disch := omega) only [aD, aS, d3, qU, oN, e0, aP, bK, aA, fR, fW, kS, sR, aK9, e1, iB, e2, eQ, c0, aH, aG]
  refine pC (cells := #[.int .u8 c.toNat]) (by decide) (by decide) (by kernel_rfl) fun w2 o2 x2 s2 => ?_
  refine zA (m := 1) (news := [sU c]) (i := Tryz.t5) Tryz.underlying22 Tryz.underlying22 Sr rfl rfl rfl (Lp os x2 (fun _ _ h => h)) (o2.cl (off := 0) (l := [sU c]) (n := 1) rfl (fun i hi => by rw [aLa] <;> rfl)) (by simp [one, sU]) (fun b hb => hS b (by omega)) (by omega) (by rw [show Tryz.t5.bytes = 1 from rfl]; omega) (by decide) fun v3 w3 o3 x3 => ?_
  have x13 : aW w1 w3 S := (x2.mono fun _ _ h => h.elim).seq x3
  have op3 := o.ext x13 h0
  obtain ⟨a3, c3, rfl⟩ := So o3
  refine yZ op3 rfl (by simp) fun w4 o4 x4 s4 => ?_
  simp only [aLd, aLc] at o4
  have x14 : aW w1 w4 (fun y => y = p ∨ S y) := (x13.mono fun y _ h => .inr h).seq (x4.mono fun y _ h => .inl h)
  refine ⟨n - (i + 1), by omega, i + 1, rfl, rfl, by omega, ⟨h0, _, o4, ?_⟩, x1.seq x14⟩
  have := Lp o3 x4 (fun b hb h => h0 (h ▸ hb))
  rw [aAW, <- hc, <- aLF, aLz, aLh, aLh, oD]
  exact this
 .have d3 : decide ((i : Int) < (n : Int)) = false := by simp; omega
  obtain rfl : i = n := by omega
  simp (disch := omega) only [aD, aS, d3, qU, oN, aP, bK, aA, fR, fW, kS, sR, iB, eQ, aE]
  exact ⟨hw, x1⟩
theorem awB {p : Nat} {S : Nat -> Prop} {l : List UInt8} {w : aNE} (h : Cw w p S l) (hl : l.length <= 1000000000) :
 aT pg rP #[.pointer (some ⟨p, 0, none⟩)] w (fun r w' => sV w' w.heap.size 1 r l.length (l.map sU) /\ aW w w' eT) := by
 refine TX ?_
 unfold Qj BC
 obtain ⟨h0, v0, o, os⟩ := h
 obtain ⟨va, vc, rfl⟩ := So os
 have c0 := o.cell (off := 0)
 simp only [aK7, aK8] at c0
 simp (disch := omega) only [aD, fJ, aLt, qU, aA, fR, eQ, c0, aH, aE]
 exact IP (aGF os) hl
theorem aGX {wl : List UInt8} (h : gQ (bT wl) ≠ 0) : WrC (wC wl) := by
 obtain ⟨hF, hm, hC⟩ := WOk.full h
 refine ⟨hC, fun s e he => ?_⟩
 obtain ⟨h1, h2⟩ := hF.le s e.1 e.2 he
 exact ⟨by omega, fun h0 => aMK (h2 h0) (aLj (by omega) (by omega))⟩
theorem aBv {wl : List UInt8} (h : gQ (bT wl) ≠ 0) (s : Nat) : bitsOf (wC wl) s <= 11 := by
 unfold bitsOf
 rw [aLl]
 cases he : (wC wl)[s]? with
 | none => simp
 | some e => exact ((aGX h).2 s e he).1
theorem aAH {wl l bytes : List UInt8} (h : gQ (bT wl) ≠ 0) (hall : ∀ s ∈ bT l, 0 < bitsOf (wC wl) s) (hb : atW (Tk (wC wl) (bT l) ++ [true]) bytes) : rU (wC wl) bytes l.length = .ok (bT l) := by
 obtain ⟨hF, hm, hC⟩ := WOk.full h
 obtain ⟨h1, h2⟩ := aG0 hb
 have h3 := aFa hF (T := aZ bytes) hall h2
 rw [iQ] at h3
 unfold rU
 rw [h1]
 simp only
 rw [h3]
 simp
theorem aHD {wl l bytes : List UInt8} (h : gQ (bT wl) ≠ 0) (hb : atW (Tk (wC wl) (bT l) ++ [true]) bytes) : bytes.length <= (11 * l.length + 8) / 8 := by
 have h1 := tF (aBv h) (bT l)
 rw [iQ] at h1
 rw [hb.len, aLh, aL1]
 omega
def aJG (w : aNE) (base : Nat) (wl l : List UInt8) (back : List UInt8 -> Except Int (List Nat)) (lim : Nat) (bad : Prop) (r : aNF) : Prop :=
 ((gQ (bT wl) = 0 ∨ bad ∨ ∃ s ∈ bT l, bitsOf (wC wl) s = 0) /\ r = .tuple #[.slice none 0 0, .int .i64 1]) ∨
 (gQ (bT wl) ≠ 0 /\ (∀ s ∈ bT l, 0 < bitsOf (wC wl) s) /\ ∃ v bytes, r = .tuple #[v, .int .i64 0] /\ Bs w v bytes /\ AtI v base w.heap.size /\ bytes.length <= lim /\ back bytes = .ok (bT l))
theorem aC4 {lv sv : aNF} {wl l : List UInt8} {w : aNE} (hw : Bs w lv wl) (hwl : wl.length <= 100000) (h : Bs w sv l) (hl : l.length <= 131072) :
 aT pg IX #[lv, sv] w (fun r w' => aJG w' w.heap.size wl l (fun b => U7 wl b l.length) ((11 * l.length + 8) / 8) False r /\ aW w w' eT) := by
 refine amU ?_
 unfold arM PF
 by_cases hd : gQ (bT wl) = 0
 .refine (anL hw hwl hd).mono ?_
  rintro r w1 ⟨rfl, rfl⟩
  have n0 : ((1 : Int) != 0) = true := rfl
  simp (disch := omega) only [aD, pT, pS, aA, cY, n0, aG]
  exact ⟨.inl ⟨.inl hd, rfl⟩, aW.refl _ _⟩
 .refine (aBb hw rfl hd).mono ?_
  rintro r w1 ⟨b, rfl, hb, ob, x1⟩
  have n0 : ((0 : Int) != 0) = false := rfl
  have h1 := h.ext x1 (bZ _)
  have hv := h1
  obtain ⟨a, c, rfl, hc⟩ := h1.len
  rw [aLk] at hv ⊢
  have d1 : decide ((l.length : Int) > 131072) = false := decide_eq_false (by omega)
  have d2 : decide ((131072 : Int) < (l.length : Int)) = false := decide_eq_false (by omega)
  simp (disch := omega) only [aD, pT, pS, aQ, aA, dE, d1, aE, cY, n0]
  have hcl : wl.length = (wC wl).length := by rw [sS, iQ]
  rw [hcl]
  refine (aDB ob hv (aGX hd) (by omega)).mono ?_
  rintro r w2 ⟨he, x2⟩
  have z1 := x1.size
  rcases he with ⟨hbad, rfl⟩ | ⟨hall, v, bytes, rfl, hbs, hheld, hat⟩
  .simp (disch := omega) only [pT, pS, aA]
   exact ⟨.inl ⟨.inr (.inr hbad), rfl⟩, x1.seq x2⟩
  .simp (disch := omega) only [pT, pS, aA]
   refine ⟨.inr ⟨hd, hall, _, bytes, rfl, hbs, fun M hM => hat M fun y h1 h2 => hM y (by omega) h2, aHD hd hheld, ?_⟩, x1.seq x2⟩
   show U7 wl bytes l.length = _
   unfold U7
   rw [if_neg hd]
   exact aAH hd hall hheld
def sg (l : List UInt8) (q i : Nat) : List UInt8 := if i < 3 then (l.drop (i * q)).take q else l.drop (3 * q)
theorem WH {l : List UInt8} {q i : Nat} (h : 3 * q <= l.length) : (sg l q i).length = if i < 3 then q else l.length - 3 * q := by
 unfold sg
 split
 .rename_i hi
  have : i * q <= 2 * q := aLG q (by omega)
  rw [aLn, aLs]; omega
 .rw [aLs]
theorem aHC {l : List UInt8} {q : Nat} : sg l q 0 ++ (sg l q 1 ++ (sg l q 2 ++ sg l q 3)) = l := by
 unfold sg
 simp only [show (0 : Nat) < 3 from by omega, show (1 : Nat) < 3 from by omega, show (2 : Nat) < 3 from by omega, if_true, Nat.lt_irrefl, if_false, aNB, aNl, aLf]
 have e2 : l.drop (3 * q) = (l.drop (2 * q)).drop q := by rw [aM5]; congr 1; omega
 have e1 : l.drop (2 * q) = (l.drop q).drop q := by rw [aM5]; congr 1; omega
 rw [e2, aMQ, e1, aMQ, aMQ]
def szs (P : List (List UInt8)) : List UInt8 := (P.take 3).flatMap fun s => pV s.length 2
theorem XK {x n : Nat} {r : List UInt8} : (pV x n ++ r).drop n = r := aNq (oD n x)
theorem aqZ {x n : Nat} {r : List UInt8} : (pV x n ++ r).take n = pV x n := aNc (oD n x)
theorem aF3 {wl l a b c d : List UInt8} (h : gQ (bT wl) ≠ 0) (hq : 3 * ((l.length + 3) / 4) <= l.length) (hl : l.length <= 131072)
 (ha : rU (wC wl) a (sg l ((l.length + 3) / 4) 0).length = .ok (bT (sg l ((l.length + 3) / 4) 0))) (hb : rU (wC wl) b (sg l ((l.length + 3) / 4) 1).length = .ok (bT (sg l ((l.length + 3) / 4) 1)))
 (hc : rU (wC wl) c (sg l ((l.length + 3) / 4) 2).length = .ok (bT (sg l ((l.length + 3) / 4) 2))) (hd : rU (wC wl) d (sg l ((l.length + 3) / 4) 3).length = .ok (bT (sg l ((l.length + 3) / 4) 3)))
 (la : a.length < 65536) (lb : b.length < 65536) (lc : c.length < 65536) :
 JA wl (szs [a, b, c, d] ++ (a ++ (b ++ (c ++ d)))) l.length = .ok (bT l) := by
 have hs : szs [a, b, c, d] = pV a.length 2 ++ (pV b.length 2 ++ pV c.length 2) := by unfold szs; simp
 generalize hq' : (l.length + 3) / 4 = q at *
 have l0 := WH (i := 0) hq
 have l1 := WH (i := 1) hq
 have l2 := WH (i := 2) hq
 have l3 := WH (i := 3) hq
 simp only [show (0 : Nat) < 3 from by omega, show (1 : Nat) < 3 from by omega, show (2 : Nat) < 3 from by omega, if_true, Nat.lt_irrefl, if_false] at l0 l1 l2 l3
 rw [l0] at ha
 rw [l1] at hb
 rw [l2] at hc
 rw [l3] at hd
 rw [hs, aLF, aLF]
 generalize hY : a ++ (b ++ (c ++ d)) = Y
 have hYl : Y.length = a.length + (b.length + (c.length + d.length)) := by rw [<- hY]; simp
 have d2 : (pV a.length 2 ++ (pV b.length 2 ++ (pV c.length 2 ++ Y))).drop 2 = pV b.length 2 ++ (pV c.length 2 ++ Y) := XK
 have d4 : (pV a.length 2 ++ (pV b.length 2 ++ (pV c.length 2 ++ Y))).drop 4 = pV c.length 2 ++ Y := by
  rw [show 4 = 2 + 2 from rfl, <- aM5, d2]; exact XK
 have d6 : (pV a.length 2 ++ (pV b.length 2 ++ (pV c.length 2 ++ Y))).drop 6 = Y := by
  rw [show 6 = 4 + 2 from rfl, <- aM5, d4]; exact XK
 have hlen : (pV a.length 2 ++ (pV b.length 2 ++ (pV c.length 2 ++ Y))).length = 6 + Y.length := by simp [oD]; omega
 have nm : ∀ x, x < 65536 -> sE (pV x 2) = x := fun x hx => by rw [aqH]; exact aLP hx
 have eA : nA (pV a.length 2 ++ (pV b.length 2 ++ (pV c.length 2 ++ Y))) = a.length := by unfold nA; rw [aqZ, nm _ la]
 have eB : nB (pV a.length 2 ++ (pV b.length 2 ++ (pV c.length 2 ++ Y))) = b.length := by unfold nB; rw [d2, aqZ, nm _ lb]
 have eC : nC (pV a.length 2 ++ (pV b.length 2 ++ (pV c.length 2 ++ Y))) = c.length := by unfold nC; rw [d4, aqZ, nm _ lc]
 unfold JA
 rw [if_neg h, hq', if_neg (by omega), if_neg (by rw [hlen]; omega), d6, eA, eB, eC, if_neg (by omega)]
 have ed : Y.length - (a.length + b.length + c.length) = d.length := by omega
 rw [ed, <- hY, EI, aNc rfl, ha]
 simp only
 rw [aNq rfl, EI, aNc rfl, hb]
 simp only
 rw [aNq rfl, EI, aNc rfl, hc]
 simp only
 rw [aNq rfl, EI, aLH (aLm _), hd]
 simp only [EI, aLX]
 have := aHC (l := l) (q := q)
 conv => rhs; rw [<- this]
 simp only [bT, aLz]
theorem aIS {l : List UInt8} {q i : Nat} (hi : i < 4) (hq : 3 * q <= l.length) : (l.drop (i * q)).take (if i < 3 then q else l.length - 3 * q) = sg l q i /\
 (l.drop (i * q)).drop (if i < 3 then q else l.length - 3 * q) = if i < 3 then l.drop ((i + 1) * q) else [] := by
 unfold sg
 by_cases h : i < 3
 .simp only [if_pos h]
  refine ⟨trivial, ?_⟩
  rw [aM5]; congr 1; rw [aL0]; omega
 .simp only [if_neg h]
  obtain rfl : i = 3 := by omega
  refine ⟨aLH (by rw [aLs]; omega), aNy (by rw [aLs]; omega)⟩
structure aGD (W : aNE) (p n0 : Nat) (C : List (Nat × Nat)) (l : List UInt8) (q : Nat) (av : aNF) (P : List (List UInt8)) (SA SW : Nat -> Prop) : Prop where
 a0 : ∀ b, SA b -> n0 <= b /\ b ≠ p /\ ¬ SW b
 aw : ∀ b, SA b -> b < W.heap.size
 s0 : ∀ b, SW b -> n0 <= b /\ b < W.heap.size
 al : OSS W SA 1 av P.flatten.length (P.flatten.map sU)
 wr : Cw W p SW (szs P)
 held : ∀ j s, P[j]? = some s -> atW (Tk C (bT (sg l q j)) ++ [true]) s
 all : ∀ j, j < P.length -> ∀ s ∈ bT (sg l q j), 0 < bitsOf C s
theorem aDf {P : List (List UInt8)} {s : List UInt8} : szs (P ++ [s]) = if P.length < 3 then szs P ++ pV s.length 2 else szs P := by
 unfold szs
 by_cases h : P.length < 3
 .rw [if_pos h, aLH (by simp; omega), aLH (by omega), List.flatMap_append]; simp
 .rw [if_neg h, aMT (by omega)]
theorem aBJ (P : List (List UInt8)) : (szs P).length <= 6 := by
 have : ∀ Q : List (List UInt8), (Q.flatMap fun s => pV s.length 2).length = 2 * Q.length := by
  intro Q
  induction Q with
  | nil => rfl
  | cons s Q ih => rw [List.flatMap_cons, aLh, ih, oD, aLw]; omega
 unfold szs
 rw [this, aLn]; omega
theorem aE4 {w : aNE} {S T : Nat -> Prop} {sz n : Nat} {v : aNF} {l : List aNF} (h : OSS w S sz v n l) (hT : ∀ b, S b -> b < w.heap.size -> T b) : OSS w T sz v n l := by
 refine ⟨h.1, ?_⟩
 rcases h.2 with h2 | ⟨b, c, rest, e, hb, o, hc, hn⟩
 .exact .inl h2
 .exact .inr ⟨b, c, rest, e, hT b hb o.lt, o, hc, hn⟩
theorem anO {a : Option Addr} {n c m c' k : Nat} {M : Nat -> Prop} (h : ¬ inB (.slice a n c) M) (hm : m <= n) : ¬ inB (.slice (mW a c k 1) m c') M := by
 have := AtS.sub (a := a) (n := n) (c := c) (m := m) (c' := c') (k := k) (mx := c) (sz := 1) (S := fun y => ¬ M y) (fun N hN hh => h (akG hh fun b hb => Classical.byContradiction fun hm => hN b hm hb)) hm
 exact this M fun b hb => hb
theorem aFU {RR : aNF -> aNE -> Prop} {l : List UInt8} {q b p n0 : Nat} {C : List (Nat × Nat)} {sv : aNF} {w0 : aNE} (hC : WrC C) (ho : eM w0 b (cc C)) (hs : Bs w0 sv l) (hq : 3 * q <= l.length) (hq2 : l.length <= 4 * q) (hq3 : q <= 32768) (hl : l.length <= 131072)
 (hn0 : n0 <= w0.heap.size) (hp : n0 <= p) (hb : b < n0) (hsv : ¬ inB sv (fun y => n0 <= y)) {SW0 : Nat -> Prop} (hw : Cw w0 p SW0 []) (hSW : ∀ y, SW0 y -> n0 <= y /\ y < w0.heap.size)
 (hbad : ∀ W, (∃ s ∈ bT l, bitsOf C s = 0) -> aW w0 W (fun y => n0 <= y) -> RR (.tuple #[.slice none 0 0, .int .i64 1]) W)
 (hok : ∀ W v P, P.length = 4 -> (∀ j s, P[j]? = some s -> atW (Tk C (bT (sg l q j)) ++ [true]) s) -> (∀ s ∈ bT l, 0 < bitsOf C s) -> Bs W v (szs P ++ P.flatten) -> AtI v w0.heap.size W.heap.size -> aW w0 W (fun y => n0 <= y) -> RR (.tuple #[v, .int .i64 0]) W) :
 B0 (fun sD jK w => Aj RR sD jK w) RR sv (.slice (some ⟨b, 0, none⟩) C.length C.length) (.pointer (some ⟨p, 0, none⟩)) (.slice none 0 0)
  (.agg #[.int .i64 (q : Nat), .int .i64 (q : Nat), .int .i64 (q : Nat), .int .i64 ((l.length : Int) - 3 * (q : Int))]) (.int .i64 0) w0 := by
 unfold B0 HP
 have hbits : ∀ s, bitsOf C s <= 11 := fun s => by
  unfold bitsOf
  rw [aLl]
  cases h : C[s]? with
  | none => simp
  | some e => exact (hC.2 s e h).1
 refine cS.rule (fun m (t : aNF × aNF × aNF) W => ∃ (i : Nat) (sv' av : aNF) (P : List (List UInt8)) (SA SW : Nat -> Prop), m = 4 - i /\ t = (sv', av, .int .i64 i) /\ i <= 4 /\ P.length = i /\ (i < 4 -> Bs W sv' (l.drop (i * q)) /\ ¬ inB sv' (fun y => n0 <= y)) /\
  aGD W p n0 C l q av P SA SW /\ aW w0 W (fun y => n0 <= y)) 4
  ⟨0, sv, .slice none 0 0, [], fun _ => False, SW0, rfl, rfl, by omega, rfl, fun _ => ⟨by rw [aNB]; exact hs, hsv⟩, ⟨fun _ h => h.elim, fun _ h => h.elim, hSW, ⟨rfl, .inl ⟨rfl, rfl⟩⟩, hw, fun j s h => by simp at h, fun j h => by simp at h⟩, aW.refl _ _⟩ ?_
 rintro m t W ⟨i, sv', av, P, SA, SW, rfl, rfl, hi, hPl, hsv', hE, hx⟩
 obtain ⟨hA0, hAw, hS0, hal, hwr, hheld, hall⟩ := hE
 have zW := hx.size
 unfold DJ KA
 have hpW := hwr.lt
 have hal2 := hal
 obtain ⟨aa, ac, rfl⟩ := So hal
 have hfl : P.flatten.length <= 262144 := by
  have key : ∀ (Q : List (List UInt8)), (∀ s ∈ Q, s.length <= 65536) -> Q.flatten.length <= 65536 * Q.length := by
   intro Q
   induction Q with
   | nil => intro _; simp
   | cons s Q ih =>
     intro h
     have h1 := h s (aML ..)
     have h2 := ih fun t ht => h t (aLx _ ht)
     rw [aM0, aLh, aLw]; omega
  have := key P fun s hs => by
   obtain ⟨j, hj⟩ := List.getElem?_of_mem hs
   have h1 := hheld j s hj
   have h2 := tF hbits (bT (sg l q j))
   have h3 : (sg l q j).length <= 32768 := by rw [WH hq]; split <;> omega
   rw [iQ] at h2
   rw [h1.len, aLh, aL1]
   omega
  omega
 by_cases hlt : i < 4
 .have d1 : decide ((i : Int) < 4) = true := decide_eq_true (by omega)
  obtain ⟨hsb, hin⟩ := hsv' hlt
  obtain ⟨z, hz⟩ : ∃ z, z = if i < 3 then q else l.length - 3 * q := ⟨_, rfl⟩
  obtain ⟨hsg, hsd⟩ := aIS hlt hq
  rw [<- hz] at hsg hsd
  have hsl := WH (i := i) hq
  rw [<- hz] at hsl
  have hzq : z <= 32768 := by rw [hz]; split <;> omega
  have hiq : i * q <= 3 * q := aLG q (by omega)
  have hzl : z <= (l.drop (i * q)).length := by
   rw [aLs, hz]
   split
   .have : i * q <= 2 * q := aLG q (by omega)
    omega
   .omega
  have hix : (#[.int .i64 (q : Nat), .int .i64 (q : Nat), .int .i64 (q : Nat), .int .i64 ((l.length : Int) - 3 * (q : Int))] : Array aNF)[i]? = some (.int .i64 (z : Nat)) := by
   rcases (show i = 0 ∨ i = 1 ∨ i = 2 ∨ i = 3 by omega) with rfl | rfl | rfl | rfl
   .rw [hz] <;> rfl
   .rw [hz] <;> rfl
   .rw [hz] <;> rfl
   .rw [hz]
    have : ((l.length : Int) - 3 * (q : Int)) = ((l.length - 3 * q : Nat) : Int) := by omega
    simp [this]
  have hv := hsb
  obtain ⟨a, c, rfl, hc⟩ := hsb.len
  rw [aLk] at hv hc hin
  generalize hn : (l.drop (i * q)).length = n at *
  unfold JH KM Ux Lc
  simp (disch := omega) only [aD, aS, d1, jV, aK9, hix, aH, aLk, hn, aA, jH, eE, aG]
  have hseg : Bs W (.slice (mW a c 0 1) (z - 0) (c - 0)) (sg l q i) := by
   have := Sl.take' hv (k := z) hzl
   rw [<- aMZ, hsg] at this
   exact this
  refine (aDB (ho.ext hx (by omega)) hseg hC (by rw [hsl]; omega)).mono ?_
  rintro r W1 ⟨he, x1⟩
  have z1 := x1.size
  have y1 : aW w0 W1 (fun y => n0 <= y) := hx.trans x1 fun _ _ h => h.elim
  rcases he with ⟨⟨s, hs1, hs2⟩, rfl⟩ | ⟨hal1, v, bytes, rfl, hbs, hheld1, hat⟩
  .have n1 : ((1 : Int) != 0) = true := rfl
   simp (disch := omega) only [pT, pS, aA, cY, n1, aG]
   refine hbad W1 ⟨s, ?_, hs2⟩ y1
   have hsub : ∀ x ∈ sg l q i, x ∈ l := fun x hx => by
    unfold sg at hx
    split at hx
    .exact aNj (aMq hx)
    .exact aNj hx
   obtain ⟨x, hx1, hx2⟩ := aMl.1 hs1
   exact aMl.2 ⟨x, hsub x hx1, hx2⟩
  .have n1 : ((0 : Int) != 0) = false := rfl
   have hbl : bytes.length < 65536 := by
    have h1 := tF hbits (bT (sg l q i))
    rw [iQ, hsl] at h1
    rw [hheld1.len, aLh, aL1]
    omega
   have hbv := hbs
   obtain ⟨a2, c2, rfl, hc2⟩ := hbs.len
   rw [aLk] at hbv hat
   have e1 : (i : Int) + 1 = ((i + 1 : Nat) : Int) := by omega
   have hszl := aBJ P
   have fin : ∀ (W2 : aNE) (SW2 : Nat -> Prop), Cw W2 p SW2 (szs (P ++ [bytes])) -> aW W1 W2 (fun y => y = p ∨ SW y ∨ W1.heap.size <= y) -> (∀ y, SW2 y -> (SW y ∨ W1.heap.size <= y) /\ y < W2.heap.size) →
       aD pg (lG .append #[22, 22] 22 [.slice aa P.flatten.length ac, .slice a2 bytes.length c2]) W2 fun t69 w =>
        aD pg (aI .add 3 aM aM (.int .i64 i) (.int .i64 1)) w fun t70 w =>
         ∃ m, m < 4 - i /\ ∃ (i' : Nat) (sv' av : aNF) (P : List (List UInt8)) (SA SW : Nat -> Prop), m = 4 - i' /\ ((.slice (mW a c z 1) (n - z) (c - z) : aNF), t69, t70) = (sv', av, .int .i64 i') /\ i' <= 4 /\ P.length = i' /\ (i' < 4 -> Bs w sv' (l.drop (i' * q)) /\ ¬ inB sv' (fun y => n0 <= y)) /\
           aGD w p n0 C l q av P SA SW /\ aW w0 w (fun y => n0 <= y) := by
    intro W2 SW2 hw2 x2 hS2
    have z2 := x2.size
    have hbs2 : Bs W2 (.slice a2 bytes.length c2) bytes := hbv.ext x2 (hat _ fun y h1 h2 h3 => by
     rcases h3 with h3 | h3 | h3
     .omega
     .have := (hS0 y h3).2; omega
     .omega)
    have hcl := hbs2.cl
    rw [aLk] at hcl
    have hal3 : OSS W2 (fun y => SA y ∨ W2.heap.size <= y) 1 (.slice aa P.flatten.length ac) P.flatten.length (P.flatten.map sU) := by
     refine aE4 (Lp (Lp hal2 x1 (fun _ _ h => h)) x2 fun y hy h3 => ?_) fun y hy _ => .inl hy
     have h4 := hA0 y hy
     have h5 := hAw y hy
     rcases h3 with h3 | h3 | h3
     .exact h4.2.1 h3
     .exact h4.2.2 h3
     .omega
    refine zA (m := bytes.length) (news := bytes.map sU) (i := Tryz.t5) Tryz.underlying22 Tryz.underlying22 Sr rfl rfl rfl hal3 hcl (awD _) (fun y hy => .inr hy) (by omega) (by rw [show Tryz.t5.bytes = 1 from rfl]; omega) (by decide) fun v3 W3 o3 x3 => ?_
    have z3 := x3.size
    simp (disch := omega) only [aD, bK, e1, aP, aA]
    have y3 : aW w0 W3 (fun y => n0 <= y) := (y1.trans x2 fun y _ h => by
     rcases h with h | h | h
     .omega
     .exact (hS0 y h).1
     .omega).trans x3 fun y _ h => by
     rcases h with h | h
     .exact (hA0 y h).1
     .omega
    refine ⟨4 - (i + 1), by omega, i + 1, _, v3, P ++ [bytes], fun y => (SA y ∨ W2.heap.size <= y) /\ y < W3.heap.size, SW2, rfl, rfl, by omega, by rw [aLh, aL1, hPl], ?_, ⟨?_, fun y hy => hy.2, fun y hy => ?_, ?_, ?_, ?_, ?_⟩, y3⟩
    .intro hi4
     have hlt3 : i < 3 := by omega
     rw [if_pos hlt3] at hsd
     refine ⟨?_, anO hin (by omega)⟩
     have := Sl.drop' hv (k := z) hzl
     rw [<- aMS, hsd] at this
     refine Sl.ext (Sl.ext (Sl.ext this x1 (bZ _)) x2 ?_) x3 ?_
     .exact fun h => anO hin (by omega) (akG h fun y hy => by
       rcases hy with hy | hy | hy
       .omega
       .exact (hS0 y hy).1
       .omega)
     .exact fun h => anO hin (by omega) (akG h fun y hy => by
       rcases hy with hy | hy
       .exact (hA0 y hy).1
       .omega)
    .rintro y ⟨hy | hy, hy2⟩
     .have h4 := hA0 y hy
      refine ⟨h4.1, h4.2.1, fun h => ?_⟩
      have h5 := hAw y hy
      rcases (hS2 y h).1 with h6 | h6
      .exact h4.2.2 h6
      .omega
     .refine ⟨by omega, fun h => ?_, fun h => ?_⟩
      .have := hw2.lt; omega
      .have := (hS2 y h).2; omega
    .obtain ⟨h1, h2⟩ := hS2 y hy
     refine ⟨?_, by omega⟩
     rcases h1 with h1 | h1
     .exact (hS0 y h1).1
     .omega
    .rw [List.flatten_append, List.flatten_singleton, aLh, aLz]
     exact aE4 o3 fun y hy h => ⟨hy, h⟩
    .refine hw2.ext x3 (fun h => ?_) fun y hy h => ?_
     .rcases h with h | h
      .exact (hA0 p h).2.1 rfl
      .have := hw2.lt; omega
     .obtain ⟨h1, h2⟩ := hS2 y hy
      rcases h with h | h
      .rcases h1 with h1 | h1
       .exact (hA0 y h).2.2 h1
       .have := hAw y h; omega
      .omega
    .intro j s hj
     rcases aLv j P.length with hjl | hjl
     .rw [aLy hjl] at hj; exact hheld j s hj
     .rw [aMd hjl] at hj
      have : j - P.length = 0 := by
       rcases aMv (j - P.length) with h | h
       .exact h
       .rw [aLo (by simp; omega)] at hj; cases hj
      rw [this] at hj
      obtain rfl : bytes = s := by simpa using hj
      obtain rfl : j = i := by omega
      exact hheld1
    .intro j hj s hs
     rw [aLh, aL1] at hj
     rcases aLv j P.length with hjl | hjl
     .exact hall j hjl s hs
     .obtain rfl : j = i := by omega
      exact hal1 s hs
   have hwr1 : Cw W1 p (fun y => SW y ∨ W1.heap.size <= y) (szs P) := (hwr.ext x1 (fun h => h) (fun _ _ h => h)).turn (fun y hy _ => .inl hy) (fun h => by
    rcases h with h | h
    .exact hwr.1 h
    .omega)
   by_cases hi3 : i < 3
   .have d3 : decide ((i : Int) < 3) = true := decide_eq_true (by omega)
    have d4 : decide ((65536 : Int) <= (bytes.length : Int)) = false := decide_eq_false (by omega)
    have d5 : decide ((bytes.length : Int) ≥ 65536) = false := decide_eq_false (by omega)
    simp (disch := omega) only [aLk, pT, pS, d3, aG, aA, cY, n1, aE, aQ, fS, kS, nF, d4]
    refine (Wl (x := bytes.length) (n := 2) hwr1 (fun y hy => .inr hy) (by omega) (by omega) (by omega)).mono ?_
    rintro r W2 ⟨rfl, hw2, x2⟩
    unfold Ad Al
    have hsz : szs (P ++ [bytes]) = szs P ++ pV bytes.length 2 := by rw [aDf, if_pos (by omega)]
    rw [<- hsz] at hw2
    exact fin W2 (fun y => (SW y ∨ W1.heap.size <= y) /\ y < W2.heap.size) (hw2.turn (fun y hy h => ⟨hy, h⟩) (fun h => hw2.1 h.1)) x2 (fun y hy => hy)
   .have d3 : decide ((i : Int) < 3) = false := decide_eq_false (by omega)
    simp (disch := omega) only [aLk, pT, pS, d3, aE, aA, cY, n1]
    unfold Ad Al
    have hsz : szs (P ++ [bytes]) = szs P := by rw [aDf, if_neg (by omega)]
    rw [<- hsz] at hwr1
    exact fin W1 (fun y => (SW y ∨ W1.heap.size <= y) /\ y < W1.heap.size) (hwr1.turn (fun y hy h => ⟨hy, h⟩) (fun h => hwr1.1 h.1)) (aW.refl _ _) (fun y hy => hy)
 .have d1 : decide ((i : Int) < 4) = false := decide_eq_false (by omega)
  obtain rfl : i = 4 := by omega
  simp (disch := omega) only [aD, aS, d1, aA, aE]
  unfold Aj
  have hwr1 : Cw W p (fun y => SW y ∨ W.heap.size <= y) (szs P) := hwr.turn (fun y hy _ => .inl hy) (fun h => by
   rcases h with h | h
   .exact hwr.1 h
   .omega)
  have hszl := aBJ P
  refine (axF hwr1 (fun y hy => .inr hy) (aGF hal2) (by omega)).mono ?_
  rintro r W2 ⟨rfl, hw2, x2⟩
  refine (awB hw2 (by rw [aLh]; omega)).mono ?_
  rintro r W3 ⟨o3, x3⟩
  have z2 := x2.size
  have hat := sV.atI o3
  obtain ⟨a3, c3, rfl⟩ := o3.len
  refine hok W3 _ P hPl hheld ?_ o3.sl (fun M hM => hat M fun y h1 h2 => hM y (by omega) h2) ((hx.trans x2 fun y _ h => ?_).trans x3 fun _ _ h => h.elim)
  .intro s hs
   have hall' : ∀ j, j < 4 -> ∀ s ∈ bT (sg l q j), 0 < bitsOf C s := fun j hj => hall j (by omega)
   have := aHC (l := l) (q := q)
   rw [<- this] at hs
   simp only [bT, aLz, aLQ] at hs
   rcases hs with hs | hs | hs | hs
   .exact hall' 0 (by omega) s hs
   .exact hall' 1 (by omega) s hs
   .exact hall' 2 (by omega) s hs
   .exact hall' 3 (by omega) s hs
  .rcases h with h | h | h
   .omega
   .exact (hS0 y h).1
   .omega
theorem aBF {lv sv : aNF} {wl l : List UInt8} {w : aNE} (hw : Bs w lv wl) (hwl : wl.length <= 100000) (h : Bs w sv l) (hl : l.length <= 131072) :
 aT pg G3 #[lv, sv] w (fun r w' => aJG w' w.heap.size wl l (fun b => JA wl b l.length) (11 * l.length / 8 + 12) (l.length < 3 * ((l.length + 3) / 4)) r /\ aW w w' eT) := by
 refine aiN ?_
 unfold alZ HA Is
 by_cases hd : gQ (bT wl) = 0
 .refine (anL hw hwl hd).mono ?_
  rintro r w1 ⟨rfl, rfl⟩
  have n0 : ((1 : Int) != 0) = true := rfl
  simp (disch := omega) only [aD, pT, pS, aA, cY, n0, aG]
  exact ⟨.inl ⟨.inl hd, rfl⟩, aW.refl _ _⟩
 .refine (aBb hw rfl hd).mono ?_
  rintro r w1 ⟨b, rfl, hb, ob, x1⟩
  have n0 : ((0 : Int) != 0) = false := rfl
  have h1 := h.ext x1 (bZ _)
  have hv := h1
  obtain ⟨a, c, rfl, hc⟩ := h1.len
  rw [aLk] at hv ⊢
  obtain ⟨q, hq⟩ : ∃ q, q = (l.length + 3) / 4 := ⟨_, rfl⟩
  simp (disch := omega) only [aD, pT, pS, aQ, aA, cY, n0, aE]
  refine (aDz hl hq w1).mono ?_
  rintro r w2 ⟨rfl, x2⟩
  simp (disch := omega) only [pT, pS, aA, oP, bE]
  refine TD fun w3 o3 x3 s3 => ?_
  refine Wf o3 rfl (by simp [one]) (by simp) fun w4 o4 x4 s4 => ?_
  simp only [bM, aLd, aLc] at o4
  have x14 : aW w1 w4 eT := (x2.seq x3).trans x4 fun y hy h => by have := x2.size; omega
  have z1 := x1.size
  have z2 := x2.size
  have z14 := x14.size
  by_cases hbad : l.length < 3 * q
  .have d1 : decide (3 * (q : Int) <= (l.length : Int)) = false := decide_eq_false (by omega)
   simp (disch := omega) only [d1, aLE, jM, if_true, aG, cK]
   exact ⟨.inl ⟨.inr (.inl (by rw [<- hq]; exact hbad)), rfl⟩, x1.seq x14⟩
  .have d1 : decide (3 * (q : Int) <= (l.length : Int)) = true := decide_eq_true (by omega)
   have d2 : decide ((l.length : Int) > 131072) = false := decide_eq_false (by omega)
   have d3 : decide ((131072 : Int) < (l.length : Int)) = false := decide_eq_false (by omega)
   simp (disch := omega) only [d1, aLu, dI, aLb, if_false, bJ, aQ, aA, dE, d2, aE]
   refine (acZ w4).mono ?_
   rintro r w5 ⟨rfl, hlt5, hw5, x5⟩
   have z5 := x5.size
   unfold HO HU H0
   have q1 := aDr (off := 0) (o4.ext x5 (fun h => h)) (by simp)
   simp only [aLf, aLe, aLi] at q1
   simp (disch := omega) only [aD, q1, aA]
   have x15 : aW w1 w5 eT := x14.seq x5
   have hlc : wl.length = (wC wl).length := by rw [sS, iQ]
   rw [hlc]
   have hb1 := ob.lt
   refine aFU (b := b) (n0 := w4.heap.size) (q := q) (aGX hd) (ob.ext x15 (fun h => h)) (hv.ext x15 (bZ _)) (by omega) (by omega) (by omega) hl z5 (aLm _) (by omega) ?_ (SW0 := fun y => w4.heap.size < y /\ y < w5.heap.size) ?_ (fun y hy => ⟨by omega, hy.2⟩) ?_ ?_
   .exact fun hh => (hv.ext x14 (bZ _)).old hh
   .exact hw5.turn (fun y hy h => ⟨hy, h⟩) (fun h => by omega)
   .intro W hbd x6
    exact ⟨.inl ⟨.inr (.inr hbd), rfl⟩, ((x1.seq x15).trans x6 fun y hy h => by omega)⟩
   .intro W v P hP hheld hall hbs hat x6
    have z6 := x6.size
    refine ⟨.inr ⟨hd, hall, v, _, rfl, hbs, fun M hM => hat M fun y h1 h2 => hM y (by omega) h2, ?_, ?_⟩, (x1.seq x15).trans x6 fun y hy h => by omega⟩
    .have hP4 : ∀ (j : Nat) (s : List UInt8), P[j]? = some s -> 8 * s.length <= 11 * (if j < 3 then q else l.length - 3 * q) + 8 := fun j s hj => by
      have h1 := hheld j s hj
      have h2 := tF (aBv hd) (bT (sg l q j))
      have h3 := WH (l := l) (q := q) (i := j) (by omega)
      rw [iQ, h3] at h2
      rw [h1.len, aLh, aL1]
      omega
     have hs6 := aBJ P
     match P, hP with
     | [a, b, c, d], _ =>
       have h1 := hP4 0 a rfl
       have h2 := hP4 1 b rfl
       have h3 := hP4 2 c rfl
       have h4 := hP4 3 d rfl
       simp only [show (0 : Nat) < 3 from by omega, show (1 : Nat) < 3 from by omega, show (2 : Nat) < 3 from by omega, if_true, Nat.lt_irrefl, if_false] at h1 h2 h3 h4
       simp only [aLh, aM0, List.flatten_nil, List.length_nil]
       omega
    .show JA wl (szs P ++ P.flatten) l.length = _
     match P, hP with
     | [a, b, c, d], _ =>
       have e : [a, b, c, d].flatten = a ++ (b ++ (c ++ d)) := by simp
       rw [e]
       have hlen : ∀ (j : Nat) (s : List UInt8), [a, b, c, d][j]? = some s -> s.length < 65536 /\ rU (wC wl) s (sg l q j).length = .ok (bT (sg l q j)) := fun j s hj => by
        have hj4 : j < 4 := by
         rcases aLv j 4 with h | h
         .exact h
         .rw [aLo (by simpa using h)] at hj; cases hj
        have h1 := hheld j s hj
        have h2 := tF (aBv hd) (bT (sg l q j))
        have h3 : (sg l q j).length <= 32768 := by rw [WH (by omega)]; split <;> omega
        rw [iQ] at h2
        refine ⟨by rw [h1.len, aLh, aL1]; omega, aAH hd (fun x hx => hall x ?_) h1⟩
        have hsub : ∀ x ∈ sg l q j, x ∈ l := fun x hx => by
         unfold sg at hx
         split at hx
         .exact aNj (aMq hx)
         .exact aNj hx
        obtain ⟨y, hy1, hy2⟩ := aMl.1 hx
        exact aMl.2 ⟨y, hsub y hy1, hy2⟩
       obtain ⟨la, ha⟩ := hlen 0 a rfl
       obtain ⟨lb, hb⟩ := hlen 1 b rfl
       obtain ⟨lc, hc⟩ := hlen 2 c rfl
       obtain ⟨-, hdd⟩ := hlen 3 d rfl
       rw [hq] at ha hb hc hdd hbad
       exact aF3 hd (by omega) hl ha hb hc hdd la lb lc
end Go.Proofs.YtgpimhlgaokobaaGreat
namespace Go.Pu
open Go Go.En
structure LH where
 kind : Nat
 form : Nat
 size : Nat
 count : Nat
 bytes : Nat
def mF (kind form : Nat) : Nat := if kind < 2 then (if form = 1 then 2 else if form = 3 then 3 else 1) else (if form = 2 then 4 else if form = 3 then 5 else 3)
def QC (form : Nat) : Nat := if form = 2 then 14 else if form = 3 then 18 else 10
def qT (kind form : Nat) : Nat := if kind < 2 /\ mF kind form = 1 then 3 else 4
def tN (kind form : Nat) : Nat := if kind < 2 then 20 else QC form
def qI : List UInt8 -> LH × Int
 | [] => (⟨0, 0, 0, 0, 0⟩, 10)
 | c :: r =>
   if (c :: r).length < mF (c.toNat % 4) (c.toNat / 4 % 4) then (⟨c.toNat % 4, c.toNat / 4 % 4, mF (c.toNat % 4) (c.toNat / 4 % 4), 0, 0⟩, 10)
   else
    (⟨c.toNat % 4, c.toNat / 4 % 4, mF (c.toNat % 4) (c.toNat / 4 % 4),
      sE ((c :: r).take (mF (c.toNat % 4) (c.toNat / 4 % 4))) / 2 ^ qT (c.toNat % 4) (c.toNat / 4 % 4) % 2 ^ tN (c.toNat % 4) (c.toNat / 4 % 4),
      sE ((c :: r).take (mF (c.toNat % 4) (c.toNat / 4 % 4))) / 2 ^ qT (c.toNat % 4) (c.toNat / 4 % 4) / 2 ^ tN (c.toNat % 4) (c.toNat / 4 % 4)⟩,
      if 131072 < sE ((c :: r).take (mF (c.toNat % 4) (c.toNat / 4 % 4))) / 2 ^ qT (c.toNat % 4) (c.toNat / 4 % 4) % 2 ^ tN (c.toNat % 4) (c.toNat / 4 % 4) then 12 else 0)
theorem SK (k f : Nat) : 1 <= mF k f /\ mF k f <= 5 := by
 unfold mF; split <;> (try split) <;> (try split) <;> omega
theorem axD (f : Nat) : 10 <= QC f /\ QC f <= 18 := by
 unfold QC; split <;> (try split) <;> omega
theorem aHp (k f : Nat) : 3 <= qT k f /\ qT k f <= 4 := by
 unfold qT; split <;> omega
theorem aHs (k f : Nat) : 10 <= tN k f /\ tN k f <= 20 := by
 have := axD f
 unfold tN; split <;> omega
theorem aaV {l : List UInt8} {n : Nat} (h : n <= 5) : sE (l.take n) < 2 ^ 40 := by
 have h1 := Qm (l.take n)
 have h2 : (l.take n).length <= 5 := by rw [aLn]; omega
 have h3 : 256 ^ (l.take n).length <= 256 ^ 5 := aLj (by omega) h2
 have : (256 : Nat) ^ 5 = 2 ^ 40 := by decide
 omega
theorem aC1 {k f : Nat} {l : List UInt8} (hk : k < 2) : sE (l.take (mF k f)) / 2 ^ qT k f < 2 ^ 20 := by
 have h1 := Qm (l.take (mF k f))
 have h2 : (l.take (mF k f)).length <= mF k f := by rw [aLn]; omega
 have h3 : 256 ^ (l.take (mF k f)).length <= 256 ^ mF k f := aLj (by omega) h2
 rw [aMY (aLC _)]
 have h4 : 256 ^ mF k f <= 2 ^ 20 * 2 ^ qT k f := by
  unfold qT mF
  rw [if_pos hk]
  by_cases h1 : f = 1
  .subst h1; simp
  .by_cases h3 : f = 3
   .subst h3; simp
   .rw [if_neg h1, if_neg h3]; simp [hk]
 omega
end Go.Pu
namespace Go.Proofs.YtgpimhlgaokobaaGreat
open Go Go.En Go.Pu
set_option maxRecDepth 4000
theorem aCd {x n m : Nat} (h : m = n) : (x : Int).fdiv (2 ^ m) = ((x / 2 ^ n : Nat) : Int) := by
 subst h
 rw [aMI _ (by exact_mod_cast aM4 _)]
 push_cast
 rfl
theorem aBY {x n : Nat} (h : n <= 64) : (x : Int).fdiv (2 ^ min n IntKind.u64.bits) = ((x / 2 ^ n : Nat) : Int) := aCd (by have : IntKind.u64.bits = 64 := rfl; omega)
theorem aKb {x n : Nat} (h : n <= 8) : (x : Int).fdiv (2 ^ min n IntKind.u8.bits) = ((x / 2 ^ n : Nat) : Int) := aCd (by have : IntKind.u8.bits = 8 := rfl; omega)
theorem axS {x n : Nat} (hx : x < 2 ^ 63) (hn : n <= 62) : VF .u64 (x : Int) ((2 ^ n - 1 : Nat) : Int) = ((x % 2 ^ n : Nat) : Int) := by
 have hp : 2 ^ n <= 2 ^ 62 := aLj (by omega) hn
 unfold VF
 have e : IntKind.u64.bits = 64 := rfl
 rw [e, BitVec.ofInt_natCast, BitVec.ofInt_natCast, BitVec.toNat_and, BitVec.toNat_ofNat, BitVec.toNat_ofNat, aLP (by omega), aLP (by omega), Nat.and_two_pow_sub_one_eq_mod]
 have := Nat.mod_le x (2 ^ n)
 exact kS (by omega) (by omega)
theorem aBD {x : Nat} (h : x < 256) : VF .u8 (x : Int) 3 = ((x % 4 : Nat) : Int) := by
 have : ∀ k : Fin 256, VF .u8 (k.val : Int) 3 = ((k.val % 4 : Nat) : Int) := by decide +kernel
 exact this ⟨x, h⟩
def lhV (H : LH) : aNF := .agg #[.int .i64 (H.kind : Nat), .int .i64 (H.form : Nat), .int .i64 (H.size : Nat), .int .i64 (H.count : Nat), .int .i64 (H.bytes : Nat)]
def lh0 : aNF := .agg #[.int .i64 0, .int .i64 0, .int .i64 0, .int .i64 0, .int .i64 0]
theorem aCe {R : K1} {v : aNF} {l : List UInt8} {p2 p4 kd fm sz d b : Nat} {c : List aNF} {w : aNE} (hb : Bs w v l) (hl : l.length <= 1000000) (o2 : eM w p2 c) (hc : c.length = 5) (o4 : eM w p4 [.int .i64 (kd : Nat), .int .i64 (fm : Nat), .int .i64 (sz : Nat), .int .i64 0, .int .i64 0])
 (hne : p2 ≠ p4) (h1 : 1 <= sz) (h5 : sz <= 5) (hd : 3 <= d /\ d <= 4) (hbt : 10 <= b /\ b <= 20)
 (hk : ∀ w' r, (r = if l.length < sz then .tuple #[lh0, .int .i64 10] else if 131072 < sE (l.take sz) / 2 ^ d % 2 ^ b then .tuple #[lh0, .int .i64 12] else .tuple #[lhV ⟨kd, fm, sz, sE (l.take sz) / 2 ^ d % 2 ^ b, sE (l.take sz) / 2 ^ d / 2 ^ b⟩, .int .i64 0]) -> aW w w' (fun y => y = p2 ∨ y = p4) -> R r w') :
 qK R v (.pointer (some ⟨p2, 0, none⟩)) (.pointer (some ⟨p4, 0, none⟩)) (.int .i64 (d : Nat)) (.int .i64 (b : Nat)) w := by
 have hne' : p4 ≠ p2 := fun h => hne h.symm
 unfold qK
 refine (asM hb (by omega)).mono ?_
 rintro r w1 ⟨p, rfl, hr1, x1⟩
 have z1 := x1.size
 have hp := hr1.1
 have hp2 := hr1.2.1
 have l2 := o2.lt
 have l4 := o4.lt
 have o41 := o4.ext x1 (fun h => h)
 have o21 := o2.ext x1 (fun h => h)
 have k2 := o41.cell (off := 2)
 simp only [aK7, aK8] at k2
 simp (disch := omega) only [aD, bH, aLa, gY, aA, pE, aK9, bP, cF, bO, fE, k2, aH]
 refine (awY (n := sz) hr1 (by omega) ⟨h1, by omega⟩).mono ?_
 rintro r w2 ⟨rfl, hr2, x2⟩
 have o22 := o21.ext x2 (by omega)
 have o42 := o41.ext x2 (by omega)
 have x02 : aW w w2 eT := x1.trans x2 fun y hy h => by omega
 rcases aLv l.length sz with hs | hs
 .have ht : Aw l 0 sz = ([], l, 10) := by unfold Aw; rw [if_neg (by simp), if_pos hs]
  rw [ht] at hr2 ⊢
  simp only at hr2 ⊢
  have e1 := aBY (x := sE []) (n := d) (by omega)
  simp (disch := omega) only [sR, aK9, e1, aA, wK, bY]
  refine (avR hr2).mono ?_
  rintro r w3 ⟨rfl, rfl⟩
  have n1 : ((10 : Int) != 0) = true := rfl
  simp (disch := omega) only [cY, n1, aA, aG]
  refine (avR hr2).mono ?_
  rintro r w4 ⟨rfl, rfl⟩
  match c, hc with
  | [c0, c1, c2, c3, c4], _ =>
    refine rJ o22 rfl (by simp [one]) (by simp) fun w5 o5 x5 s5 => ?_
    refine AP o5 (by simp [bM]) ?_
    simp only [bM, aLd, aLc, aLf, aLe, aLi]
    exact hk w5 _ (by rw [if_pos hs] <;> rfl) ((x02.mono fun _ _ h => h.elim).seq (x5.mono fun _ _ h => .inl h))
 .have ht : Aw l 0 sz = (l.take sz, l.drop sz, 0) := by unfold Aw; rw [if_neg (by simp), if_neg (by omega)]
  rw [ht] at hr2 ⊢
  simp only at hr2 ⊢
  have hx := aaV (l := l) h5
  have e1 := aBY (x := sE (l.take sz)) (n := d) (by omega)
  have hy : sE (l.take sz) / 2 ^ d <= sE (l.take sz) := aMa _ _
  obtain ⟨Y, hY⟩ : ∃ Y, Y = sE (l.take sz) / 2 ^ d := ⟨_, rfl⟩
  rw [<- hY] at e1 hy hk
  have hpb : 2 ^ b <= 2 ^ 20 := aLj (by omega) hbt.2
  have hpb0 := aLC b
  simp (disch := omega) only [sR, aK9, e1, aA, wK, bY]
  refine (avR hr2).mono ?_
  rintro r w3 ⟨rfl, rfl⟩
  have n1 : ((0 : Int) != 0) = false := rfl
  have e2 : IntKind.u64.wrap (1 * 2 ^ min b IntKind.u64.bits) = ((2 ^ b : Nat) : Int) := by
   have h64 : IntKind.u64.bits = 64 := rfl
   rw [h64, aL3 (by omega), Int.one_mul]
   have : (2 : Int) ^ b = ((2 ^ b : Nat) : Int) := by push_cast; rfl
   rw [this]
   exact kS (by omega) (by omega)
  have e3 : IntKind.u64.wrap (((2 ^ b : Nat) : Int) - 1) = ((2 ^ b - 1 : Nat) : Int) := by rw [kS (by omega) (by omega)]; omega
  have e4 := axS (x := Y) (n := b) (by omega) (by omega)
  have e5 := aBY (x := Y) (n := b) (by omega)
  have hm1 := Nat.mod_le Y (2 ^ b)
  have hm2 := aMa Y (2 ^ b)
  have ew : ∀ z : Nat, z < 2 ^ 62 -> IntKind.i64.wrap (z : Int) = z := fun z hz => aP (by omega) (by omega)
  have e6 := ew (Y % 2 ^ b) (by omega)
  have e7 := ew (Y / 2 ^ b) (by omega)
  simp (disch := omega) only [cY, n1, e2, e3, e4, e6, e5, e7, aA, aE]
  refine pD o42 rfl (by simp) fun w4 o44 x4 s4 => ?_
  simp only [aLd, aLc] at o44
  try simp (disch := omega) only [true_and]
  refine pD o44 rfl (by simp) fun w5 o45 x5 s5 => ?_
  simp only [aLd, aLc] at o45
  have k3 := o45.cell (off := 3)
  simp only [aK7, aK8] at k3
  have x25 := x4.seq x5
  have o25 := o22.ext x25 hne
  have x05 : aW w w5 (fun y => y = p2 ∨ y = p4) := (x02.mono fun _ _ h => h.elim).seq (x25.mono fun _ _ h => .inr h)
  match c, hc with
  | [c0, c1, c2, c3, c4], _ =>
    by_cases hbig : 131072 < Y % 2 ^ b
    .have d1 : decide (131072 < ((Y % 2 ^ b : Nat) : Int)) = true := decide_eq_true (by omega)
     simp (disch := omega) only [k3, aH, aA, dE, d1, aG]
     refine rJ o25 rfl (by simp [one]) (by simp) fun w6 o6 x6 s6 => ?_
     refine AP o6 (by simp [bM]) ?_
     simp only [bM, aLd, aLc, aLf, aLe, aLi]
     exact hk w6 _ (by rw [if_neg (by omega), if_pos hbig] <;> rfl) (x05.seq (x6.mono fun _ _ h => .inl h))
    .have d1 : decide (131072 < ((Y % 2 ^ b : Nat) : Int)) = false := decide_eq_false (by omega)
     have q1 := Qu (off := 0) o45 (by simp)
     simp only [aLf, aLe, aLi] at q1
     simp (disch := omega) only [k3, aH, aA, dE, d1, q1, aE]
     refine rJ o25 rfl (by simp [one]) (by simp) fun w6 o6 x6 s6 => ?_
     refine AP o6 (by simp [bM]) ?_
     simp only [bM, aLd, aLc, aLf, aLe, aLi]
     exact hk w6 _ (by rw [if_neg (by omega), if_neg hbig] <;> rfl) (x05.seq (x6.mono fun _ _ h => .inl h))
def OpR (l : List UInt8) (r : aNF) : Prop := r = if (qI l).2 = 0 then .tuple #[lhV (qI l).1, .int .i64 0] else .tuple #[lh0, .int .i64 (qI l).2]
theorem aJn {x0 : UInt8} {rs : List UInt8} {kd fm : Nat} {r : aNF} (hk : kd = x0.toNat % 4) (hf : fm = x0.toNat / 4 % 4)
 (hr : r = if (x0 :: rs).length < mF kd fm then .tuple #[lh0, .int .i64 10] else if 131072 < sE ((x0 :: rs).take (mF kd fm)) / 2 ^ qT kd fm % 2 ^ tN kd fm then .tuple #[lh0, .int .i64 12] else .tuple #[lhV ⟨kd, fm, mF kd fm, sE ((x0 :: rs).take (mF kd fm)) / 2 ^ qT kd fm % 2 ^ tN kd fm, sE ((x0 :: rs).take (mF kd fm)) / 2 ^ qT kd fm / 2 ^ tN kd fm⟩, .int .i64 0]) : OpR (x0 :: rs) r := by
 subst hk hf
 by_cases h1 : (x0 :: rs).length < mF (x0.toNat % 4) (x0.toNat / 4 % 4)
 .rw [if_pos h1] at hr
  simp only [OpR, qI, if_pos h1]
  rw [hr] <;> rfl
 .rw [if_neg h1] at hr
  simp only [OpR, qI, if_neg h1]
  by_cases h2 : 131072 < sE ((x0 :: rs).take (mF (x0.toNat % 4) (x0.toNat / 4 % 4))) / 2 ^ qT (x0.toNat % 4) (x0.toNat / 4 % 4) % 2 ^ tN (x0.toNat % 4) (x0.toNat / 4 % 4)
  .rw [if_pos h2] at hr
   simp only [if_pos h2]
   rw [hr] <;> rfl
  .rw [if_neg h2] at hr
   simp only [if_neg h2]
   rw [hr] <;> rfl
theorem aHu {v : aNF} {l : List UInt8} {w : aNE} (h : Bs w v l) (hl : l.length <= 1000000) :
 aT pg AS #[v] w (fun r w' => OpR l r /\ aW w w' eT) := by
 refine XH ?_
 obtain ⟨RR, hRR⟩ : ∃ RR : aNF -> aNE -> Prop, RR = fun r w' => OpR l r /\ aW w w' eT := ⟨_, rfl⟩
 rw [<- hRR]
 unfold Uv Cv DZ
 refine B2 fun w1 o1 x1 s1 => ?_
 have z1 := x1.size
 rcases aMv l.length with h0 | h0
 .have hnil := aLI.1 h0
  obtain ⟨va, vn, vc, rfl, hvn, _⟩ := h
  rw [aLk, h0] at hvn
  subst hvn
  have n1 : (((0 : Nat) : Int) == 0) = true := rfl
  simp (disch := omega) only [aD, aQ, gY, aA, jJ, and_true, true_and, dQ, n1, aG]
  refine rJ o1 rfl (by simp [one]) (by simp) fun w2 o2 x2 s2 => ?_
  refine AP o2 (by simp [bM]) ?_
  simp only [bM, aLd, aLc, aLf, aLe, aLi]
  rw [hRR]
  refine ⟨?_, x1.new x2 (aLm _)⟩
  rw [hnil] <;> rfl
 .have hb := h
  obtain ⟨b, off, c, rfl, hc, hcell⟩ := O6 h h0
  obtain ⟨x0, rs, rfl⟩ : ∃ x0 rs, l = x0 :: rs := by
   cases l with
   | nil => simp at h0
   | cons x rs => exact ⟨x, rs, rfl⟩
  have hx0 : x0.toNat < 256 := aLO x0
  have g0 := hcell 0 h0
  rw [aMi] at g0
  have g0 : w.cell? ⟨b, off, none⟩ = some (.int .u8 (x0.toNat : Nat)) := g0
  have g1 := ajE g0 x1 (fun h => h)
  have gd : (dr w1).cell? ⟨b, off, none⟩ = some (.int .u8 (x0.toNat : Nat)) := g1
  have n1 : ((((x0 :: rs).length : Nat) : Int) == 0) = false := by simp; omega
  have t0 : (0 : Int).toNat = 0 := rfl
  have t2 : (2 : Int).toNat = 2 := rfl
  have e1 := aBD hx0
  have e2 := aKb (x := x0.toNat) (n := 2) (by omega)
  have e3 := aBD (x := x0.toNat / 2 ^ 2) (by have : x0.toNat / 2 ^ 2 <= x0.toNat := aMa _ _; omega)
  have ew : ∀ z : Nat, z < 2 ^ 62 -> IntKind.i64.wrap (z : Int) = z := fun z hz => aP (by omega) (by omega)
  obtain ⟨kd, hkd⟩ : ∃ kd, kd = x0.toNat % 4 := ⟨_, rfl⟩
  obtain ⟨fm, hfm⟩ : ∃ fm, fm = x0.toNat / 4 % 4 := ⟨_, rfl⟩
  have hfm2 : x0.toNat / 2 ^ 2 % 4 = fm := by rw [hfm]
  rw [<- hkd] at e1
  rw [hfm2] at e3
  have hkd4 : kd < 4 := by omega
  have hfm4 : fm < 4 := by omega
  have e4 := ew kd (by omega)
  have e5 := ew fm (by omega)
  have hpos : 0 < (x0 :: rs).length := h0
  simp (disch := omega) only [aD, aQ, gY, aA, dA, t0, aMi, jJ, Result.ok.injEq, Next.value.injEq, and_true, gS, true_and, dQ, n1, gd, aH, sR, t2, e2, wK, e3, dF, e5, e1, e4, gD, aE]
  refine B2 fun w2 o2 x2 s2 => ?_
  have g2 := ajE gd x2 (fun h => h)
  simp (disch := omega) only [g2, aH, and_true, true_and]
  refine rJ o2 rfl (by simp [one]) (by simp) fun w3 o3 x3 s3 => ?_
  simp only [bM, aLd, aLc] at o3
  have zd : (dr w1).heap.size = w1.heap.size := rfl
  rw [zd] at o3 x3 ⊢
  have x13 : aW w1 w3 eT := ((aW.dr w1 eT).seq x2).new x3 (by omega)
  have o13 := o1.ext x13 (fun h => h)
  have x03 := x1.seq x13
  have hb3 := h.ext x03 (bZ _)
  obtain ⟨p4, hp4⟩ : ∃ p, p = w1.heap.size := ⟨_, rfl⟩
  obtain ⟨p2, hp2⟩ : ∃ p, p = w.heap.size := ⟨_, rfl⟩
  have l1 := o1.lt
  rw [<- hp4] at o3 ⊢
  rw [<- hp2] at o13 ⊢
  have hne : p2 ≠ p4 := by omega
  have k0 := o3.cell (off := 0)
  simp only [aK7, aK8] at k0
  have fin : ∀ (w4 : aNE) (sz d bt : Nat), sz = mF kd fm -> d = qT kd fm -> bt = tN kd fm -> eM w4 p4 [.int .i64 (kd : Nat), .int .i64 (fm : Nat), .int .i64 (sz : Nat), .int .i64 0, .int .i64 0] -> aW w3 w4 (fun y => y = p4) →
      qK RR (.slice (some ⟨b, off, none⟩) (x0 :: rs).length c) (.pointer (some ⟨p2, 0, none⟩)) (.pointer (some ⟨p4, 0, none⟩)) (.int .i64 (d : Nat)) (.int .i64 (bt : Nat)) w4 := by
   intro w4 sz d bt h1 h2 h3 o4 x4
   subst h1 h2 h3
   have x04 : aW w w4 eT := x03.trans x4 fun y hy h => by omega
   refine aCe (h.ext x04 (bZ _)) hl (o13.ext x4 hne) rfl o4 hne (SK _ _).1 (SK _ _).2 (aHp _ _) (aHs _ _) fun w5 r hr x5 => ?_
   rw [hRR]
   exact ⟨aJn hkd hfm hr, x04.trans x5 fun y hy h => by omega⟩
  unfold D5 El DW
  simp (disch := omega) only [aD, cM, aA, bO, k0, aH]
  unfold Ek PO Ep
  have k1 := o3.cell (off := 1)
  simp only [aK7, aK8] at k1
  have t1 : (1 : Int).toNat = 1 := rfl
  have t3 : (3 : Int).toNat = 3 := rfl
  have c0 : (((0 : Nat) : Int)).toNat = 0 := rfl
  have c1 : (((1 : Nat) : Int)).toNat = 1 := rfl
  have c2 : (((2 : Nat) : Int)).toNat = 2 := rfl
  have c3 : (((3 : Nat) : Int)).toNat = 3 := rfl
  by_cases hk2 : kd < 2
  .have P2 : lC (fun dY t2 wG pF oM w => qK RR dY t2 wG pF oM w) (.slice (some ⟨b, off, none⟩) (x0 :: rs).length c) (.pointer (some ⟨p2, 0, none⟩)) (.pointer (some ⟨p4, 0, none⟩)) (.int .i64 4) (.int .i64 20) (.bool true) w3 := by
    rcases (show fm = 0 ∨ fm = 1 ∨ fm = 2 ∨ fm = 3 by omega) with rfl | rfl | rfl | rfl
    .unfold lC
     simp (disch := omega) only [aD, dJ, cB, aLa, bH, aA, bO, k1, aH, jV, c0, aG]
     refine pD o3 rfl (by simp) fun w4 o4 x4 s4 => ?_
     simp only [aLd, aLc] at o4
     have k2 := o4.cell (off := 2)
     have k1' := o4.cell (off := 1)
     simp only [aK7, aK8] at k2 k1'
     have n5 : ((1 : Int) == 1) = true := rfl
     simp (disch := omega) only [k2, aH, aA]
     exact fin w4 1 3 20 (by unfold mF; rw [if_pos hk2] <;> rfl) (by unfold qT mF; simp [hk2]) (by unfold tN; rw [if_pos hk2]) o4 x4
    .unfold lC
     simp (disch := omega) only [aD, dJ, cB, aLa, bH, aA, bO, k1, aH, jV, c1, aG]
     refine pD o3 rfl (by simp) fun w4 o4 x4 s4 => ?_
     simp only [aLd, aLc] at o4
     have k2 := o4.cell (off := 2)
     have k1' := o4.cell (off := 1)
     simp only [aK7, aK8] at k2 k1'
     have n5 : ((2 : Int) == 1) = false := rfl
     simp (disch := omega) only [k2, aH, aA]
     exact fin w4 2 4 20 (by unfold mF; rw [if_pos hk2] <;> rfl) (by unfold qT mF; simp [hk2]) (by unfold tN; rw [if_pos hk2]) o4 x4
    .unfold lC
     simp (disch := omega) only [aD, dJ, cB, aLa, bH, aA, bO, k1, aH, jV, c2, aG]
     refine pD o3 rfl (by simp) fun w4 o4 x4 s4 => ?_
     simp only [aLd, aLc] at o4
     have k2 := o4.cell (off := 2)
     have k1' := o4.cell (off := 1)
     simp only [aK7, aK8] at k2 k1'
     have n5 : ((1 : Int) == 1) = true := rfl
     simp (disch := omega) only [k2, aH, aA]
     exact fin w4 1 3 20 (by unfold mF; rw [if_pos hk2] <;> rfl) (by unfold qT mF; simp [hk2]) (by unfold tN; rw [if_pos hk2]) o4 x4
    .unfold lC
     simp (disch := omega) only [aD, dJ, cB, aLa, bH, aA, bO, k1, aH, jV, c3, aG]
     refine pD o3 rfl (by simp) fun w4 o4 x4 s4 => ?_
     simp only [aLd, aLc] at o4
     have k2 := o4.cell (off := 2)
     have k1' := o4.cell (off := 1)
     simp only [aK7, aK8] at k2 k1'
     have n5 : ((3 : Int) == 1) = false := rfl
     simp (disch := omega) only [k2, aH, aA]
     exact fin w4 3 4 20 (by unfold mF; rw [if_pos hk2] <;> rfl) (by unfold qT mF; simp [hk2]) (by unfold tN; rw [if_pos hk2]) o4 x4
   rcases (show kd = 0 ∨ kd = 1 by omega) with rfl | rfl
   .have n2 : (((0 : Nat) : Int) == 0) = true := rfl
    simp (disch := omega) only [aD, dQ, n2, aA, aG]
    exact P2
   .have n2 : (((1 : Nat) : Int) == 0) = false := rfl
    have n3 : (((1 : Nat) : Int) == 1) = true := rfl
    simp (disch := omega) only [aD, dQ, n2, n3, aA, aE]
    exact P2
  .have n2 : ((kd : Int) == 0) = false := by simp; omega
   have n3 : ((kd : Int) == 1) = false := by simp; omega
   simp (disch := omega) only [aD, dQ, n2, n3, aA, aE]
   rcases (show fm = 0 ∨ fm = 1 ∨ fm = 2 ∨ fm = 3 by omega) with rfl | rfl | rfl | rfl
   .unfold lC
    simp (disch := omega) only [aD, dJ, cB, aLa, bH, aA, bO, k1, aH, jV, c0, aE]
    refine pD o3 rfl (by simp) fun w4 o4 x4 s4 => ?_
    simp only [aLd, aLc] at o4
    have k2 := o4.cell (off := 2)
    have k1' := o4.cell (off := 1)
    simp only [aK7, aK8] at k2 k1'
    simp (disch := omega) only [k1', aH, aA, jV, c0]
    exact fin w4 3 4 10 (by unfold mF; rw [if_neg hk2] <;> rfl) (by unfold qT; rw [if_neg (fun h => hk2 h.1)]) (by unfold tN; rw [if_neg hk2] <;> rfl) o4 x4
   .unfold lC
    simp (disch := omega) only [aD, dJ, cB, aLa, bH, aA, bO, k1, aH, jV, c1, aE]
    refine pD o3 rfl (by simp) fun w4 o4 x4 s4 => ?_
    simp only [aLd, aLc] at o4
    have k2 := o4.cell (off := 2)
    have k1' := o4.cell (off := 1)
    simp only [aK7, aK8] at k2 k1'
    simp (disch := omega) only [k1', aH, aA, jV, c1]
    exact fin w4 3 4 10 (by unfold mF; rw [if_neg hk2] <;> rfl) (by unfold qT; rw [if_neg (fun h => hk2 h.1)]) (by unfold tN; rw [if_neg hk2] <;> rfl) o4 x4
   .unfold lC
    simp (disch := omega) only [aD, dJ, cB, aLa, bH, aA, bO, k1, aH, jV, c2, aE]
    refine pD o3 rfl (by simp) fun w4 o4 x4 s4 => ?_
    simp only [aLd, aLc] at o4
    have k2 := o4.cell (off := 2)
    have k1' := o4.cell (off := 1)
    simp only [aK7, aK8] at k2 k1'
    simp (disch := omega) only [k1', aH, aA, jV, c2]
    exact fin w4 4 4 14 (by unfold mF; rw [if_neg hk2] <;> rfl) (by unfold qT; rw [if_neg (fun h => hk2 h.1)]) (by unfold tN; rw [if_neg hk2] <;> rfl) o4 x4
   .unfold lC
    simp (disch := omega) only [aD, dJ, cB, aLa, bH, aA, bO, k1, aH, jV, c3, aE]
    refine pD o3 rfl (by simp) fun w4 o4 x4 s4 => ?_
    simp only [aLd, aLc] at o4
    have k2 := o4.cell (off := 2)
    have k1' := o4.cell (off := 1)
    simp only [aK7, aK8] at k2 k1'
    simp (disch := omega) only [k1', aH, aA, jV, c3]
    exact fin w4 5 4 18 (by unfold mF; rw [if_neg hk2] <;> rfl) (by unfold qT; rw [if_neg (fun h => hk2 h.1)]) (by unfold tN; rw [if_neg hk2] <;> rfl) o4 x4
theorem aIa {n : Nat} {w : aNE} (hn : n <= 131072) :
 aT pg Ba #[.int .u64 1, .int .u64 n] w (fun r w' => r = .tuple #[.int .u64 0, .int .u64 n] /\ aW w w' eT) := by
 refine XI ?_
 unfold UR DO
 have a1 : VF .u64 1 4294967295 = 1 := by decide
 have a2 : VF .u64 (n : Int) 4294967295 = n := by
  have := axS (x := n) (n := 32) (by omega) (by omega)
  rw [aLP (by omega)] at this
  exact this
 have a0 : VF .u64 0 4294967295 = 0 := by decide
 have s1 : (1 : Int).fdiv (2 ^ min 32 IntKind.u64.bits) = 0 := by decide
 have s0 : (0 : Int).fdiv (2 ^ min 32 IntKind.u64.bits) = 0 := by decide
 have s2 : (n : Int).fdiv (2 ^ min 32 IntKind.u64.bits) = 0 := by
  rw [aBY (by omega), aNz (by omega)] <;> rfl
 have t32 : (32 : Int).toNat = 32 := rfl
 have w0 : IntKind.u64.wrap 0 = 0 := rfl
 have w1 : IntKind.u64.wrap (n : Int) = n := kS (by omega) (by omega)
 simp (disch := omega) only [aD, wK, a1, sR, t32, s1, a2, s2, oN, Int.one_mul, w1, aA, Int.zero_mul, w0, Int.mul_zero, bK, Int.add_zero, a0, s0, true_and]
 exact aW.refl _ _
theorem aKu {n : Nat} {w : aNE} (hn : n <= 131072) :
 aT pg Dq #[.int .u64 1, .int .u64 n] w (fun r w' => r = .tuple #[.int .u64 0, .int .u64 n] /\ aW w w' eT) := by
 refine abI ?_
 unfold Zd Ic
 simp (disch := omega) only [aD, kM, Ma, aA, aE]
 refine (aIa hn).mono ?_
 rintro r w1 ⟨rfl, x1⟩
 simp (disch := omega) only [pT, pS, aA, true_and]
 exact x1
theorem aJz {z v : aNF} {i n : Nat} (hi : i <= n) : bM (List.replicate i v ++ List.replicate (n - i) z) i ((List.replicate i v).take (min i (n - i))) = List.replicate (i + min i (n - i)) v ++ List.replicate (n - (i + min i (n - i))) z := by
 have e : (List.replicate i v).take (min i (n - i)) = List.replicate (min i (n - i)) v := by
  rw [List.take_replicate]; congr 1; omega
 rw [e]
 generalize hm : min i (n - i) = m
 have hm2 : i + m <= n := by omega
 clear hm e
 induction m generalizing i with
 | zero => simp [bM]
 | succ m ih =>
   rw [aLT]
   simp only [bM]
   rw [show (List.replicate i v ++ List.replicate (n - i) z).set i v = List.replicate (i + 1) v ++ List.replicate (n - (i + 1)) z from ?_]
   .rw [ih (i := i + 1) (by omega) (by omega), show i + 1 + m = i + (m + 1) from by omega]
   .rw [aMO _ _ (by simp), aLV, aMR, show n - i = (n - (i + 1)) + 1 from by omega, aLT, aLd, aM3, aLF]
    rfl
theorem aF1 {c : UInt8} {n p : Nat} {w3 : aNE} {RR : aNF -> aNE -> Prop} (hn : n <= 131072) (o3 : eM w3 p (List.replicate (min 1 n) (sU c) ++ List.replicate (n - min 1 n) (.int .u8 0)))
 (hk : ∀ w4, eM w4 p (List.replicate n (sU c)) -> aW w3 w4 (fun y => y = p) -> RR (.slice (some ⟨p, 0, none⟩) n n) w4) :
 vU RR (.slice (some ⟨p, 0, none⟩) n n) (.int .i64 (min 1 n : Nat)) w3 := by
 unfold vU AF AJ
 refine cS.rule (fun m (t : aNF) w' => ∃ i : Nat, m = n - i /\ t = .int .i64 i /\ i <= n /\ (1 <= i ∨ n = 0) /\ eM w' p (List.replicate i (sU c) ++ List.replicate (n - i) (.int .u8 0)) /\ aW w3 w' (fun y => y = p)) (n - min 1 n)
  ⟨min 1 n, rfl, rfl, by omega, by omega, o3, aW.refl _ _⟩ ?_
 rintro m t w4 ⟨i, rfl, rfl, hi, h0, o4, x4⟩
 unfold vK
 by_cases hlt : i < n
 .have d5 : decide ((i : Int) < (n : Int)) = true := by simp; omega
  have q1 : (i : Int).toNat = i := aK9 _
  have s1 : mW (some (⟨p, 0, none⟩ : Addr)) n i 1 = some ⟨p, 0 + i, none⟩ := axC (by omega)
  have s2 : mW (some (⟨p, 0, none⟩ : Addr)) n 0 1 = some ⟨p, 0 + 0, none⟩ := axC (by omega)
  simp (disch := omega) only [aD, aQ, eE, q1, s1, aLa, jH, s2, Nat.sub_zero, true_and, aA, aS, d5, aG]
  have hs : Bs (dr w4) (.slice (some ⟨p, 0, none⟩) i n) (List.replicate i c) := by
   have := (kA o4).bs (off := 0) (c := n) (l := List.replicate i c) (by simp; omega) (fun j hj => by
    rw [aLV] at hj
    rw [aLa, aLy (by simp; omega)]
    simp [aMz, hj])
   rw [aLV] at this
   exact this
  refine asA (off := i) (dl := n - i) (kA o4) (by simp) hs (by simp [one, sU]) fun w5 o5 x5 s5 => ?_
  have hm5 : (List.map sU (List.replicate i c)).length = i := by simp
  rw [hm5, aNu, aJz hi] at o5
  rw [hm5]
  have e5 : (i : Int) + ((min i (n - i) : Nat) : Int) = ((i + min i (n - i) : Nat) : Int) := by omega
  have wi5 : IntKind.i64.wrap ((i + min i (n - i) : Nat) : Int) = ((i + min i (n - i) : Nat) : Int) := aP (by omega) (by omega)
  simp (disch := omega) only [bK, e5, wi5, aA, true_and]
  exact ⟨n - (i + min i (n - i)), by omega, i + min i (n - i), rfl, rfl, by omega, by omega, o5, x4.seq ((aW.dr w4 _).seq x5)⟩
 .have d5 : decide ((i : Int) < (n : Int)) = false := by simp; omega
  have hin : i = n := by omega
  rw [hin, aMR, List.replicate_zero, aLX] at o4
  simp (disch := omega) only [aD, aQ, eE, aK9, jH, true_and, aA, aS, d5, aE]
  unfold vM
  exact hk w4 o4 x4
theorem aH2 {v : aNF} {c : UInt8} {n : Nat} {w : aNE} (h : Bs w v [c]) (hn : n <= 131072) :
 aT pg wL #[v, .int .i64 n] w (fun r w' => sV w' w.heap.size 1 r n (List.replicate n (sU c)) /\ aW w w' eT) := by
 refine S7 ?_
 obtain ⟨RR, hRR⟩ : ∃ RR : aNF -> aNE -> Prop, RR = fun r w' => sV w' w.heap.size 1 r n (List.replicate n (sU c)) /\ aW w w' eT := ⟨_, rfl⟩
 rw [<- hRR]
 obtain ⟨b, off, cap, rfl, hc, hcell⟩ := O6 h (by simp)
 have hl1 : ([c] : List UInt8).length = 1 := rfl
 rw [hl1] at *
 have d0 : decide ((n : Int) < 0) = false := decide_eq_false (by omega)
 have e1 : ((1 : Nat) : Int) = 1 := rfl
 have wn : IntKind.u64.wrap (n : Int) = n := kS (by omega) (by omega)
 have w1 : IntKind.u64.wrap 1 = 1 := rfl
 unfold PH zI zT
 simp (disch := omega) only [aD, aS, d0, aA, aE]
 unfold AI AH
 simp (disch := omega) only [aD, aQ, e1, fW, wn, aA, w1]
 refine (aKu hn).mono ?_
 rintro r w1 ⟨rfl, x1⟩
 have d1 : decide ((0 : Int) > 0) = false := rfl
 have d2 : decide ((n : Int) > 9223372036854775807) = false := decide_eq_false (by omega)
 have d3 : decide ((9223372036854775807 : Int) < (n : Int)) = false := decide_eq_false (by omega)
 have d4 : decide ((0 : Int) < 0) = false := rfl
 simp (disch := omega) only [pT, pS, aA, dE, d1, dI, bE, aLb, if_false, bJ, d2, aE]
 unfold AB AL
 have wi : IntKind.i64.wrap (n : Int) = n := aP (by omega) (by omega)
 simp (disch := omega) only [aD, oE, wi, aA]
 refine asO (by omega) (by omega) fun w2 o2 x2 s2 => ?_
 simp only [aK9] at o2 ⊢
 have z1 := x1.size
 have z2 := x2.size
 have x02 := x1.seq x2
 have h2 := h.ext x02 (bZ _)
 obtain ⟨p, hp⟩ : ∃ p, p = w1.heap.size := ⟨_, rfl⟩
 rw [<- hp] at o2 ⊢
 refine asA (off := 0) o2 (by simp) h2 (by simp [one, sU]) fun w3 o3 x3 s3 => ?_
 have hmn : min (List.map sU [c]).length n = min 1 n := rfl
 rw [hmn] at o3 ⊢
 have hs3 : bM (List.replicate n (Value.int .u8 0)) 0 ((List.map sU [c]).take (min 1 n)) = List.replicate (min 1 n) (sU c) ++ List.replicate (n - min 1 n) (.int .u8 0) := by
  rcases aMv n with rfl | hp
  .rfl
  .rw [show min 1 n = 1 from by omega]
   obtain ⟨m, rfl⟩ : ∃ m, n = m + 1 := ⟨n - 1, by omega⟩
   rfl
 rw [hs3] at o3
 have x13 : aW w1 w3 eT := x2.new x3 (by omega)
 have x03 := x1.seq x13
 refine aF1 hn o3 fun w4 o4 x4 => ?_
 have z4 := x4.size
 have x04 : aW w w4 eT := x03.trans x4 fun y hy h => by omega
 rw [hRR]
 exact ⟨⟨by rw [aLV, aMy], .inr ⟨p, n, [], rfl, by omega, by rw [aLX]; exact o4, by rw [aLX, aLV, aMy], aLm _⟩⟩, x04⟩
def m3 (L : List Int) : List T3 := L.map fun x => (x, 0, 0)
theorem aJq (L : List Int) (i : Nat) (h : i < L.length) (x : Int) : (m3 L).set i (x, ((m3 L)[i]'(by simpa [m3] using h)).2) = m3 (L.set i x) := by
 unfold m3; rw [aNt]; simp
theorem ayK {k : IntKind} {L : List Int} {i : Nat} (h : i < L.length) (x : Int) : (fe k (m3 L)).set (i * 3) (.int k x) = fe k (m3 (L.set i x)) := by
 rw [(aqV k (m3 L) i (by simpa [m3] using h) x).1, aJq L i h x]
theorem ayI (n high s : Nat) (r : List Nat) (a : Nat) (arr : List Int) : place n high (s :: r) a arr = place n high r (afQ n high n (adv n a)) (arr.set a s) := rfl
theorem aAG {ps : List Int} {i : Nat} (h : i < ps.length) : tI (ps.drop i) i = List.replicate ps[i].toNat i ++ tI (ps.drop (i + 1)) (i + 1) := by
 rw [aLK h, tI]
theorem aJU {w0 w : aNE} {N high j : Nat} (hN : 0 < N) (hN2 : N <= 32768) (hh : 0 < high) (hhN : high <= N) (hx : aW w0 w eT)
 {ov sv a b c d e : aNF} {k : aNF -> aNF -> aNF -> aNF -> aNF -> aNF -> aNF -> aNF -> aNF -> aNF -> aNE -> Prop}
 (hk : ∃ j', afQ N high N (adv N (pos N j)) = pos N j' /\ k (.int .i64 N) ov (.int .i64 high) (.int .i64 (pos N j' : Nat)) sv a b c d e w) :
 I1 k (.int .i64 N) ov (.int .i64 high) (.int .i64 (pos N j : Nat)) sv a b c d e w := by
 obtain ⟨dd, h1, h2, h3⟩ := XN hN hh (j + 1)
 obtain ⟨j', hj', hk⟩ := hk
 rw [Mh, h3] at hj'
 rw [<- hj'] at hk
 unfold I1
 refine cS.rule (fun m t w' => ∃ q : Nat, m = dd - q /\ t = .int .i64 (pos N (j + q) : Nat) /\ q <= dd /\ w' = w) dd ⟨0, rfl, rfl, by omega, rfl⟩ ?_
 rintro m t w' ⟨q, rfl, rfl, hq, rfl⟩
 have hp := awG hN (j + q)
 have e1 : ((N : Int)).fdiv (2 ^ (min 1 IntKind.i64.bits)) = ((N / 2 : Nat) : Int) := by
  have : (2 : Int) ^ (min 1 IntKind.i64.bits) = ((2 : Nat) : Int) := by decide
  rw [this, ayU]
 have e3 : ((N : Int)).fdiv (2 ^ (min 3 IntKind.i64.bits)) = ((N / 8 : Nat) : Int) := by
  have : (2 : Int) ^ (min 3 IntKind.i64.bits) = ((8 : Nat) : Int) := by decide
  rw [this, ayU]
 have t1 : (1 : Int).toNat = 1 := rfl
 have t3 : (3 : Int).toNat = 3 := rfl
 have e4 : (((pos N (j + q) : Nat) : Int) + ((N / 2 : Nat) : Int) + ((N / 8 : Nat) : Int) + 3).tmod (N : Int) = ((pos N (j + q + 1) : Nat) : Int) := by
  rw [aLB (by omega), <- Mh]
  unfold adv
  simp
 unfold Jb
 by_cases hd : q = dd
 .subst hd
  have d1 : decide (((pos N (j + q + 1) : Nat) : Int) < (high : Int)) = true := by
   simp only [decide_eq_true_eq]
   rw [show j + 1 + q = j + q + 1 from by omega] at h2
   omega
  simp (disch := omega) only [aD, sR, t1, e1, t3, e3, aA, bK, aP, rD, e4, aS, d1, and_true, aG]
  rw [show j + 1 + q = j + q + 1 from by omega] at hk
  exact hk
 .have d1 : decide (((pos N (j + q + 1) : Nat) : Int) < (high : Int)) = false := by
   have := h1 q (by omega)
   rw [show j + 1 + q = j + q + 1 from by omega] at this
   simp only [decide_eq_false_iff_not]
   omega
  simp (disch := omega) only [aD, sR, t1, e1, t3, e3, aA, bK, aP, rD, e4, aS, d1, and_true, aE]
  exact ⟨dd - (q + 1), by omega, q + 1, rfl, rfl, by omega⟩
theorem aCW {log : Nat} {sv : aNF} {ps : List Int} {w : aNE} (hm : May log ps) (hs : Sl w sv (ps.map (Value.int .i64))) :
 aT pg Gh #[.agg #[.int .i64 log, sv]] w (fun r w' => ∃ b, r = .slice (some ⟨b, 0, none⟩) (2 ^ log) (2 ^ log) /\ w.heap.size <= b /\ eM w' b (fe .u8 (m3 (rH 0 log ps))) /\ aW w w' eT) := by
 refine auD ?_
 have h5 := hm.log5
 have h15 := hm.log15
 have hlen := hm.len256
 obtain ⟨arr0, ht, hal, hsum, hfin⟩ := asF hm 0
 rw [hfin]
 have hN1 : 2 ^ 5 <= 2 ^ log := aLj (by omega) h5
 have hN2 : 2 ^ log <= 2 ^ 15 := aLj (by omega) h15
 have hsh : IntKind.i64.wrap (1 * 2 ^ (min log IntKind.i64.bits)) = ((2 ^ log : Nat) : Int) := by
  have : ∀ k : Fin 16, IntKind.i64.wrap (1 * 2 ^ (min k.val IntKind.i64.bits)) = ((2 ^ k.val : Nat) : Int) := by decide
  exact this ⟨log, by omega⟩
 clear hfin
 generalize hN : 2 ^ log = N at *
 generalize hhigh : (tI ps 0).length = high at *
 unfold ayR O5 OE
 refine nO fun w1 o1 x1 s1 => ?_
 have hs1 := hs.ext x1 (bZ _)
 have c0 := o1.cell (off := 0)
 have c1 := o1.cell (off := 1)
 simp only [Value.cells, aK7, aK8] at c0 c1
 obtain ⟨a, c, rfl, hc⟩ := hs.lenI
 simp (disch := omega) only [aD, bW, aA, bO, c0, aH, pE, aK9, hsh]
 refine aoD (by omega) (by omega) fun w2 o2 x2 s2 => ?_
 rw [aK9, aE3] at o2
 rw [aK9]
 have o2 : eM w2 w1.heap.size (fe .u8 (m3 (List.replicate N 0))) := by unfold m3; rw [aNu]; exact o2
 have x02 : aW w w2 eT := x1.seq x2
 have ob2 := o1.ext x2 (fun h => h)
 have c1 := ob2.cell (off := 1)
 simp only [Value.cells, aK7, aK8] at c1
 unfold OT Nl M4 Nz O1
 simp (disch := omega) only [aD, bL, aLa, aA, dT, c1, aH, gB]
 have hw1 : w.heap.size <= w1.heap.size := x1.size
 refine cS.rule (fun m t w' => ∃ (i hg : Nat) (arr : List Int), m = ps.length - i /\ t = (.int .i64 hg, .int .i64 i) /\ i <= ps.length /\ (wJ (ps.drop i) i).length <= hg /\ hg <= N /\ arr.length = N /\ abW (ps.drop i) i hg arr = (high, arr0) /\ eM w' w1.heap.size (fe .u8 (m3 arr)) /\ aW w w' eT /\ eM w' w.heap.size (Value.cells (.agg #[.int .i64 log, .slice a ps.length c])).toList) ps.length
  ⟨0, N, _, rfl, rfl, by omega, by rw [aLf]; omega, by omega, by simp, by rw [aLf]; exact ht, o2, x02, ob2⟩ ?_
 rintro m t w3 ⟨i, hg, arr, rfl, rfl, hi, hng, hgN, harr, htop, o3, x3, ob3⟩
 by_cases hlt : i < ps.length
 .have d1 : decide ((i : Int) < (ps.length : Int)) = true := by simp; omega
  obtain ⟨b', off', c', e, _, hcell⟩ := (hs.ext x3 (bZ _)).openI (by omega)
  cases e
  have g1 := hcell i hlt
  have hd : ps.drop i = ps[i] :: ps.drop (i + 1) := aLK hlt
  rw [hd, wJ] at hng
  rw [hd, abW] at htop
  unfold BR GB Fx
  by_cases hp : ps[i] = -1
  .have d2 : (ps[i] == -1) = true := by simpa using hp
   rw [if_pos hp] at hng htop
   simp only [aLw] at hng
   have e1 : (hg : Int) - 1 = ((hg - 1 : Nat) : Int) := by omega
   simp (disch := omega) only [aD, aS, d1, iD, aK9, fE, e1, aP, eS, xK, bK, aA, gW, aLa, eK, bO, g1, aH, dQ, d2, aG]
   refine VS o3 rfl (by rw [pY]; simp [m3]; omega) fun w4 o4 x4 s4 => ?_
   rw [ayK (by omega)] at o4
   exact ⟨ps.length - (i + 1), by omega, i + 1, hg - 1, _, rfl, rfl, by omega, by omega, by omega, by simp [harr], htop, o4, x3.new x4 hw1, ob3.ext x4 (by omega)⟩
  .have d2 : (ps[i] == -1) = false := by simpa using hp
   rw [if_neg hp] at hng htop
   simp (disch := omega) only [aD, aS, d1, iD, aK9, fE, aP, eS, xK, bK, aA, bO, g1, aH, dQ, d2, aE, aG]
   exact ⟨ps.length - (i + 1), by omega, i + 1, hg, arr, rfl, rfl, by omega, by omega, by omega, harr, htop, o3, x3, ob3⟩
 .have d1 : decide ((i : Int) < (ps.length : Int)) = false := by simp; omega
  rw [aMW (by omega), abW] at htop
  obtain ⟨rfl, rfl⟩ : hg = high /\ arr = arr0 := by simpa using htop
  have c1 := ob3.cell (off := 1)
  simp only [Value.cells, aK7, aK8] at c1
  unfold BR GB ON PK OF Nw OQ Oa NW
  simp (disch := omega) only [aD, aS, d1, fE, aP, eS, aA, bL, aLa, dT, c1, aH, gB, aE]
  clear d1 hlt hi hng htop
  have hbig : eM w3 w1.heap.size (fe .u8 (m3 arr)) := o3
  refine cS.rule (fun m t w' => ∃ (s j : Nat) (ar : List Int), m = ps.length - s /\ t = (.int .i64 (pos N j : Nat), .int .i64 s) /\ s <= ps.length /\ ar.length = N /\ place N hg (tI (ps.drop s) s) (pos N j) ar = place N hg (tI ps 0) 0 arr /\ (tI (ps.drop s) s).length <= hg /\ eM w' w1.heap.size (fe .u8 (m3 ar)) /\ aW w w' eT) ps.length
   ⟨0, 0, arr, rfl, by rw [We] <;> rfl, by omega, harr, by rw [We, aLf], by rw [aLf, hhigh]; exact aLm _, o3, x3⟩ ?_
  rintro m t w4 ⟨s, j, ar, rfl, rfl, hs4, har, hpl, hrl, o4, x4⟩
  by_cases hlt : s < ps.length
  .have d1 : decide ((s : Int) < (ps.length : Int)) = true := by simp; omega
   obtain ⟨b', off', c', e, _, hcell⟩ := (hs.ext x4 (bZ _)).openI (by omega)
   cases e
   have g1 := hcell s hlt
   obtain ⟨q, hq⟩ : ∃ q, q = ps[s].toNat := ⟨_, rfl⟩
   have emax : (if (0 : Int) > ps[s] then (0 : Int) else ps[s]) = (q : Int) := by rw [hq]; split <;> omega
   rw [aAG hlt, <- hq] at hpl hrl
   have hqN : q <= N := by simp at hrl; omega
   unfold By Ft NP PD V8 Nk PR WQ Nn
   simp (disch := omega) only [aD, aS, d1, iD, aK9, aA, bO, g1, aH, Bc, emax, aG]
   unfold Ny NY
   refine cS.rule (fun m t w' => ∃ (k j : Nat) (ar : List Int), m = q - k /\ t = (.int .i64 (pos N j : Nat), .int .i64 k) /\ k <= q /\ ar.length = N /\ place N hg (List.replicate (q - k) s ++ tI (ps.drop (s + 1)) (s + 1)) (pos N j) ar = place N hg (tI ps 0) 0 arr /\ eM w' w1.heap.size (fe .u8 (m3 ar)) /\ aW w w' eT) q
    ⟨0, j, ar, rfl, rfl, by omega, har, hpl, o4, x4⟩ ?_
   rintro m t w5 ⟨k, j5, ar5, rfl, rfl, hk, har5, hpl5, o5, x5⟩
   by_cases hkq : k < q
   .have d2 : decide ((k : Int) < (q : Int)) = true := by simp; omega
    have hp := awG (n := N) (by omega) j5
    have hhg : 0 < hg := by simp at hrl; omega
    unfold Bn EO O9 Rf ZC Q4
    simp (disch := omega) only [aD, aS, d2, eS, xK, gW, aK9, aLa, aA, eK, aG]
    refine VS o5 rfl (by rw [pY]; simp [m3]; omega) fun w6 o6 x6 s6 => ?_
    rw [ayK (by omega)] at o6
    unfold RK
    rw [show q - k = (q - (k + 1)) + 1 from by omega, aLT, aMh, ayI] at hpl5
    obtain ⟨d, _, hd2, hd3⟩ := XN (n := N) (high := hg) (by omega) hhg (j5 + 1)
    have hsk : afQ N hg N (adv N (pos N j5)) = pos N (j5 + 1 + d) := by rw [Mh]; exact hd3
    refine aJU (w0 := w) (by omega) hN2 hhg hgN (x5.new x6 hw1) ⟨j5 + 1 + d, hsk, ?_⟩
    rw [hsk] at hpl5
    unfold IM
    simp (disch := omega) only [aD, bK, aP, aA]
    exact ⟨q - (k + 1), by omega, k + 1, j5 + 1 + d, _, rfl, rfl, by omega, by simp [har5], hpl5, o6, x5.new x6 hw1⟩
   .have d2 : decide ((k : Int) < (q : Int)) = false := by simp; omega
    rw [show q - k = 0 from by omega, List.replicate_zero, aMu] at hpl5
    unfold Bn EO IU
    simp (disch := omega) only [aD, aS, d2, bK, aP, aA, aE]
    exact ⟨ps.length - (s + 1), by omega, s + 1, j5, ar5, rfl, rfl, by omega, har5, hpl5, by simp at hrl; omega, o5, x5⟩
  .have d1 : decide ((s : Int) < (ps.length : Int)) = false := by simp; omega
   rw [aMW (by omega), tI, place] at hpl
   unfold By Ft Jc
   simp (disch := omega) only [aD, aS, d1, aA, aE]
   exact ⟨_, rfl, hw1, by rw [<- hpl]; exact o4, x4⟩
def Es (log : Nat) (ps S : List Int) (i : Nat) : List T3 := (List.range (2 ^ log)).map fun j => if j < i then UU log ps S j else (S.getD j 0, 0, 0)
def nxt (ps S : List Int) (i : Nat) : List Int := (List.range ps.length).map fun s => iU (ps.getD s 0) + ((S.take i).count (s : Int) : Nat)
theorem aE8 {log : Nat} {ps S : List Int} (h : S.length = 2 ^ log) : Es log ps S 0 = m3 S := by
 unfold Es m3
 apply aMw
 .simp [h]
 .intro i h1 h2
  simp only [aLk, aNx] at h1
  simp only [aMe, aMP, Nat.not_lt_zero, if_false, aLl]
  rw [aLg (by omega)] <;> rfl
theorem aH6 (log : Nat) (ps : List Int) : Es log ps (rH 0 log ps) (2 ^ log) = xC log ps := by
 unfold Es xC
 refine aLN fun j hj => ?_
 rw [if_pos (aLR.1 hj)]
theorem H2 (log : Nat) (ps S : List Int) (i : Nat) : (Es log ps S i).length = 2 ^ log := by simp [Es]
theorem aHe {log : Nat} {ps S : List Int} {i : Nat} (h : i < 2 ^ log) : (Es log ps S i)[i]'(by rw [H2]; exact h) = (S.getD i 0, 0, 0) := by
 unfold Es; simp
theorem aGH {log : Nat} {ps S : List Int} {i : Nat} (_ : i < 2 ^ log) : (Es log ps S i).set i (UU log ps S i) = Es log ps S (i + 1) := by
 unfold Es
 apply aMw
 .simp
 .intro j h1 h2
  rw [List.getElem_set]
  simp only [aMe, aMP]
  by_cases hij : i = j
  .subst hij; simp
  .rw [if_neg hij]
   by_cases hj : j < i
   .rw [if_pos hj, if_pos (by omega)]
   .rw [if_neg hj, if_neg (by omega)]
theorem aeP (ps S : List Int) (i : Nat) : (nxt ps S i).length = ps.length := by simp [nxt]
theorem aHj (ps S : List Int) : nxt ps S 0 = ps.map iU := by
 unfold nxt
 apply aMw
 .simp
 .intro i h1 h2
  simp only [aLk, aNx] at h1
  simp only [aMe, aMP, aLi, List.count_nil, aLl]
  rw [aLg h1]; simp
theorem aBd {ps S : List Int} {i s : Nat} (h : s < ps.length) : (nxt ps S i)[s]'(by rw [aeP]; exact h) = iU ps[s] + ((S.take i).count (s : Int) : Nat) := by
 unfold nxt
 simp only [aMe, aMP, aLl]
 rw [aLg h] <;> rfl
theorem aH9 {ps S : List Int} {i s : Nat} (h : i < S.length) (hs : s < ps.length) (e : S[i] = (s : Int)) : (nxt ps S i).set s (iU ps[s] + ((S.take i).count (s : Int) : Nat) + 1) = nxt ps S (i + 1) := by
 apply aMw
 .simp [nxt]
 .intro j h1 h2
  have hj : j < ps.length := by simpa [nxt] using h2
  rw [List.getElem_set, aBd hj, aBd hj, aL6, aLg h, aMB]
  simp only [Option.toList, e, aND]
  by_cases hij : s = j
  .subst hij; simp; omega
  .have : ((s : Int) == (j : Int)) = false := by simp; omega
   rw [if_neg hij, this]; simp
theorem aIG {k b : Nat} (hb : b <= 64) (h : k * 2 ^ b <= 9223372036854775807) : IntKind.i64.wrap ((k : Int) * 2 ^ (min b IntKind.i64.bits)) = ((k * 2 ^ b : Nat) : Int) := by
 have e : min b IntKind.i64.bits = b := by simp only [IntKind.bits]; omega
 rw [e]
 have : (k : Int) * 2 ^ b = ((k * 2 ^ b : Nat) : Int) := by simp
 rw [this]
 exact aP (by omega) (by omega)
section
variable {log : Nat} {ps S : List Int} {w0 w1 : aNE} {p1 p2 p4 b nb N : Nat} {sv : aNF}
theorem aEh (hm : May log ps) (L : Lay log ps S) (hN : 2 ^ log = N) {i : Nat} (hlt : i < N) {w3 : aNE}
 (on3 : eM w3 nb ((nxt ps S i).map (Value.int .i64))) (ob3 : eM w3 b (fe .u8 (Es log ps S i)))
 (o13 : eM w3 p1 [.int .i64 log, sv]) (o43 : eM w3 p4 [.int .i64 log, .slice (some ⟨b, 0, none⟩) N N])
 (hne : p1 ≠ b /\ p4 ≠ b /\ nb ≠ b /\ p1 ≠ nb /\ p4 ≠ nb) {t2 : aNF} {kn : aNF -> aNF -> aNF -> aNF -> aNF -> aNF -> aNE -> Prop}
 (hk : ∀ w', eM w' nb ((nxt ps S (i + 1)).map (Value.int .i64)) -> eM w' b (fe .u8 (Es log ps S (i + 1))) -> aW w3 w' (fun y => y = nb ∨ y = b) →
  kn (.pointer (some ⟨p1, 0, none⟩)) t2 (.pointer (some ⟨p4, 0, none⟩)) (.slice (some ⟨nb, 0, none⟩) ps.length ps.length) (.int .i64 N) (.int .i64 ((i + 1 : Nat) : Int)) w') :
 MG kn (.pointer (some ⟨p1, 0, none⟩)) t2 (.pointer (some ⟨p4, 0, none⟩)) (.slice (some ⟨nb, 0, none⟩) ps.length ps.length) (.int .i64 N) (.int .i64 i) w3 := by
 have h5 := hm.log5
 have h15 := hm.log15
 have hlen := hm.len256
 have hN2 : 2 ^ log <= 2 ^ 15 := aLj (by omega) h15
 have hSl : S.length = 2 ^ log := L.len
 have c40 := o43.cell (off := 0)
 have c41 := o43.cell (off := 1)
 have c10 := o13.cell (off := 0)
 simp only [aK7, aK8] at c40 c41 c10
 have hltN : i < 2 ^ log := by omega
 obtain ⟨s, hsl, hsS, hp1, hp2, hk', hcnt⟩ := axQ hm L hltN
 obtain ⟨k, hkk⟩ : ∃ k, k = kAt ps S i := ⟨_, rfl⟩
 rw [<- hkk] at hk'
 have hk2 : k < 2 ^ (log + 1) := by rw [aLM]; omega
 obtain ⟨eb1, eb2, eb3, eb4⟩ := aBN (log := log) (k := k) (by omega) hk2
 have hel : i < (Es log ps S i).length := by rw [H2]; exact hltN
 obtain ⟨f0, f1, f2⟩ := WR .u8 (Es log ps S i) i hel
 rw [aHe hltN] at f0
 simp only at f0
 rw [hsS] at f0
 have g0 := ob3.cell (off := i * 3)
 rw [f0] at g0
 have hnx : ((nxt ps S i).map (Value.int .i64))[s]? = some (.int .i64 k) := by
  rw [aLD, aLg (by rw [aeP]; exact hsl), aBd hsl, hk']
  simp; omega
 have gn := on3.cell (off := s)
 rw [hnx] at gn
 have hkb : k < 131072 := by
  have : 2 ^ (log + 1) <= 2 ^ 16 := aLj (by omega) (by omega)
  omega
 have hpn := sT (hm.low _ (aLW hsl))
 have hSi : S[i]'(by omega) = (s : Int) := by rw [<- hsS, aLl, aLg (by omega)] <;> rfl
 have hns := aH9 (ps := ps) (S := S) (i := i) (s := s) (by omega) hsl hSi
 have hkv : iU ps[s] + ((S.take i).count (s : Int) : Nat) + 1 = (k : Int) + 1 := by rw [hk']; omega
 rw [hkv] at hns
 have hent : UU log ps S i = GN log (s : Int) k := by unfold UU; rw [hsS, <- hkk]
 have hes := aGH (log := log) (ps := ps) (S := S) (i := i) hltN
 rw [hent] at hes
 have hE0 : (Es log ps S i)[i]'hel = ((s : Int), 0, 0) := by rw [aHe hltN, hsS]
 clear hkk hcnt
 unfold MG T5 alG T2
 simp (disch := omega) only [aD, cU, aLa, aA, gA, c41, aH, gW, aK9, qU, eK, gS, g0, iD, bO, gn, bK, aP]
 refine pD on3 rfl (by simp [aeP]; omega) fun w4 on4 x4 s4 => ?_
 rw [<- aNt, hns] at on4
 unfold TK TS
 have o14 := kA (o13.ext x4 (by omega))
 have o44 := o43.ext x4 (by omega)
 have ob4 := ob3.ext x4 (by omega)
 have c10 := o14.cell (off := 0)
 simp only [aK7] at c10
 simp (disch := omega) only [aD, bW, fW, kS, jJ, Result.ok.injEq, Next.value.injEq, and_true, qU, aA, gR, true_and, bO, c10, aH]
 refine (aCw k (by omega) _).mono ?_
 rintro r w5 ⟨rfl, rfl⟩
 obtain ⟨nbits, hnbits⟩ : ∃ x, x = log + 1 - bl k := ⟨_, rfl⟩
 have e2 : (log : Int) - (bl k : Int) + 1 = (nbits : Int) := by omega
 have e3 : IntKind.i64.wrap ((log : Int) - (bl k : Int)) = (log : Int) - (bl k : Int) := aP (by omega) (by omega)
 simp (disch := omega) only [c10, aH, fE, e3, aA, bK, e2, aP, true_and]
 have ob4 := kA ob4
 refine pD ob4 rfl (by rw [pY, H2]; omega) fun w5 ob5 x5 s5 => ?_
 rw [(aqV .u8 (Es log ps S i) i hel _).2.1, hE0] at ob5
 unfold Mz
 have o45 := kA ((kA o44).ext x5 (by omega))
 have ob5 := kA ob5
 have on5 := kA ((kA on4).ext x5 (by omega))
 have c41 := o45.cell (off := 1)
 simp only [aK7, aK8] at c41
 have hel5 : i < ((Es log ps S i).set i ((s : Int), (nbits : Int), 0)).length := by simpa using hel
 obtain ⟨-, f1, -⟩ := WR .u8 _ i hel5
 simp only [aNg] at f1
 have g1 := ob5.cell (off := i * 3 + 1)
 rw [f1] at g1
 have hnb2 : k * 2 ^ nbits <= 2 ^ 16 := by
  rw [hnbits]
  have : 2 ^ (log + 1) <= 2 ^ 16 := aLj (by omega) (by omega)
  have := aLG (2 ^ (log + 1 - bl k)) (show k <= k + 1 by omega)
  omega
 have e4 := aIG (k := k) (b := nbits) (by omega) (by omega)
 have e5 : (((k * 2 ^ nbits : Nat) : Int) - (N : Int)) = (GN log (s : Int) k).2.2 := by
  unfold GN
  simp only
  rw [<- hnbits, <- hN]
  simp
 have e6 : IntKind.i64.wrap (((k * 2 ^ nbits : Nat) : Int) - (N : Int)) = ((k * 2 ^ nbits : Nat) : Int) - (N : Int) := aP (by omega) (by omega)
 rw [e5] at e6
 have e7 : (GN log (s : Int) k) = ((s : Int), (nbits : Int), (GN log (s : Int) k).2.2) := by unfold GN; rw [hnbits]
 generalize hq : k * 2 ^ nbits = q at *
 generalize hbase : (GN log (s : Int) k).2.2 = base at *
 simp (disch := omega) only [aD, qU, cU, aLa, aA, iM, true_and, gA, c41, aH, iR, gR, bO, g1, pE, aK9, e4, fE, e5, e6]
 refine pD ob5 rfl (by rw [pY]; simp [H2]; omega) fun w6 ob6 x6 s6 => ?_
 rw [(aqV .u8 _ i hel5 _).2.2] at ob6
 simp only [aNg, List.set_set] at ob6
 rw [<- e7, hes] at ob6
 have xx : aW w3 w6 (fun y => y = nb ∨ y = b) :=
  ((((x4.mono fun _ _ h => .inl h : aW w3 w4 (fun y => y = nb ∨ y = b)).seq (aW.dr _ _)).seq (x5.mono fun _ _ h => .inr h)).seq (aW.dr _ _)).seq (x6.mono fun _ _ h => .inr h)
 unfold Mg
 simp (disch := omega) only [aD, bK, aP, aA]
 exact hk _ (on5.ext x6 (by omega)) ob6 xx
theorem aGv (hm : May log ps) (L : Lay log ps S) (hN : 2 ^ log = N) {w3 : aNE}
 (on3 : eM w3 nb ((nxt ps S 0).map (Value.int .i64))) (ob3 : eM w3 b (fe .u8 (m3 S)))
 (o13 : eM w3 p1 [.int .i64 log, sv]) (o23 : eM w3 p2 [.int .i64 0, .slice none 0 0]) (o43 : eM w3 p4 [.int .i64 log, .slice (some ⟨b, 0, none⟩) N N])
 (hne : p1 ≠ b /\ p4 ≠ b /\ nb ≠ b /\ p1 ≠ nb /\ p4 ≠ nb /\ p2 ≠ b /\ p2 ≠ nb) (hlo : w0.heap.size <= p2 /\ w0.heap.size <= b /\ w0.heap.size <= nb) (hx : aW w0 w3 eT) {R : aNF -> aNE -> Prop}
 (hR : ∀ w', eM w' b (fe .u8 (Es log ps S N)) -> aW w0 w' eT -> R (.tuple #[.agg #[.int .i64 log, .slice (some ⟨b, 0, none⟩) N N], .int .i64 0]) w') :
 I4 R (.pointer (some ⟨p1, 0, none⟩)) (.pointer (some ⟨p2, 0, none⟩)) (.pointer (some ⟨p4, 0, none⟩)) (.slice (some ⟨nb, 0, none⟩) ps.length ps.length) w3 := by
 have hN2 : 2 ^ log <= 2 ^ 15 := aLj (by omega) hm.log15
 have c41 := o43.cell (off := 1)
 simp only [aK7, aK8] at c41
 unfold I4 Rp QY Rh Ra
 simp (disch := omega) only [aD, cU, aLa, aA, gA, c41, aH, iR]
 have ob0 : eM w3 b (fe .u8 (Es log ps S 0)) := by rw [aE8 L.len]; exact ob3
 refine cS.rule (fun m t w' => ∃ i : Nat, m = N - i /\ t = .int .i64 i /\ i <= N /\ eM w' nb ((nxt ps S i).map (Value.int .i64)) /\ eM w' b (fe .u8 (Es log ps S i)) /\ aW w3 w' (fun y => y = nb ∨ y = b)) N
  ⟨0, rfl, rfl, by omega, on3, ob0, aW.refl _ _⟩ ?_
 rintro m t w4 ⟨i, rfl, rfl, hi, on4, ob4, x4⟩
 unfold I0 RL
 have o44 := o43.ext x4 (by omega)
 have o24 := o23.ext x4 (by omega)
 by_cases hlt : i < N
 .have d1 : decide ((i : Int) < (N : Int)) = true := by simp only [decide_eq_true_eq]; omega
  simp (disch := omega) only [aD, aS, d1, aA, aG]
  refine aEh hm L hN hlt on4 ob4 (o13.ext x4 (by omega)) o44 ⟨hne.1, hne.2.1, hne.2.2.1, hne.2.2.2.1, hne.2.2.2.2.1⟩ fun w5 on5 ob5 x5 => ?_
  exact ⟨N - (i + 1), by omega, i + 1, rfl, rfl, by omega, on5, ob5, x4.trans x5 (fun _ _ h => h)⟩
 .have d1 : decide ((i : Int) < (N : Int)) = false := by simp only [decide_eq_false_iff_not]; omega
  have : i = N := by omega
  subst this
  have l4 := QZ (off := 0) o44 (by simp)
  simp only [aLf, aLe, aLi] at l4
  simp (disch := omega) only [aD, aS, d1, aA, aE]
  unfold Mt
  simp (disch := omega) only [aD, l4, aA]
  refine I2 o24 rfl (by simp [one]) (by simp) fun w5 o25 x5 s5 => ?_
  refine aAj o25 (by simp [bM]) ?_
  simp only [bM, aLd, aLc, aLf, aLe, aLi]
  exact hR _ (ob4.ext x5 (by omega)) ((hx.trans x4 (fun y hy hh => by omega)).new x5 hlo.1)
theorem aD9 (hm : May log ps) (L : Lay log ps S) (hN : 2 ^ log = N) {w : aNE} (hs : Sl w0 sv (ps.map (Value.int .i64)))
 (o1 : eM w p1 [.int .i64 log, sv]) (o2 : eM w p2 [.int .i64 0, .slice none 0 0]) (o4 : eM w p4 [.int .i64 log, .slice (some ⟨b, 0, none⟩) N N]) (ob : eM w b (fe .u8 (m3 S)))
 (hlo : w0.heap.size <= p2 /\ w0.heap.size <= b) (hne : p1 ≠ b /\ p2 ≠ b /\ p4 ≠ b) (hx : aW w0 w eT) {R : aNF -> aNE -> Prop}
 (hR : ∀ w', eM w' b (fe .u8 (Es log ps S N)) -> aW w0 w' eT -> R (.tuple #[.agg #[.int .i64 log, .slice (some ⟨b, 0, none⟩) N N], .int .i64 0]) w') :
 CU R (.pointer (some ⟨p1, 0, none⟩)) (.pointer (some ⟨p2, 0, none⟩)) (.pointer (some ⟨p4, 0, none⟩)) w := by
 have hlen := hm.len256
 have hN2 : 2 ^ log <= 2 ^ 15 := aLj (by omega) hm.log15
 obtain ⟨a, c, rfl, hc⟩ := hs.lenI
 have c1 := o1.cell (off := 1)
 simp only [aK7, aK8] at c1
 unfold CU RG
 simp (disch := omega) only [aD, bL, aLa, aA, dT, c1, aH, gB]
 refine aGc (by omega) (by omega) fun w1 on x1 s1 => ?_
 rw [aK9] at on ⊢
 have l1 := o1.lt
 have l2 := o2.lt
 have l4 := o4.lt
 have lb := ob.lt
 have o1 := o1.ext x1 (fun h => h)
 have o2 := o2.ext x1 (fun h => h)
 have o4 := o4.ext x1 (fun h => h)
 have ob := ob.ext x1 (fun h => h)
 have x01 := hx.seq x1
 have c1 := o1.cell (off := 1)
 simp only [aK7, aK8] at c1
 have hwn : w0.heap.size <= w.heap.size := hx.size
 generalize w.heap.size = nb at *
 unfold R6 Sa QO Re RV
 simp (disch := omega) only [aD, bL, aLa, aA, dT, c1, aH, gB]
 refine cS.rule (fun m t w' => ∃ i : Nat, m = ps.length - i /\ t = .int .i64 i /\ i <= ps.length /\ eM w' nb (((ps.take i).map iU ++ List.replicate (ps.length - i) 0).map (Value.int .i64)) /\ aW w0 w' eT /\ aW w1 w' (fun y => y = nb)) ps.length
  ⟨0, rfl, rfl, by omega, by simpa using on, x01, aW.refl _ _⟩ ?_
 rintro m t w2 ⟨i, rfl, rfl, hi, on2, x2, y2⟩
 by_cases hlt : i < ps.length
 .have d1 : decide ((i : Int) < (ps.length : Int)) = true := by simp; omega
  obtain ⟨b', off', c', e, _, hcell⟩ := (hs.ext x2 (bZ _)).openI (by omega)
  cases e
  have g1 := hcell i hlt
  have hp := hm.low _ (aLW hlt)
  have hple := ayQ hm hlt
  have hpv : iU ps[i] = ps[i] ∨ ps[i] = -1 := by unfold iU; split <;> omega
  have hpn := sT hp
  have emax : (if (0 - ps[i]) > ps[i] then (0 - ps[i]) else ps[i]) = iU ps[i] := by unfold iU; split <;> split <;> omega
  unfold CW
  simp (disch := omega) only [aD, aS, d1, iD, aK9, aLa, bK, aP, aA, bO, g1, aH, LV, Bc, emax, aG]
  refine pD on2 rfl (by simp; omega) fun w3 on3 x3 s3 => ?_
  refine ⟨ps.length - (i + 1), by omega, i + 1, rfl, rfl, by omega, ?_, x2.new x3 hwn, y2.trans x3 (fun _ _ h => h)⟩
  rw [<- aNt] at on3
  have e : ((ps.take i).map iU ++ List.replicate (ps.length - i) 0).set i (iU ps[i]) = (ps.take (i + 1)).map iU ++ List.replicate (ps.length - (i + 1)) 0 := by
   rw [show ps.length - i = (ps.length - (i + 1)) + 1 from by omega, aLT, aMO _ _ (by rw [aLk, aLn]; omega)]
   have : i - ((ps.take i).map iU).length = 0 := by rw [aLk, aLn]; omega
   rw [this, aLd, aL6, aLg hlt, aLz, aLF]
   rfl
  rw [e] at on3
  exact on3
 .have d1 : decide ((i : Int) < (ps.length : Int)) = false := by simp; omega
  have : i = ps.length := by omega
  subst this
  have on2 : eM w2 nb ((nxt ps S 0).map (Value.int .i64)) := by rw [aHj]; simpa using on2
  unfold CW
  simp (disch := omega) only [aD, aS, d1, bK, aP, aA, aE]
  exact aGv hm L hN on2 (ob.ext y2 (by omega)) (o1.ext y2 (by omega)) (o2.ext y2 (by omega)) (o4.ext y2 (by omega)) (by omega) (by omega) x2 hR
def Tbl (w : aNE) (base b log : Nat) (L : List T3) (v : aNF) : Prop := v = .agg #[.int .i64 log, .slice (some ⟨b, 0, none⟩) L.length L.length] /\ base <= b /\ eM w b (fe .u8 L)
theorem aFh {log most : Nat} {ps : List Int} (h : May log ps) (hl : log <= most) : aFs log ps most = 0 := by
 unfold aFs; rw [h.b]; simp; omega
theorem aIn {w : aNE} (hm : May log ps) (hs : Sl w sv (ps.map (Value.int .i64))) :
 aT pg Jf #[.agg #[.int .i64 log, sv]] w (fun r w' => ∃ b v, r = .tuple #[v, .int .i64 0] /\ Tbl w' w.heap.size b log (xC log ps) v /\ aW w w' eT) := by
 refine azC ?_
 have hlen := hm.len256
 unfold aAJ RC QW
 refine nO fun w1 o1 x1 s1 => ?_
 refine MI fun w2 o2 x2 s2 => ?_
 have o1 := o1.ext x2 (fun h => h)
 have l1 := rE (off := 0) o1 (by simp [Value.cells])
 simp only [Value.cells, aLf, aLe, aLi] at l1
 simp (disch := omega) only [aD, l1, mA, aA, bW, jJ, Result.ok.injEq, Next.value.injEq, and_true, bO, true_and]
 refine (aIX (most := 15) ((hs.ext x1 (bZ _)).ext x2 (bZ _)) (by omega)).mono ?_
 rintro r w3 ⟨rfl, x3⟩
 have hce := aFh (most := 15) hm hm.log15
 rw [show (((15 : Nat) : Int)) = 15 from rfl] at hce
 rw [hce]
 have e0 : ((0 : Int) != 0) = false := rfl
 have x03 : aW w w3 eT := (x1.seq x2).seq x3
 have o1 := kA (o1.ext x3 (fun h => h))
 have o2 := kA (o2.ext x3 (fun h => h))
 have c0 := o1.cell (off := 0)
 simp only [Value.cells, aK7] at c0
 have l1 := rE (off := 0) o1 (by simp [Value.cells])
 simp only [Value.cells, aLf, aLe, aLi] at l1
 have hz2 := o2.lt
 have fin : ∀ {b p4 : Nat} {w' : aNE}, eM w' w.heap.size [.int .i64 log, sv] -> eM w' w1.heap.size [.int .i64 0, .slice none 0 0] -> eM w' p4 [.int .i64 log, .slice (some ⟨b, 0, none⟩) (2 ^ log) (2 ^ log)] -> eM w' b (fe .u8 (m3 (rH 0 log ps))) -> w2.heap.size <= b -> p4 ≠ b -> aW w w' eT →
     CU (fun r w' => ∃ b v, r = .tuple #[v, .int .i64 0] /\ Tbl w' w.heap.size b log (xC log ps) v /\ aW w w' eT) (.pointer (some ⟨w.heap.size, 0, none⟩)) (.pointer (some ⟨w1.heap.size, 0, none⟩)) (.pointer (some ⟨p4, 0, none⟩)) w' := by
  intro b p4 w' h1 h2 h3 h4 h5 h6 h7
  refine aD9 hm (Og hm 0) rfl hs h1 h2 h3 h4 (by omega) (by omega) h7 fun w'' ho hx => ?_
  rw [aH6] at ho
  exact ⟨b, _, rfl, ⟨by rw [xJ], by omega, ho⟩, hx⟩
 simp (disch := omega) only [cY, e0, aA, aE]
 have hdr : (dr w3).heap.size = w3.heap.size := rfl
 have h23 := x3.size
 refine aHg ?_ ?_
 .simp (disch := omega) only [c0, aH, l1, aA, true_and]
  refine (aCW hm ((hs.ext x03 (bZ _)).dr)).mono ?_
  rintro r w4 ⟨b, rfl, hb, ob, x4⟩
  have o1 := o1.ext x4 (fun h => h)
  have c0 := o1.cell (off := 0)
  simp only [Value.cells, aK7] at c0
  simp (disch := omega) only [c0, aH, jC, Result.ok.injEq, Next.value.injEq, and_true, aA, true_and]
  refine MI fun w5 o5 x5 s5 => ?_
  have o1 := o1.ext x5 (fun h => h)
  have c0 := o1.cell (off := 0)
  simp only [Value.cells, aK7] at c0
  simp (disch := omega) only [c0, aH, true_and]
  have hlb := ob.lt
  refine I2 o5 rfl (by simp [one]) (by simp) fun w6 o6 x6 s6 => ?_
  have h45 := x4.size
  refine fin (o1.ext x6 (by omega)) (((o2.ext x4 (fun h => h)).ext x5 (fun h => h)).ext x6 (by omega)) o6 ((ob.ext x5 (fun h => h)).ext x6 (by omega)) (by omega) (by omega) ?_
  exact (((x03.seq (aW.dr _ _)).seq x4).seq x5).new x6 (by omega)
 .simp (disch := omega) only [c0, aH, l1, aA, true_and]
  refine MI fun w4 o4 x4 s4 => ?_
  have o1 := o1.ext x4 (fun h => h)
  have c0 := o1.cell (off := 0)
  simp only [Value.cells, aK7] at c0
  have l1 := rE (off := 0) o1 (by simp [Value.cells])
  simp only [Value.cells, aLf, aLe, aLi] at l1
  simp (disch := omega) only [l1, c0, aH, and_true, true_and]
  refine (aCW hm ((((hs.ext x03 (bZ _)).dr).ext x4 (bZ _)))).mono ?_
  rintro r w5 ⟨b, rfl, hb, ob, x5⟩
  have o1 := o1.ext x5 (fun h => h)
  have c0 := o1.cell (off := 0)
  simp only [Value.cells, aK7] at c0
  simp (disch := omega) only [c0, aH, jC, aA, true_and]
  refine I2 (o4.ext x5 (fun h => h)) rfl (by simp [one]) (by simp) fun w6 o6 x6 s6 => ?_
  refine fin (o1.ext x6 (by omega)) (((o2.ext x4 (fun h => h)).ext x5 (fun h => h)).ext x6 (by omega)) o6 (ob.ext x6 (by omega)) (by omega) (by omega) ?_
  exact (((x03.seq (aW.dr _ _)).seq x4).seq x5).new x6 (by omega)
end
theorem Tbl.ext {w w' : aNE} {base b log : Nat} {L : List T3} {v : aNF} {M : Nat -> Prop} (h : Tbl w base b log L v) (hx : aW w w' M) (hM : ¬ M b) : Tbl w' base b log L v := ⟨h.1, h.2.1, h.2.2.ext hx hM⟩
theorem aBV {k : IntKind} {L : List T3} {i : Nat} (h : i < L.length) : ((fe k L).drop (i * 3)).take 3 = [.int k L[i].1, .int .i64 L[i].2.1, .int .i64 L[i].2.2] := by
 obtain ⟨h0, h1, h2⟩ := WR k L i h
 apply aMk
 intro j
 match j with
 | 0 => rw [aLY (by omega), aMN]; exact h0
 | 1 => rw [aLY (by omega), aMN]; exact h1
 | 2 => rw [aLY (by omega), aMN]; exact h2
 | j + 3 => rw [aLo (by rw [aLn]; omega), aLo (by simp)]
theorem aEo (log : Nat) (ps : List Int) {i : Nat} (h : i < 2 ^ log) : ((xC log ps)[i]'(by rw [xJ]; exact h)).1 = (rH 0 log ps).getD i 0 := by
 unfold xC UU GN; simp
def cn (S : List Int) (i : Nat) : List Int := (List.range 256).map fun (s : Nat) => (((S.take i).count (s : Int) : Nat) : Int)
theorem anT (S : List Int) (i : Nat) : (cn S i).length = 256 := by simp [cn]
theorem aIz (S : List Int) : cn S 0 = List.replicate 256 0 := by
 unfold cn
 apply aMw
 .simp
 .intro i h1 h2
  simp only [aMe, aMP, aLi, List.count_nil, List.getElem_replicate]; rfl
theorem aEt {S : List Int} {i s : Nat} (h : s < 256) : (cn S i)[s]'(by rw [anT]; exact h) = (((S.take i).count (s : Int) : Nat) : Int) := by simp [cn]
theorem aJQ {S : List Int} {i s : Nat} (hi : i < S.length) (hs : s < 256) (e : S[i] = (s : Int)) : (cn S i).set s ((((S.take i).count (s : Int) : Nat) : Int) + 1) = cn S (i + 1) := by
 apply aMw
 .simp [cn]
 .intro j h1 h2
  have hj : j < 256 := by simpa [cn] using h2
  rw [List.getElem_set, aEt hj, aEt hj, aL6, aLg hi, aMB]
  simp only [Option.toList, e, aND]
  by_cases hij : s = j
  .subst hij; simp
  .have : ((s : Int) == (j : Int)) = false := by simp; omega
   rw [if_neg hij, this]; simp
theorem aIR {k : IntKind} {L : List T3} {i : Nat} {e : T3} (h : L[i]? = some e) : (fe k L)[i * 3]? = some (.int k e.1) /\ (fe k L)[i * 3 + 1]? = some (.int .i64 e.2.1) /\ (fe k L)[i * 3 + 2]? = some (.int .i64 e.2.2) := by
 have hi : i < L.length := by
  rcases aLv i L.length with h' | h'
  .exact h'
  .rw [aLo h'] at h; cases h
 rw [aLg hi] at h
 have := WR k L i hi
 rw [aLA h] at this
 exact this
def Low (L : List T3) : Prop := ∀ e ∈ L, ∃ n : Nat, e.2.1 = (n : Int) /\ n <= 20 /\ 0 <= e.2.2 /\ e.2.2 <= 100000
theorem aDO {log : Nat} {ps : List Int} (hm : May log ps) : Low (xC log ps) := by
 intro e he
 obtain ⟨i, hi', rfl⟩ := aMD he
 have hi := hi'
 rw [xJ] at hi
 have hat := aAu (ps := ps) hi
 rw [aLg hi'] at hat
 rw [aLA hat]
 have L := Og hm 0
 obtain ⟨s, hs, hg, hp1, hp2, hk, hc⟩ := axQ hm L hi
 have hk2 : kAt ps (rH 0 log ps) i < 2 ^ (log + 1) := by rw [aLM]; omega
 obtain ⟨e1, e2, e3, e4⟩ := aBN (log := log) (k := kAt ps (rH 0 log ps) i) (by omega) hk2
 have h15 := hm.log15
 have hb : 2 ^ (log + 1) <= 2 ^ 16 := aLj (by omega) (by omega)
 have hpow : ((2 ^ log : Nat) : Int) = (2 : Int) ^ log := by simp
 unfold UU GN
 rw [<- hpow]
 rw [Nat.succ_mul] at e2
 have hA := aMf (aMf (Nat.le_add_right _ _) e2) hb
 generalize hX : kAt ps (rH 0 log ps) i * 2 ^ (log + 1 - bl (kAt ps (rH 0 log ps) i)) = X at *
 refine ⟨_, rfl, by omega, ?_, ?_⟩
 .show (0 : Int) <= (X : Int) - ((2 ^ log : Nat) : Int)
  omega
 .show (X : Int) - ((2 ^ log : Nat) : Int) <= 100000
  omega
theorem aF0 {log k : Nat} (h15 : log <= 15) (hk1 : 1 <= k) (hk2 : k < 2 ^ (log + 1)) {w0 w : aNE} {p1 : Nat} {sv t2 n5 t6 seen i15 : aNF} (o1 : eM w p1 [.int .i64 log, sv])
 {k12 : aNF -> aNF -> aNF -> aNF -> aNF -> aNF -> aNF -> aNF -> aNE -> Prop}
 (hR : k12 (.pointer (some ⟨p1, 0, none⟩)) t2 n5 t6 seen i15 (.int .i64 k) (.int .i64 ((log + 1 - bl k : Nat) : Int)) w) :
 FQ k12 (.pointer (some ⟨p1, 0, none⟩)) t2 n5 t6 seen i15 (.int .i64 k) (.int .i64 log) w := by
 have hb1 := NR (k := k) (by omega)
 have hb2 := wO hk2
 have hlt := WI k
 have hle := Zj (k := k) (by omega)
 have c0 := o1.cell (off := 0)
 simp only [aK7] at c0
 unfold FQ
 refine cS.rule (fun m t w' => ∃ q : Nat, m = log - q /\ t = .int .i64 ((log - q : Nat) : Int) /\ q + 1 <= bl k /\ w' = w) log ⟨0, rfl, rfl, by omega, rfl⟩ ?_
 rintro m t w' ⟨q, rfl, rfl, hq, rfl⟩
 have e1 : (log : Int) - ((log - q : Nat) : Int) + 1 = ((q + 1 : Nat) : Int) := by omega
 have hw : IntKind.i64.wrap ((log : Int) - ((log - q : Nat) : Int)) = (log : Int) - ((log - q : Nat) : Int) := aP (by omega) (by omega)
 unfold G1
 simp (disch := omega) only [aD, bB, fE, aP, aA, bO, c0, aH, hw, bK, e1]
 refine (IV (q + 1) (by omega) _).mono ?_
 rintro r w1 ⟨rfl, rfl⟩
 have hpw : ((2 ^ (q + 1) : Nat) : Int) = (2 : Int) ^ (q + 1) := by simp
 rw [<- hpw]
 by_cases hc : 2 ^ (q + 1) <= k
 .have d1 : decide (((2 ^ (q + 1) : Nat) : Int) <= (k : Int)) = true := by simp only [decide_eq_true_eq]; omega
  have hq2 : q + 2 <= bl k := by
   rcases aLv (q + 1) (bl k) with h | h
   .exact h
   .have : bl k = q + 1 := by omega
    rw [this] at hlt; omega
  simp (disch := omega) only [Bi, d1, aA, and_true, aG]
  exact ⟨log - (q + 1), by omega, q + 1, rfl, by congr 1; omega, hq2⟩
 .have d1 : decide (((2 ^ (q + 1) : Nat) : Int) <= (k : Int)) = false := by simp only [decide_eq_false_iff_not]; omega
  have : bl k = q + 1 := by
   have := wO (k := k) (n := q + 1) (by omega)
   omega
  rw [this, show log + 1 - (q + 1) = log - q from by omega] at hR
  simp (disch := omega) only [Bi, d1, aA, and_true, aE]
  exact hR
theorem aGi {N high j : Nat} (hN : 0 < N) (hN2 : N <= 32768) (hh : 0 < high) (hhN : high <= N) {w : aNE} {c1 t2 t6 s k : aNF}
 {k8 : aNF -> aNF -> aNF -> aNF -> aNF -> aNF -> aNF -> aNF -> aNE -> Prop}
 (hR : k8 c1 t2 (.int .i64 N) t6 (.int .i64 ((high : Int) - 1)) (.int .i64 (afQ N high N (pos N j) : Nat)) s k w) :
 DF k8 c1 t2 (.int .i64 N) t6 (.int .i64 ((high : Int) - 1)) (.int .i64 (pos N j : Nat)) s k (.int .i64 0) w := by
 obtain ⟨d, h1, h2, h3⟩ := XN hN hh j
 have hd : d < N := by
  obtain ⟨D, hD, h0⟩ := aFo N j hN
  rcases aLv d N with h | h
  .exact h
  .have := h1 D (by omega)
   omega
 rw [h3] at hR
 unfold DF
 refine cS.rule (fun m t w' => ∃ q : Nat, m = d - q /\ t = (.int .i64 (pos N (j + q) : Nat), .int .i64 q) /\ q <= d /\ w' = w) d ⟨0, rfl, rfl, by omega, rfl⟩ ?_
 rintro m t w' ⟨q, rfl, rfl, hq, rfl⟩
 have hp := awG hN (j + q)
 have d1 : decide ((q : Int) < (N : Int)) = true := by simp only [decide_eq_true_eq]; omega
 have e1 : (N : Int).tdiv 2 = ((N / 2 : Nat) : Int) := by rw [aLr (by omega)]; omega
 have e3 : (N : Int).tdiv 8 = ((N / 8 : Nat) : Int) := by rw [aLr (by omega)]; omega
 have e4 : (((pos N (j + q) : Nat) : Int) + ((N / 2 : Nat) : Int) + ((N / 8 : Nat) : Int) + 3).tmod (N : Int) = ((pos N (j + q + 1) : Nat) : Int) := by
  rw [aLB (by omega), <- Mh]
  unfold adv
  simp
 unfold C1
 by_cases hqd : q < d
 .have := h1 q hqd
  have d2 : decide ((high : Int) - 1 < ((pos N (j + q) : Nat) : Int)) = true := by simp only [decide_eq_true_eq]; omega
  simp (disch := omega) only [aD, aS, d1, oR, e1, aP, e3, bK, aA, rD, e4, pB, bE, if_true, bJ, dE, d2, and_true, aG]
  exact ⟨d - (q + 1), by omega, q + 1, rfl, rfl, by omega⟩
 .have : q = d := by omega
  subst this
  have d2 : decide ((high : Int) - 1 < ((pos N (j + q) : Nat) : Int)) = false := by simp only [decide_eq_false_iff_not]; omega
  simp (disch := omega) only [aD, aS, d1, oR, aP, bK, aA, rD, pB, bE, if_true, bJ, dE, d2, and_true, aE]
  exact hR
theorem aAp {k : IntKind} {L : List Int} {rest : List aNF} {i : Nat} (h : i < L.length) (x : Int) : (fe k (m3 L) ++ rest).set (i * 3) (.int k x) = fe k (m3 (L.set i x)) ++ rest := by
 rw [aMr _ _ (by rw [pY]; simp [m3]; omega), ayK h]
theorem aGr {log N high cc p1 p6 b : Nat} {ps : List Int} {sv t2 : aNF} {arr arr' : List Int} {rest : List aNF} {w0 w : aNE} (hm : May log ps) (hs : Sl w0 sv (ps.map (Value.int .i64))) (hx : aW w0 w eT)
 (hN2 : N <= 32768) (hcc : N <= cc) (harr : arr.length = N) (hng : (wJ ps 0).length <= N) (ht : abW ps 0 N arr = (high, arr')) (hlo : w0.heap.size <= b) (hne : p1 ≠ b /\ p6 ≠ b)
 (o1 : eM w p1 [.int .i64 log, sv]) (o6 : eM w p6 [.int .i64 log, .slice (some ⟨b, 0, none⟩) N cc]) (ob : eM w b (fe .i64 (m3 arr) ++ rest))
 {k2 : aNF -> aNF -> aNF -> aNF -> aNF -> aNE -> Prop}
 (hR : ∀ w', eM w' b (fe .i64 (m3 arr') ++ rest) -> aW w w' (fun y => y = b) -> k2 (.pointer (some ⟨p1, 0, none⟩)) t2 (.int .i64 N) (.pointer (some ⟨p6, 0, none⟩)) (.int .i64 ((high : Int) - 1)) w') :
 Du k2 (.pointer (some ⟨p1, 0, none⟩)) t2 (.int .i64 N) (.pointer (some ⟨p6, 0, none⟩)) (.int .i64 ((N : Int) - 1)) (.int .i64 0) w := by
 have hlen := hm.len256
 obtain ⟨a, c, rfl, hc⟩ := hs.lenI
 unfold Du
 refine cS.rule (fun m t w' => ∃ (i hg : Nat) (ar : List Int), m = ps.length - i /\ t = (.int .i64 ((hg : Int) - 1), .int .i64 i) /\ i <= ps.length /\ (wJ (ps.drop i) i).length <= hg /\ hg <= N /\ ar.length = N /\ abW (ps.drop i) i hg ar = (high, arr') /\ eM w' b (fe .i64 (m3 ar) ++ rest) /\ aW w w' (fun y => y = b)) ps.length
  ⟨0, N, arr, rfl, rfl, by omega, by rw [aLf]; exact hng, by omega, harr, by rw [aLf]; exact ht, ob, aW.refl _ _⟩ ?_
 rintro m t w3 ⟨i, hg, ar, rfl, rfl, hi, hng, hgN, harr, htop, o3, x3⟩
 have c1 := (o1.ext x3 hne.1).cell (off := 1)
 have c6 := (o6.ext x3 hne.2).cell (off := 1)
 simp only [aK7, aK8] at c1 c6
 unfold Dr Lz
 by_cases hlt : i < ps.length
 .have d1 : decide ((i : Int) < (ps.length : Int)) = true := by simp; omega
  obtain ⟨b', off', c', e, _, hcell⟩ := (hs.ext (hx.new x3 hlo) (bZ _)).openI (by omega)
  cases e
  have g1 := hcell i hlt
  have hd : ps.drop i = ps[i] :: ps.drop (i + 1) := aLK hlt
  have hlow := hm.low _ (aLW hlt)
  rw [hd, wJ] at hng
  rw [hd, abW] at htop
  by_cases hp : ps[i] = -1
  .have d2 : decide (ps[i] < 0) = true := by simp; omega
   rw [if_pos hp] at hng htop
   simp only [aLw] at hng
   have e1 : (hg : Int) - 1 = ((hg - 1 : Nat) : Int) := by omega
   have e2 : IntKind.i64.wrap (((hg - 1 : Nat) : Int) - 1) = ((hg - 1 : Nat) : Int) - 1 := aP (by omega) (by omega)
   rw [e1]
   simp (disch := omega) only [aD, aN, aLa, bN, fE, aP, aA, bG, dT, c1, aH, gB, aS, d1, iD, aK9, bO, g1, d2, c6, bU, bV, aG]
   refine pD o3 rfl (by rw [aLh, pY]; simp [m3]; omega) fun w4 o4 x4 s4 => ?_
   rw [aAp (by omega)] at o4
   unfold Ag
   simp (disch := omega) only [aD, bK, aP, aA]
   exact ⟨ps.length - (i + 1), by omega, i + 1, hg - 1, _, rfl, rfl, by omega, by omega, by omega, by simp [harr], htop, o4, x3.trans x4 (fun _ _ h => h)⟩
  .have d2 : decide (ps[i] < 0) = false := by simp; omega
   rw [if_neg hp] at hng htop
   unfold Ag
   simp (disch := omega) only [aD, aN, aLa, bN, fE, aP, bK, aA, bG, dT, c1, aH, gB, aS, d1, iD, aK9, bO, g1, d2, c6, aE, aG]
   exact ⟨ps.length - (i + 1), by omega, i + 1, hg, ar, rfl, rfl, by omega, by omega, by omega, harr, htop, o3, x3⟩
 .have d1 : decide ((i : Int) < (ps.length : Int)) = false := by simp; omega
  rw [aMW (by omega), abW] at htop
  obtain ⟨rfl, rfl⟩ : hg = high /\ ar = arr' := by simpa using htop
  simp (disch := omega) only [aD, aN, aLa, bN, fE, aP, aA, bG, dT, c1, aH, gB, aS, d1, aE]
  exact hR _ o3 x3
theorem aDX {log N high cc p1 p6 b : Nat} {ps : List Int} {sv t2 : aNF} {arr : List Int} {rest : List aNF} {w0 w : aNE} (hm : May log ps) (hs : Sl w0 sv (ps.map (Value.int .i64))) (hx : aW w0 w eT)
 (hN1 : 32 <= N) (hN2 : N <= 32768) (hcc : N <= cc) (harr : arr.length = N) (hhigh : (tI ps 0).length = high) (hhN : high <= N) (hlo : w0.heap.size <= b) (hne : p1 ≠ b /\ p6 ≠ b)
 (o1 : eM w p1 [.int .i64 log, sv]) (o6 : eM w p6 [.int .i64 log, .slice (some ⟨b, 0, none⟩) N cc]) (ob : eM w b (fe .i64 (m3 arr) ++ rest))
 {k4 : aNF -> aNF -> aNF -> aNF -> aNE -> Prop}
 (hR : ∀ w', eM w' b (fe .i64 (m3 (place N high (tI ps 0) 0 arr)) ++ rest) -> aW w w' (fun y => y = b) -> k4 (.pointer (some ⟨p1, 0, none⟩)) t2 (.int .i64 N) (.pointer (some ⟨p6, 0, none⟩)) w') :
 De k4 (.pointer (some ⟨p1, 0, none⟩)) t2 (.int .i64 N) (.pointer (some ⟨p6, 0, none⟩)) (.int .i64 ((high : Int) - 1)) (.int .i64 0) (.int .i64 0) w := by
 have hlen := hm.len256
 obtain ⟨a, c, rfl, hc⟩ := hs.lenI
 unfold De
 refine cS.rule (fun m t w' => ∃ (s j : Nat) (ar : List Int), m = ps.length - s /\ t = (.int .i64 (pos N j : Nat), .int .i64 s) /\ s <= ps.length /\ ar.length = N /\ place N high (tI (ps.drop s) s) (pos N j) ar = place N high (tI ps 0) 0 arr /\ (tI (ps.drop s) s).length <= high /\ eM w' b (fe .i64 (m3 ar) ++ rest) /\ aW w w' (fun y => y = b)) ps.length
  ⟨0, 0, arr, rfl, by rw [We] <;> rfl, by omega, harr, by rw [We, aLf], by rw [aLf, hhigh]; exact aLm _, ob, aW.refl _ _⟩ ?_
 rintro m t w4 ⟨s, j, ar, rfl, rfl, hs4, har, hpl, hrl, o4, x4⟩
 have c1 := (o1.ext x4 hne.1).cell (off := 1)
 simp only [aK7, aK8] at c1
 unfold C5 JE
 by_cases hlt : s < ps.length
 .have d1 : decide ((s : Int) < (ps.length : Int)) = true := by simp; omega
  obtain ⟨q, hq⟩ : ∃ q, q = ps[s].toNat := ⟨_, rfl⟩
  rw [aAG hlt, <- hq] at hpl hrl
  have hqN : q <= N := by simp at hrl; omega
  simp (disch := omega) only [aD, aN, aLa, aA, dT, c1, aH, gB, aS, d1, aG]
  unfold Ks JM UN LL Ka KO
  refine cS.rule (fun m t w' => ∃ (k j : Nat) (ar : List Int), m = q - k /\ t = (.int .i64 (pos N j : Nat), .int .i64 k) /\ k <= q /\ ar.length = N /\ place N high (List.replicate (q - k) s ++ tI (ps.drop (s + 1)) (s + 1)) (pos N j) ar = place N high (tI ps 0) 0 arr /\ eM w' b (fe .i64 (m3 ar) ++ rest) /\ aW w w' (fun y => y = b)) q
   ⟨0, j, ar, rfl, rfl, by omega, har, hpl, o4, x4⟩ ?_
  rintro m t w5 ⟨k, j5, ar5, rfl, rfl, hk, har5, hpl5, o5, x5⟩
  have c15 := (o1.ext x5 hne.1).cell (off := 1)
  have c65 := (o6.ext x5 hne.2).cell (off := 1)
  simp only [aK7, aK8] at c15 c65
  obtain ⟨b', off', c', e, _, hcell⟩ := (hs.ext (hx.new x5 hlo) (bZ _)).openI (by omega)
  cases e
  have g1 := hcell s hlt
  unfold Dh LU
  by_cases hkq : k < q
  .have d2 : decide ((k : Int) < ps[s]) = true := by simp; omega
   have hp := awG (n := N) (by omega) j5
   have hhg : 0 < high := by simp at hrl; omega
   simp (disch := omega) only [aD, aN, aLa, aA, dT, c15, aH, iD, aK9, bO, g1, aS, d2, aG]
   unfold Kw LR UG LF
   simp (disch := omega) only [aD, bN, aLa, oR, aA, bK, rD, bG, c65, aH, bU, aK9, bV]
   refine pD o5 rfl (by rw [aLh, pY]; simp [m3]; omega) fun w6 o6' x6 s6 => ?_
   rw [aAp (by omega)] at o6'
   have e1 : (N : Int).tdiv 2 = ((N / 2 : Nat) : Int) := by rw [aLr (by omega)]; omega
   have e3 : (N : Int).tdiv 8 = ((N / 8 : Nat) : Int) := by rw [aLr (by omega)]; omega
   have e4 : (((pos N j5 : Nat) : Int) + ((N / 2 : Nat) : Int) + ((N / 8 : Nat) : Int) + 3).tmod (N : Int) = ((pos N (j5 + 1) : Nat) : Int) := by
    rw [aLB (by omega), <- Mh]
    unfold adv
    simp
   simp (disch := omega) only [e1, aP, e3, e4]
   unfold Ko
   rw [show q - k = (q - (k + 1)) + 1 from by omega, aLT, aMh, ayI, Mh] at hpl5
   obtain ⟨d, _, hd2, hd3⟩ := XN (n := N) (high := high) (by omega) hhg (j5 + 1)
   refine aGi (by omega) hN2 hhg hhN ?_
   rw [hd3] at hpl5 ⊢
   unfold DG
   simp (disch := omega) only [aD, bK, aP, aA]
   exact ⟨q - (k + 1), by omega, k + 1, j5 + 1 + d, _, rfl, rfl, by omega, by simp [har5], hpl5, o6', x5.trans x6 (fun _ _ h => h)⟩
  .have d2 : decide ((k : Int) < ps[s]) = false := by simp; omega
   rw [show q - k = 0 from by omega, List.replicate_zero, aMu] at hpl5
   unfold DK
   simp (disch := omega) only [aD, aN, aLa, bK, aP, aA, dT, c15, aH, iD, aK9, bO, g1, aS, d2, aE]
   exact ⟨ps.length - (s + 1), by omega, s + 1, j5, ar5, rfl, rfl, by omega, har5, hpl5, by simp at hrl; omega, o5, x5⟩
 .have d1 : decide ((s : Int) < (ps.length : Int)) = false := by simp; omega
  rw [aMW (by omega), tI, place] at hpl
  simp (disch := omega) only [aD, aN, aLa, aA, dT, c1, aH, gB, aS, d1, aE]
  exact hR _ (by rw [<- hpl]; exact o4) x4
theorem aFz {log N p6 : Nat} {c1 t2 : aNF} {w : aNE} (hN1 : 32 <= N) (hN2 : N <= 32768) (o6 : eM w p6 [.int .i64 log, .slice none 0 0])
 {k0 : aNF -> aNF -> aNF -> aNF -> aNE -> Prop}
 (hR : ∀ w' b cc rest, eM w' p6 [.int .i64 log, .slice (some ⟨b, 0, none⟩) N cc] -> eM w' b (fe .i64 (m3 (List.replicate N (-1))) ++ rest) -> N <= cc -> w.heap.size <= b -> aW w w' (fun y => y = p6 ∨ w.heap.size <= y) -> k0 c1 t2 (.int .i64 N) (.pointer (some ⟨p6, 0, none⟩)) w') :
 Db k0 c1 t2 (.int .i64 N) (.pointer (some ⟨p6, 0, none⟩)) (.int .i64 0) w := by
 have l6 := o6.lt
 unfold Db
 refine cS.rule (fun m t w' => ∃ (i : Nat) (v : aNF), m = N - i /\ t = .int .i64 i /\ i <= N /\ eM w' p6 [.int .i64 log, v] /\ sV w' w.heap.size 3 v i (fe .i64 (m3 (List.replicate i (-1)))) /\ aW w w' (fun y => y = p6 ∨ w.heap.size <= y)) N
  ⟨0, _, rfl, rfl, by omega, o6, sV.nil _ _ _, aW.refl _ _⟩ ?_
 rintro m t w1 ⟨i, v, rfl, rfl, hi, o1, os, x1⟩
 have c1' := o1.cell (off := 1)
 simp only [aK7, aK8] at c1'
 unfold Dg
 by_cases hlt : i < N
 .have d1 : decide ((i : Int) < (N : Int)) = true := by simp only [decide_eq_true_eq]; omega
  simp (disch := omega) only [aD, aS, d1, bN, aLa, eI, bK, aP, aA, bG, c1', aH, aG]
  refine S4 (cells := #[.int .i64 (-1), .int .i64 0, .int .i64 0]) (by decide) (by decide) (by kernel_rfl) fun w2 o2 x2 s2 => ?_
  refine xR (os.ext x2 (fun _ _ h => h)) (o2.cl (off := 0) (l := [.int .i64 (-1), .int .i64 0, .int .i64 0]) rfl (fun i hi => by rw [aLa])) (by simp [one]) (aMf x1.size x2.size) (by omega) fun v3 w3 o3 x3 => ?_
  have o13 := (o1.ext x2 (fun h => h)).ext x3 (by omega)
  refine SJ o13 ?_ (by simp) fun w4 o4 x4 s4 => ?_
  .obtain ⟨a, c, e⟩ := o3.len
   rw [e] <;> rfl
  simp only [aLd, aLc] at o4
  refine ⟨N - (i + 1), by omega, i + 1, v3, rfl, rfl, by omega, o4, ?_, ?_⟩
  .have e : fe .i64 (m3 (List.replicate (i + 1) (-1))) = fe .i64 (m3 (List.replicate i (-1))) ++ [.int .i64 (-1), .int .i64 0, .int .i64 0] := by
    rw [aM3]; unfold m3; rw [aLz, aA6] <;> rfl
   rw [e]
   exact o3.ext x4 (fun b hb h => by omega)
  .exact ((x1.seq (x2.mono fun _ _ h => h.elim)).seq (x3.mono fun _ _ h => .inr h)).seq (x4.mono fun _ _ h => .inl h)
 .have d1 : decide ((i : Int) < (N : Int)) = false := by simp only [decide_eq_false_iff_not]; omega
  have : i = N := by omega
  subst this
  simp (disch := omega) only [aD, aS, d1, bN, aLa, eI, bK, aP, aA, bG, aE]
  rcases os.2 with ⟨_, h⟩ | ⟨b, c, rest, rfl, h2, h3, h4, h5⟩
  .omega
  .exact hR _ b c rest o1 h3 h5 h2 x1
theorem aGY {k : IntKind} {L : List T3} {rest : List aNF} {i : Nat} (h : i < L.length) (x : Int) : (fe k L ++ rest).set (i * 3 + 1) (.int .i64 x) = fe k (L.set i (L[i].1, x, L[i].2.2)) ++ rest := by
 rw [aMr _ _ (by rw [pY]; omega), (aqV k L i h x).2.1]
theorem aHz {k : IntKind} {L : List T3} {rest : List aNF} {i : Nat} (h : i < L.length) (x : Int) : (fe k L ++ rest).set (i * 3 + 2) (.int .i64 x) = fe k (L.set i (L[i].1, L[i].2.1, x)) ++ rest := by
 rw [aMr _ _ (by rw [pY]; omega), (aqV k L i h x).2.2]
theorem aF5 {log N cc p1 p6 b ns : Nat} {ps S : List Int} {sv t2 : aNF} {rest : List aNF} {w0 w : aNE} (hm : May log ps) (L : Lay log ps S) (hN : 2 ^ log = N) (hs : Sl w0 sv (ps.map (Value.int .i64))) (hx : aW w0 w eT) (hcc : N <= cc)
 {i : Nat} (hlt : i < N) (hne : p1 ≠ b /\ p6 ≠ b /\ ns ≠ b /\ p1 ≠ ns /\ p6 ≠ ns)
 (o1 : eM w p1 [.int .i64 log, sv]) (o6 : eM w p6 [.int .i64 log, .slice (some ⟨b, 0, none⟩) N cc]) (ob : eM w b (fe .i64 (Es log ps S i) ++ rest)) (os : eM w ns ((cn S i).map (Value.int .i64)))
 {kn : aNF -> aNF -> aNF -> aNF -> aNF -> aNF -> aNE -> Prop} {R : aNF -> aNE -> Prop}
 (hR : ∀ w', eM w' b (fe .i64 (Es log ps S (i + 1)) ++ rest) -> eM w' ns ((cn S (i + 1)).map (Value.int .i64)) -> aW w w' (fun y => y = ns ∨ y = b) →
  kn (.pointer (some ⟨p1, 0, none⟩)) t2 (.int .i64 N) (.pointer (some ⟨p6, 0, none⟩)) (.pointer (some ⟨ns, 0, none⟩)) (.int .i64 ((i + 1 : Nat) : Int)) w') :
 C8 kn R (.pointer (some ⟨p1, 0, none⟩)) t2 (.int .i64 N) (.pointer (some ⟨p6, 0, none⟩)) (.pointer (some ⟨ns, 0, none⟩)) (.int .i64 i) w := by
 have h15 := hm.log15
 have hlen := hm.len256
 have hN2 : 2 ^ log <= 2 ^ 15 := aLj (by omega) h15
 have hSl : S.length = 2 ^ log := L.len
 obtain ⟨a, c, rfl, hc⟩ := hs.lenI
 have c1 := o1.cell (off := 1)
 have c6 := o6.cell (off := 1)
 simp only [aK7, aK8] at c1 c6
 have hltN : i < 2 ^ log := by omega
 obtain ⟨s, hsl, hsS, hp1, hp2, hk', hcnt⟩ := axQ hm L hltN
 obtain ⟨k, hkk⟩ : ∃ k, k = kAt ps S i := ⟨_, rfl⟩
 rw [<- hkk] at hk'
 have hk2 : k < 2 ^ (log + 1) := by rw [aLM]; omega
 have hel : i < (Es log ps S i).length := by rw [H2]; exact hltN
 have hE0 : (Es log ps S i)[i]'hel = ((s : Int), 0, 0) := by rw [aHe hltN, hsS]
 have g0 := ob.cell (off := i * 3)
 rw [aLy (by rw [pY]; omega), (WR .i64 (Es log ps S i) i hel).1, hE0] at g0
 simp only at g0
 obtain ⟨b', off', c', e, _, hcell⟩ := (hs.ext hx (bZ _)).openI (by omega)
 cases e
 have g1 := hcell s hsl
 have hlow := hm.low _ (aLW hsl)
 have hSi : S[i]'(by omega) = (s : Int) := by rw [<- hsS, aLl, aLg (by omega)] <;> rfl
 have gs := os.cell (off := s)
 rw [aLD, aLg (by rw [anT]; omega), aEt (by omega)] at gs
 simp only [aLZ] at gs
 have hcs := aJQ (S := S) (i := i) (s := s) (by omega) (by omega) hSi
 have d1 : decide ((s : Int) < 0) = false := by simp
 have d2 : decide ((ps.length : Int) <= (s : Int)) = false := by simp; omega
 unfold C8 Lr UC KX
 simp (disch := omega) only [aD, bN, aLa, aN, aA, fA, bG, c6, aH, bU, aK9, bV, bO, g0, aS, d1, dI, bE, aLb, if_false, bJ, dT, c1, gB, nF, d2, aE]
 have hpn := sT hlow
 have hcl : (S.take i).count (s : Int) <= i := by
  have := List.count_le_length (a := (s : Int)) (l := S.take i)
  rw [aLn] at this; omega
 have c10 := o1.cell (off := 0)
 simp only [aK7] at c10
 have ek : (((S.take i).count (s : Int) : Nat) : Int) + iU ps[s] = (k : Int) := by rw [hk']; omega
 have h9 : Gq (fun cC t2 iC t6 cZ nS w => Bu kn cC t2 iC t6 cZ nS w) (.pointer (some ⟨p1, 0, none⟩)) t2 (.int .i64 N) (.pointer (some ⟨p6, 0, none⟩)) (.pointer (some ⟨ns, 0, none⟩)) (.int .i64 i) (.int .i64 (s : Int)) (.int .i64 (iU ps[s])) w := by
  unfold Gq OI
  simp (disch := omega) only [aD, mR, aK9, aLa, bB, aA, bO, gs, aH, bK, ek, aP]
  refine pD os rfl (by rw [aLk, anT]; omega) fun w2 os2 x2 s2 => ?_
  rw [<- aNt, hcs] at os2
  have o12 := o1.ext x2 (by omega)
  have o62 := o6.ext x2 (by omega)
  have ob2 := ob.ext x2 (by omega)
  have c12 := o12.cell (off := 0)
  have c62 := o62.cell (off := 1)
  simp only [aK7, aK8] at c12 c62
  simp (disch := omega) only [c12, aH, aA]
  unfold M8 Np
  refine aF0 (w0 := w0) h15 (by omega) hk2 o12 ?_
  unfold FE
  obtain ⟨nbits, hnbits⟩ : ∃ x, x = log + 1 - bl k := ⟨_, rfl⟩
  obtain ⟨eb1, eb2, eb3, eb4⟩ := aBN (log := log) (k := k) (by omega) hk2
  rw [<- hnbits] at eb1 eb2 ⊢
  have hent : UU log ps S i = GN log (s : Int) k := by unfold UU; rw [hsS, <- hkk]
  have hes := aGH (log := log) (ps := ps) (S := S) (i := i) hltN
  rw [hent] at hes
  simp (disch := omega) only [aD, bN, aLa, jJ, Result.ok.injEq, Next.value.injEq, and_true, true_and, aA, bG, c62, aH, bU, aK9, cP]
  refine pD ob2 rfl (by rw [aLh, pY, H2]; omega) fun w3 ob3 x3 s3 => ?_
  rw [aGY hel, hE0] at ob3
  have o63 := kA (o62.ext x3 (by omega))
  have ob3 := kA ob3
  have c63 := o63.cell (off := 1)
  simp only [aK7, aK8] at c63
  simp (disch := omega) only [c63, aH, aA, bU, aK9, aLa, dC, true_and]
  refine (IV nbits (by omega) _).mono ?_
  rintro r w4 ⟨rfl, rfl⟩
  have hA := aMf (aMf (aLG (2 ^ nbits) (show k <= k + 1 by omega)) eb2) (aLj (show 0 < 2 by omega) (show log + 1 <= 16 by omega))
  have hpw : ((2 ^ nbits : Nat) : Int) = (2 : Int) ^ nbits := by simp
  rw [<- hpw]
  have em : (k : Int) * ((2 ^ nbits : Nat) : Int) = ((k * 2 ^ nbits : Nat) : Int) := by simp
  have e5 : (((k * 2 ^ nbits : Nat) : Int) - (N : Int)) = (GN log (s : Int) k).2.2 := by
   unfold GN
   simp only
   rw [<- hnbits, <- hN]
   simp
  have e7 : (GN log (s : Int) k) = ((s : Int), (nbits : Int), (GN log (s : Int) k).2.2) := by unfold GN; rw [hnbits]
  generalize hq : k * 2 ^ nbits = q at *
  have e6 : IntKind.i64.wrap ((q : Int) - (N : Int)) = (q : Int) - (N : Int) := aP (by omega) (by omega)
  have ew : IntKind.i64.wrap (q : Int) = (q : Int) := aP (by omega) (by omega)
  generalize hbase : (GN log (s : Int) k).2.2 = base at *
  rw [e5] at e6
  simp (disch := omega) only [c63, aH, oN, em, ew, aA, fE, e5, e6, true_and]
  have hel5 : i < ((Es log ps S i).set i ((s : Int), (nbits : Int), 0)).length := by simpa using hel
  refine pD ob3 rfl (by rw [aLh, pY]; simp [H2]; omega) fun w5 ob5 x5 s5 => ?_
  rw [aHz hel5] at ob5
  simp only [aNg, List.set_set] at ob5
  rw [<- e7, hes] at ob5
  unfold Bu
  simp (disch := omega) only [aD, bK, aP, aA]
  refine hR _ ob5 ((kA (os2.ext x3 (by omega))).ext x5 (by omega)) ?_
  exact (((x2.mono fun _ _ h => .inl h : aW w w2 (fun y => y = ns ∨ y = b)).seq (x3.mono fun _ _ h => .inr h)).seq (aW.dr _ _)).seq (x5.mono fun _ _ h => .inr h)
 unfold KP LS
 by_cases hneg : ps[s] < 0
 .have d3 : decide (ps[s] < 0) = true := by simpa using hneg
  have ep : iU ps[s] = 1 := by unfold iU; rw [if_pos hneg]
  rw [ep] at h9
  simp (disch := omega) only [aD, aN, aLa, aA, dT, c1, aH, iD, aK9, bO, g1, aS, d3, aG]
  exact h9
 .have d3 : decide (ps[s] < 0) = false := by simpa using hneg
  have ep : iU ps[s] = ps[s] := by unfold iU; rw [if_neg hneg]
  rw [ep] at h9
  simp (disch := omega) only [aD, aN, aLa, aA, dT, c1, aH, iD, aK9, bO, g1, aS, d3, aE]
  exact h9
theorem aGp {log N cc p1 p2 p6 b : Nat} {ps S : List Int} {sv : aNF} {rest : List aNF} {w0 w : aNE} (hm : May log ps) (L : Lay log ps S) (hN : 2 ^ log = N) (hs : Sl w0 sv (ps.map (Value.int .i64))) (hx : aW w0 w eT) (hcc : N <= cc)
 (hne : p1 ≠ b /\ p6 ≠ b /\ p2 ≠ b /\ p2 ≠ p6 /\ p1 ≠ p2) (hlo : w0.heap.size <= b /\ w0.heap.size <= p2)
 (o1 : eM w p1 [.int .i64 log, sv]) (o2 : eM w p2 [.int .i64 0, .slice none 0 0]) (o6 : eM w p6 [.int .i64 log, .slice (some ⟨b, 0, none⟩) N cc]) (ob : eM w b (fe .i64 (m3 S) ++ rest)) {R : aNF -> aNE -> Prop}
 (hR : ∀ w', eM w' b (fe .i64 (Es log ps S N) ++ rest) -> aW w0 w' eT -> R (.tuple #[.agg #[.int .i64 log, .slice (some ⟨b, 0, none⟩) N cc], .int .i64 0]) w') :
 CY R (.pointer (some ⟨p1, 0, none⟩)) (.pointer (some ⟨p2, 0, none⟩)) (.int .i64 N) (.pointer (some ⟨p6, 0, none⟩)) w := by
 have hN2 : 2 ^ log <= 2 ^ 15 := aLj (by omega) hm.log15
 unfold CY J7
 refine aBK fun w1 os x1 s1 => ?_
 obtain ⟨cs, hcs, os⟩ : ∃ cs, cs = List.replicate 256 (Value.int .i64 0) /\ eM w1 w.heap.size cs := ⟨_, by kernel_rfl, os⟩
 rw [hcs] at os
 have os : eM w1 w.heap.size ((cn S 0).map (Value.int .i64)) := by rw [aIz, aNu]; exact os
 have l1 := o1.lt
 have l2 := o2.lt
 have l6 := o6.lt
 have lb := ob.lt
 have hxs := hx.size
 have o1 := o1.ext x1 (fun h => h)
 have o2 := o2.ext x1 (fun h => h)
 have o6 := o6.ext x1 (fun h => h)
 have ob := ob.ext x1 (fun h => h)
 have x01 := hx.seq x1
 generalize w.heap.size = ns at *
 have ob : eM w1 b (fe .i64 (Es log ps S 0) ++ rest) := by rw [aE8 L.len]; exact ob
 unfold Lv Lw KF J9 KW
 refine cS.rule (fun m t w' => ∃ i : Nat, m = N - i /\ t = .int .i64 i /\ i <= N /\ eM w' b (fe .i64 (Es log ps S i) ++ rest) /\ eM w' ns ((cn S i).map (Value.int .i64)) /\ aW w1 w' (fun y => y = ns ∨ y = b)) N ⟨0, rfl, rfl, by omega, ob, os, aW.refl _ _⟩ ?_
 rintro m t w2 ⟨i, rfl, rfl, hi, ob2, os2, x2⟩
 have x02 : aW w0 w2 eT := x01.trans x2 (fun y hy hh => by omega)
 have o62 := o6.ext x2 (by omega)
 unfold Dd Lm
 by_cases hlt : i < N
 .have d1 : decide ((i : Int) < (N : Int)) = true := by simp only [decide_eq_true_eq]; omega
  simp (disch := omega) only [aD, aS, d1, aA, aG]
  refine aF5 hm L hN hs x02 hcc hlt (by omega) (o1.ext x2 (by omega)) o62 ob2 os2 fun w3 ob3 os3 x3 => ?_
  exact ⟨N - (i + 1), by omega, i + 1, rfl, rfl, by omega, ob3, os3, x2.trans x3 (fun _ _ h => h)⟩
 .have d1 : decide ((i : Int) < (N : Int)) = false := by simp only [decide_eq_false_iff_not]; omega
  have : i = N := by omega
  subst this
  have l4 := vL (off := 0) o62 (by simp)
  simp only [aLf, aLe, aLi] at l4
  simp (disch := omega) only [aD, aS, d1, aA, aE]
  unfold F0
  simp (disch := omega) only [aD, l4, aA]
  refine Az (o2.ext x2 (by omega)) rfl (by simp [one]) (by simp) fun w5 o25 x5 s5 => ?_
  refine Vb o25 (by simp [bM]) ?_
  simp only [bM, aLd, aLc, aLf, aLe, aLi]
  exact hR _ (ob2.ext x5 (by omega)) (x02.new x5 hlo.2)
theorem aEM {log : Nat} {sv : aNF} {ps : List Int} {w : aNE} (hm : May log ps) (hs : Sl w sv (ps.map (Value.int .i64))) :
 aT pg I7 #[.agg #[.int .i64 log, sv]] w (fun r w' => ∃ b cc rest, r = .tuple #[.agg #[.int .i64 log, .slice (some ⟨b, 0, none⟩) (2 ^ log) cc], .int .i64 0] /\ w.heap.size <= b /\ eM w' b (fe .i64 (xC log ps) ++ rest) /\ aW w w' eT) := by
 refine amI ?_
 have hlen := hm.len256
 have h15 := hm.log15
 have hN2 : 2 ^ log <= 2 ^ 15 := aLj (by omega) h15
 have hN1 : 2 ^ 5 <= 2 ^ log := aLj (by omega) hm.log5
 unfold arN JR Kp
 refine nO fun w1 o1 x1 s1 => ?_
 refine BL fun w2 o2 x2 s2 => ?_
 have o1 := o1.ext x2 (fun h => h)
 have l1 := pW (off := 0) o1 (by simp [Value.cells])
 simp only [Value.cells, aLf, aLe, aLi] at l1
 simp (disch := omega) only [aD, l1, fA, aA, bB, bO]
 refine (aEi (most := 15) ((hs.ext x1 (bZ _)).ext x2 (bZ _)) (by omega)).mono ?_
 rintro r w3 ⟨rfl, x3⟩
 have hce := aFh (most := 15) hm hm.log15
 rw [show (((15 : Nat) : Int)) = 15 from rfl] at hce
 rw [hce]
 have e0 : ((0 : Int) != 0) = false := rfl
 have o1 := o1.ext x3 (fun h => h)
 have o2 := o2.ext x3 (fun h => h)
 have c0 := o1.cell (off := 0)
 simp only [Value.cells, aK7] at c0
 simp (disch := omega) only [cY, e0, aA, c0, aH, aE]
 refine (IV log (by omega) _).mono ?_
 rintro r w4 ⟨rfl, rfl⟩
 have hpow : ((2 ^ log : Nat) : Int) = (2 : Int) ^ log := by simp
 rw [<- hpow]
 simp (disch := omega) only [c0, aH, aA, fB]
 refine BL fun w5 o5 x5 s5 => ?_
 refine Az o5 rfl (by simp [one]) (by simp) fun w6 o6 x6 s6 => ?_
 simp only [bM, aLd, aLc] at o6
 have l1 := o1.lt
 have l2 := o2.lt
 have l6 := o6.lt
 have z1 := x1.size
 have z2 := x2.size
 have z3 := x3.size
 have z5 := x5.size
 have z6 := x6.size
 have o1 := (o1.ext x5 (fun h => h)).ext x6 (by omega)
 have o2 := (o2.ext x5 (fun h => h)).ext x6 (by omega)
 have x06 : aW w w6 eT := ((((x1.seq x2).seq x3).seq x5)).new x6 (by omega)
 have hne : w.heap.size ≠ w1.heap.size /\ w.heap.size ≠ w4.heap.size /\ w1.heap.size ≠ w4.heap.size := by omega
 have hp12 : w.heap.size <= w1.heap.size /\ w1.heap.size <= w4.heap.size := by omega
 obtain ⟨p1, hp1⟩ : ∃ p1, p1 = w.heap.size := ⟨_, rfl⟩
 generalize w1.heap.size = p2 at *
 generalize w4.heap.size = p6 at *
 rw [<- hp1] at o1 ⊢
 obtain ⟨arr, ht, harr, hneg, hsp⟩ := asF hm (-1)
 have hlay := Og hm (-1)
 have hEs := aH6 log ps
 rw [aGn hm 0 (-1)] at hEs
 rw [hsp] at hlay hEs
 generalize hN : 2 ^ log = N at *
 unfold LQ Kx J1 J8
 refine aFz (by omega) (by omega) o6 fun w7 b cc rest o67 ob hcc hb x7 => ?_
 have o17 := o1.ext x7 (by omega)
 have o27 := o2.ext x7 (by omega)
 have x07 : aW w w7 eT := x06.trans x7 (fun y hy hh => by omega)
 unfold LB KS
 simp (disch := omega) only [aD, fE, aP, aA]
 unfold KL Lb JQ JY
 refine aGr hm hs x07 (by omega) hcc (by simp) (by omega) ht (by omega) (by omega) o17 o67 ob fun w8 ob8 x8 => ?_
 have x08 := x07.new x8 (by omega)
 have o18 := o17.ext x8 (by omega)
 have o28 := o27.ext x8 (by omega)
 have o68 := o67.ext x8 (by omega)
 unfold La Lg KZ KG Kh KJ
 refine aDX hm hs x08 (by omega) (by omega) hcc harr rfl (by omega) (by omega) (by omega) o18 o68 ob8 fun w9 ob9 x9 => ?_
 have x09 := x08.new x9 (by omega)
 refine aGp hm hlay hN hs x09 hcc (by omega) (by omega) (o18.ext x9 (by omega)) (o28.ext x9 (by omega)) (o68.ext x9 (by omega)) ob9 fun w10 ob10 x10 => ?_
 rw [hEs] at ob10
 exact ⟨b, cc, rest, rfl, by omega, ob10, x10⟩
theorem aFP {log : Nat} {ps : List Int} (hm : May log ps) : ∀ e ∈ xC log ps, 0 <= e.1 /\ e.1 < 256 := by
 intro e he
 obtain ⟨i, hi, rfl⟩ := aMD he
 have h2 : i < 2 ^ log := by rw [xJ] at hi; exact hi
 rw [aEo log ps h2]
 obtain ⟨s, hs, e, _⟩ := axQ hm (Og hm 0) h2
 have := hm.len256
 rw [e]; omega
end Go.Proofs.YtgpimhlgaokobaaGreat
namespace Go.Proofs.YtgpimhlgaokobaaGreat
open Go Go.En Go.Pu
theorem ahH : ((⟨#[]⟩ : ByteArray).toList == (⟨#[]⟩ : ByteArray).toList) = true := by simp
theorem aoO {x : ByteArray} (h : 0 < x.size) : (x.toList == (⟨#[]⟩ : ByteArray).toList) = false := by
 rw [ByteArray.toList_eq, ByteArray.toList_eq]
 have hl := gM x
 unfold fZ at hl
 cases hx : x.data.toList with
 | nil => rw [hx] at hl; simp at hl; omega
 | cons a l => rfl
theorem agH (x : ByteArray) : (x.toList == x.toList) = true := by simp
end Go.Proofs.YtgpimhlgaokobaaGreat
namespace Go.Proofs.YtgpimhlgaokobaaGreat
open Go Go.En Go.Pu
set_option maxRecDepth 4000
theorem AtI.mono {v : aNF} {lo hi lo' hi' : Nat} (h : AtI v lo hi) (h1 : lo' <= lo) (h2 : hi <= hi') : AtI v lo' hi' := fun M hM => h M fun b hb hh => hM b (by omega) (by omega)
theorem ayG {x : ByteArray} {w : aNE} (he : Yf (fZ x) = none) (hl : x.size <= 1000000) :
 aT pg EE #[.string x] w (fun r w' => r = .tuple #[.agg #[.slice none 0 0, .int .i64 0], .int .i64 11] /\ aW w w' eT) := by
 refine Xp ?_
 have hll := gM x
 unfold apX MH Mv
 refine jU fun w1 o1 x1 s1 => ?_
 rcases aMv x.size with h0 | h0
 .have hx : x = ⟨#[]⟩ := XW (aLI.1 (by rw [hll, h0]))
  subst hx
  simp (disch := omega) only [aD, zX, ahH, eD, aA, jM, bE, if_true, aG, cK]
  refine cL o1 rfl (by simp [one]) (by simp) fun w6 o6 x6 s6 => ?_
  refine lX o6 (by simp [bM]) ⟨rfl, ?_⟩
  exact x1.new x6 (aLm _)
 .rw [MN (by omega)] at he
  have hg : (x[x.size - 1]'(by omega)).toNat = 0 := by
   rw [QE]
   simp only [hll] at he
   split at he
   .assumption
   .cases he
  have e1 : (x.size : Int) - 1 = ((x.size - 1 : Nat) : Int) := by omega
  have d2 : (((0 : Nat) : Int) == 0) = true := rfl
  have hne := aoO h0
  simp (disch := omega) only [aD, zX, hne, eD, aA, dI, bE, aLb, if_false, bJ, dU, fE, e1, aP, jD, aK9, hg, dQ, d2, aG]
  refine cL o1 rfl (by simp [one]) (by simp) fun w6 o6 x6 s6 => ?_
  refine lX o6 (by simp [bM]) ⟨rfl, ?_⟩
  exact x1.new x6 (aLm _)
def RB (w : aNE) (lo hi : Nat) (b : aNF) (L : List Bool) (lack : Nat) : Prop := ∃ v, b = .agg #[v, .int .i64 lack] /\ Bl w v L /\ AtI v lo hi
theorem RB.ext {w w' : aNE} {lo hi lack : Nat} {b : aNF} {L : List Bool} {M : Nat -> Prop} (h : RB w lo hi b L lack) (hx : aW w w' M) (hM : ∀ b, lo <= b -> b < hi -> ¬ M b) : RB w' lo hi b L lack := by
 obtain ⟨v, h1, h2, h3⟩ := h
 exact ⟨v, h1, h2.ext hx (h3 M hM), h3⟩
theorem aAC {x : ByteArray} {k : Nat} {w : aNE} (he : Yf (fZ x) = some k) (hl : x.size <= 1000000) :
 aT pg EE #[.string x] w (fun r w' => ∃ b hi, r = .tuple #[b, .int .i64 0] /\ hi <= w'.heap.size /\ RB w' w.heap.size hi b ((aZ (fZ x)).take k) 0 /\ aW w w' eT) := by
 refine Xp ?_
 have hll := gM x
 obtain ⟨h0, hk1, hk2, htop, hoff⟩ := Ij he
 unfold apX MH Mv
 refine jU fun w1 o1 x1 s1 => ?_
 rw [MN (by omega)] at he
 have hg : (x[x.size - 1]'(by omega)).toNat ≠ 0 := by
  rw [QE]
  simp only [hll] at he
  split at he
  .cases he
  .assumption
 have e1 : (x.size : Int) - 1 = ((x.size - 1 : Nat) : Int) := by omega
 have hne := aoO (show 0 < x.size by omega)
 have d2 : (((x[x.size - 1]'(by omega)).toNat : Int) == 0) = false := by simpa using hg
 simp (disch := omega) only [aD, zX, hne, eD, aA, dI, bE, aLb, if_false, bJ, dU, fE, e1, aP, jD, aK9, dQ, d2, aE]
 refine (awC hl).mono ?_
 rintro r w2 ⟨o2, x2⟩
 have hat := sV.atI o2
 have hs := o2.sl
 have hbl := lY (fZ x)
 obtain ⟨a, c, rfl⟩ := o2.len
 have o12 := o1.ext x2 (fun h => h)
 simp (disch := omega) only [lI, aA, fE, aP]
 unfold Tq Ug TW
 refine cS.rule (fun m (t : aNF) w' => t = .int .i64 m /\ k <= m /\ m < 8 * x.size /\ w' = w2) (8 * x.size - 1)
  ⟨by have : ((8 * x.size : Nat) : Int) - 1 = ((8 * x.size - 1 : Nat) : Int) := by omega
      rw [this], by omega, by omega, rfl⟩ ?_
 rintro m t w3 ⟨rfl, hm1, hm2, rfl⟩
 unfold Mj
 obtain ⟨b, off, c', e, _, hcell⟩ := aHv hs (by omega)
 rw [hbl, hll] at e
 cases e
 have hgm : (aZ (fZ x))[m]? = some (decide (m = k)) := by
  by_cases h : m = k
  .subst h; simpa using htop
  .rw [hoff m (by omega) (by omega)]; simp [h]
 have g := hcell m (by omega)
 rw [aLg (by omega)] at hgm
 rw [aLA hgm] at g
 by_cases h : m = k
 .subst h
  have d3 : decide (m = m) = true := by simp
  have hsl := hs.take' (k := m) (by omega)
  have hsub : AtI (.slice (mW (some ⟨b, off, none⟩) c 0 1) (m - 0) (c - 0)) w1.heap.size w3.heap.size := AtI.sub hat (by omega)
  rw [<- aMZ] at hsl
  unfold Ms
  simp (disch := omega) only [aD, nQ, aK9, fE, aP, aA, lM, fD, uF, g, aH, oP, and_true]
  refine cL o12 rfl (by simp [one]) (by simp) fun w6 o6 x6 s6 => ?_
  refine lX o6 (by simp [bM]) ?_
  simp only [bM, aLd, aLc, aLf, aLe, aLi]
  have z1 := x1.size
  have z2 := x2.size
  refine ⟨_, w3.heap.size, rfl, by have := x6.size; omega, ⟨_, rfl, hsl.ext x6 (hsub _ fun b hb hh => by omega), AtI.mono hsub (by omega) (by omega)⟩, ?_⟩
  exact (x1.seq x2).new x6 (by omega)
 .have d3 : decide (m = k) = false := by simpa using h
  have e2 : (m : Int) - 1 = ((m - 1 : Nat) : Int) := by omega
  simp (disch := omega) only [aD, nQ, aK9, fE, e2, aP, aA, uF, g, d3, aH, oP, aLE, and_true, aG]
  exact ⟨m - 1, by omega, rfl, by omega, by omega⟩
theorem aqD {lo hi lack n : Nat} {b : aNF} {L : List Bool} {w : aNE} (h : RB w lo hi b L lack) (hn : n <= 56) (hL : L.length <= 10000000) (hk : lack <= 1000000000) :
 aT pg zJ #[b, .int .i64 n] w (fun r w' => ∃ b', r = .tuple #[b', .int .u64 (qH L n : Nat)] /\ RB w' lo hi b' (L.take (L.length - min n L.length)) (lack + (n - min n L.length)) /\ aW w w' eT) := by
 refine auJ ?_
 obtain ⟨RR, hRR⟩ : ∃ RR : aNF -> aNE -> Prop, RR = fun r w' => ∃ b', r = .tuple #[b', .int .u64 (qH L n : Nat)] /\ RB w' lo hi b' (L.take (L.length - min n L.length)) (lack + (n - min n L.length)) /\ aW w w' eT := ⟨_, rfl⟩
 rw [<- hRR]
 obtain ⟨v, rfl, hs, hat⟩ := h
 obtain ⟨a, c, rfl, hc⟩ := GG hs
 unfold awF M3 Pr
 refine nO fun w1 o1 x1 s1 => ?_
 refine jU fun w2 o2 x2 s2 => ?_
 simp only [Value.cells] at o1
 have o1 := o1.ext x2 (fun h => h)
 have c0 := o1.cell (off := 0)
 simp only [aK7, aK8] at c0
 have x02 : aW w w2 eT := x1.seq x2
 have hne : w.heap.size ≠ w1.heap.size := by omega
 obtain ⟨p1, hp1⟩ : ∃ p1, p1 = w.heap.size := ⟨_, rfl⟩
 obtain ⟨p2, hp2⟩ : ∃ p2, p2 = w1.heap.size := ⟨_, rfl⟩
 rw [<- hp1, <- hp2] at hne
 rw [<- hp1] at o1 c0 ⊢
 rw [<- hp2] at o2 ⊢
 have hw1 : w.heap.size <= p1 := by omega
 have hw2 : w.heap.size <= p2 := by omega
 have fin : ∀ (v : aNF) (l : Nat) (w' : aNE) (xx : Nat), eM w' p1 [v, .int .i64 l] -> one v = true -> eM w' p2 [.slice none 0 0, .int .i64 0] -> aW w w' eT →
     (∀ w'', aW w w'' eT -> RR (.tuple #[.agg #[v, .int .i64 l], .int .u64 xx]) w'') -> aD pg (aL 133 (.pointer (some ⟨p1, 0, none⟩))) w' fun t15 w => aD pg (aR 133 (.pointer (some ⟨p2, 0, none⟩)) t15) w fun _u w => An pg 133 (.pointer (some ⟨p2, 0, none⟩)) w fun r0 => RR (.tuple #[r0, .int .u64 xx]) w := by
  intro v l w' xx q1 qv q2 qx qk
  have l1 := fM (off := 0) q1 (by simp)
  simp only [aLf, aLe, aLi] at l1
  simp (disch := omega) only [aD, l1, aA]
  refine cL q2 rfl (by simp [one]; exact qv) (by simp) fun w6 o6 x6 s6 => ?_
  refine lX o6 (by simp [bM]) ?_
  simp only [bM, aLd, aLc, aLf, aLe, aLi]
  exact qk _ (qx.new x6 hw2)
 by_cases hn0 : n = 0
 .subst hn0
  have d1 : decide (((0 : Nat) : Int) < 1) = true := rfl
  simp (disch := omega) only [aD, aS, d1, cJ, aA, lU, jM, bE, if_true, aG, cK]
  refine fin _ lack w2 0 o1 rfl o2 x02 fun w' x => ?_
  rw [hRR]
  refine ⟨.agg #[.slice a L.length c, .int .i64 lack], ?_, ⟨_, rfl, ?_, hat⟩, x⟩
  .have h0 : qH L 0 = 0 := by
    have := tC L 0
    rw [Nat.pow_zero] at this; omega
   rw [h0]
  .have : L.take (L.length - min 0 L.length) = L := aLH (by omega)
   rw [this]
   exact hs.ext x (bZ _)
 have d1 : decide ((n : Int) < 1) = false := by simp; omega
 have d2 : decide ((56 : Int) < (n : Int)) = false := by simp; omega
 have hlt := tC L n
 have hp : 2 ^ n <= 2 ^ 56 := aLj (by omega) hn
 have tail : ∀ k : Nat, k = min n L.length -> II RR
     (.int .i64 n) (.pointer (some ⟨p1, 0, none⟩)) (.pointer (some ⟨p2, 0, none⟩)) (.int .i64 k) w2 := by
  intro k hk0
  rw [<- hk0] at hRR
  have hsd := (hs.ext x02 (bZ _)).drop' (k := L.length - k) (by omega)
  rw [<- aMS] at hsd
  have hval : qH L n = wM (L.drop (L.length - k)) * 2 ^ (n - k) := by unfold qH; rw [<- hk0]
  have e1 : (L.length : Int) - (k : Int) = ((L.length - k : Nat) : Int) := by omega
  unfold II Rd
  simp (disch := omega) only [aD, cJ, aA, lU, c0, aH, lI, fE, e1, aP, mC, aK9]
  refine (asR hsd (by rw [aLs]; omega)).mono ?_
  rintro r w3 ⟨rfl, rfl⟩
  generalize wM (L.drop (L.length - k)) = x0 at *
  unfold QX RX Ri R1 Rx
  refine cS.rule (fun m (t : aNF × aNF) w' => ∃ i : Nat, m = n - i /\ t = (.int .u64 (x0 * 2 ^ (i - k) : Nat), .int .i64 i) /\ k <= i /\ i <= n /\ eM w' p1 [.slice a L.length c, .int .i64 (lack + (i - k) : Nat)] /\ aW w3 w' (fun y => y = p1)) (n - k)
   ⟨k, rfl, by simp, by omega, by omega, by simpa using o1, aW.refl _ _⟩ ?_
  rintro m t w4 ⟨i, rfl, rfl, hi1, hi2, o4, x4⟩
  have c14 := o4.cell (off := 1)
  have c04 := o4.cell (off := 0)
  simp only [aK7, aK8] at c14 c04
  unfold IS
  by_cases hlt2 : i < n
  .have d3 : decide ((i : Int) < (n : Int)) = true := by simp; omega
   have hle : x0 * 2 ^ (i + 1 - k) <= qH L n := by
    rw [hval]; exact Nat.mul_le_mul_left _ (aLj (by omega) (by omega))
   have hsu : x0 * 2 ^ (i + 1 - k) = x0 * 2 ^ (i - k) * 2 := by rw [show i + 1 - k = i - k + 1 from by omega, aLM, aNk]
   generalize x0 * 2 ^ (i - k) = y at *
   have e2 : ((lack + (i - k) : Nat) : Int) + 1 = ((lack + (i + 1 - k) : Nat) : Int) := by omega
   have e3 : (y : Int) * 2 = ((y * 2 : Nat) : Int) := by omega
   simp (disch := omega) only [aD, aS, d3, oN, e3, kS, cN, aLa, bK, aP, aA, bO, c14, aH, e2, aG]
   refine pD o4 rfl (by simp) fun w5 o5 x5 s5 => ?_
   simp only [aLd, aLc] at o5
   exact ⟨n - (i + 1), by omega, i + 1, by omega, by rw [hsu]; simp, by omega, by omega, o5, x4.seq x5⟩
  .have d3 : decide ((i : Int) < (n : Int)) = false := by simp; omega
   obtain rfl : i = n := by omega
   rw [<- hval]
   unfold IK
   simp (disch := omega) only [aD, aS, d3, oN, kS, cN, aLa, bK, aP, aA, bO, cJ, lU, c04, aH, lI, fE, e1, lM, aK9, aE]
   refine aEz o4 rfl (by simp) fun w5 o5 x5 s5 => ?_
   simp only [aLd, aLc] at o5
   have x35 := x4.seq x5
   refine fin _ _ w5 _ o5 rfl (o2.ext x35 (by omega)) (x02.new x35 hw1) fun w' x => ?_
   rw [hRR]
   refine ⟨_, rfl, ⟨_, rfl, ?_, AtI.sub hat (by omega)⟩, x⟩
   have hst := hs.take' (k := L.length - k) (by omega)
   rw [<- aMZ] at hst
   exact hst.ext x (bZ _)
 by_cases hgt : L.length < n
 .have d3 : decide ((L.length : Int) < (n : Int)) = true := by simp; omega
  simp (disch := omega) only [aD, aS, d1, cJ, aA, lU, dI, bE, aLb, if_false, bJ, dE, d2, c0, aH, lI, d3, aG, aE]
  exact tail _ (by omega)
 .have d3 : decide ((L.length : Int) < (n : Int)) = false := by simp; omega
  simp (disch := omega) only [aD, aS, d1, cJ, aA, lU, dI, bE, aLb, if_false, bJ, dE, d2, c0, aH, lI, d3, aE]
  exact tail _ (by omega)
theorem arC {lo hi lack : Nat} {b : aNF} {L : List Bool} {w : aNE} (h : RB w lo hi b L lack) (hL : L.length <= 10000000) (hk : lack <= 1000000000) :
 aT pg B4 #[b] w (fun r w' => r = .int .i64 ((L.length : Int) - lack) /\ aW w w' eT) := by
 refine avL ?_
 obtain ⟨v, rfl, hs, hat⟩ := h
 obtain ⟨a, c, rfl, hc⟩ := GG hs
 unfold ayD Ru
 refine nO fun w1 o1 x1 s1 => ?_
 simp only [Value.cells] at o1
 have c0 := o1.cell (off := 0)
 have c1 := o1.cell (off := 1)
 simp only [aK7, aK8] at c0 c1
 simp (disch := omega) only [aD, cJ, cN, aLa, aA, bO, lU, c0, aH, lI, c1, fE, aP, true_and]
 exact x1
def lB (L : List T3) (s : Int) : Nat := if 0 <= s then (match L[s.toNat]? with | some e => e.2.1.toNat | none => 0) else 0
def vI (L : List T3) (s : Int) (x : Nat) : Int := if 0 <= s then (match L[s.toNat]? with | some e => e.2.2 + x | none => 0) else 0
theorem aAq {L : List T3} (h : Low L) (s : Int) : lB L s <= 20 := by
 unfold lB
 split
 .split
  .rename_i e he
   obtain ⟨n, h1, h2, _⟩ := h _ (aMg he)
   rw [h1]; simpa using h2
  .omega
 .omega
theorem axZ {log lo hi : Nat} {a : Option Addr} {k c : Nat} {l : List UInt8} {left : Int} {w : aNE} (h : Bwd w lo hi l left) (hlh : lo <= hi) (hhi : hi < w.heap.size) (hn : log <= 20) (h1 : left <= 8 * l.length) (h2 : -100000000 <= left) (hl : l.length <= 1000000) :
 aT pg Qc #[.agg #[.int .i64 log, .slice a k c], .pointer (some ⟨hi, 0, none⟩)] w (fun r w' => r = .int .i64 (qH ((aZ l).take left.toNat) log : Nat) /\ Bwd w' lo hi l (left - log) /\ aW w w' (fun y => y = hi)) := by
 refine avW ?_
 unfold aAQ Tw
 refine nO fun w1 o1 x1 s1 => ?_
 simp only [Value.cells] at o1
 have c0 := o1.cell (off := 0)
 simp only [aK7, aK8] at c0
 simp (disch := omega) only [aD, jR, aA, bO, c0, aH]
 refine (amT (h.ext x1 (fun _ _ _ h => h) hlh) hlh (by omega) h1 (by omega) hl).mono ?_
 rintro r w2 ⟨rfl, b2, x2⟩
 have hlt := tC ((aZ l).take left.toNat) log
 have hp : 2 ^ log <= 2 ^ 20 := aLj (by omega) hn
 generalize qH ((aZ l).take left.toNat) log = x at *
 simp (disch := omega) only [bY, aP, aA, true_and]
 exact ⟨b2, (x1.mono fun _ _ h => h.elim).seq x2⟩
theorem aGf {log base b lo hi : Nat} {L : List T3} {v : aNF} {s : Int} {l : List UInt8} {left : Int} {w : aNE} (ht : Tbl w base b log L v) (hL : Low L) (hlen : L.length <= 1000000) (h : Bwd w lo hi l left) (hlh : lo <= hi) (hhi : hi < w.heap.size) (hb : b ≠ hi) (h1 : left <= 8 * l.length) (h2 : -100000000 <= left) (hl : l.length <= 1000000) :
 aT pg T4 #[v, .int .i64 s, .pointer (some ⟨hi, 0, none⟩)] w (fun r w' => r = .int .i64 (vI L s (qH ((aZ l).take left.toNat) (lB L s))) /\ Bwd w' lo hi l (left - lB L s) /\ aW w w' (fun y => y = hi)) := by
 refine aAl ?_
 obtain ⟨rfl, hb0, ob⟩ := ht
 unfold aC5 VR
 refine nO fun w1 o1 x1 s1 => ?_
 simp only [Value.cells] at o1
 have c1 := o1.cell (off := 1)
 simp only [aK7, aK8] at c1
 have hbw := h.ext x1 (fun _ _ _ h => h) hlh
 by_cases hs0 : s < 0
 .have d1 : decide (s < 0) = true := by simpa using hs0
  have e1 : lB L s = 0 := by unfold lB; rw [if_neg (by omega)]
  have e2 : ∀ x, vI L s x = 0 := fun x => by unfold vI; rw [if_neg (by omega)]
  rw [e1]
  simp (disch := omega) only [aD, aS, d1, cU, aLa, aA, jJ, and_true, true_and, gA, jM, bE, if_true, aG, cK]
  exact ⟨by rw [e2], by simpa using hbw, x1.mono fun _ _ h => h.elim⟩
 have d1 : decide (s < 0) = false := by simpa using hs0
 obtain ⟨i, rfl⟩ : ∃ i : Nat, s = i := ⟨s.toNat, by omega⟩
 by_cases hge : L.length <= i
 .have d2 : decide ((L.length : Int) <= (i : Int)) = true := by simp; omega
  have hnone : L[i]? = none := aLo hge
  have e1 : lB L i = 0 := by unfold lB; simp [hnone]
  have e2 : ∀ x, vI L i x = 0 := fun x => by unfold vI; simp [hnone]
  rw [e1]
  simp (disch := omega) only [aD, aS, d1, cU, aLa, aA, jJ, and_true, true_and, gA, dI, bE, aLb, if_false, bJ, c1, aH, iR, nF, d2, aG]
  exact ⟨by rw [e2], by simpa using hbw, x1.mono fun _ _ h => h.elim⟩
 have d2 : decide ((L.length : Int) <= (i : Int)) = false := by simp; omega
 have hlt : i < L.length := by omega
 have l1 := Zw (off := i * 3) (ob.ext x1 (fun h => h)) (by rw [pY]; omega)
 rw [aBV hlt] at l1
 obtain ⟨n, hn, hn2, hb0', hb1⟩ := hL _ (aLW hlt)
 have hsome : L[i]? = some L[i] := aLg hlt
 have e1 : lB L i = n := by unfold lB; simp [hsome, hn]
 have e2 : ∀ x : Nat, vI L i x = L[i].2.2 + x := fun x => by unfold vI; simp [hsome]
 generalize L[i] = e at *
 obtain ⟨e0, en, eb⟩ := e
 simp only at hn hb0' hb1 l1 e2
 subst hn
 rw [e1, e2]
 simp (disch := omega) only [aD, aS, d1, cU, aLa, aA, jJ, and_true, true_and, gA, dI, bE, aLb, if_false, bJ, c1, aH, iR, nF, d2, gW, aK9, l1, aE]
 refine aiO fun w3 o3 x3 s3 => ?_
 refine ZB o3 rfl (by simp [one]) (by simp) fun w4 o4 x4 s4 => ?_
 simp only [bM, aLd, aLc] at o4
 have x14 : aW w1 w4 eT := x3.new x4 (by omega)
 have od := kA o4
 have k1 := o4.cell (off := 1)
 have k2 := o4.cell (off := 2)
 have k1d := od.cell (off := 1)
 have k2d := od.cell (off := 2)
 simp only [aK7, aK8] at k1 k2 k1d k2d
 simp (disch := omega) only [iM, aLa, gR, Result.ok.injEq, Next.value.injEq, and_true, aA, bO, k1d, aH, true_and, k2d]
 have z3 := x3.size
 refine (amT ((hbw.ext x14 (fun _ _ _ h => h) hlh).ext (aW.dr _ eT) (fun _ _ _ h => h) hlh) hlh (by omega) h1 (by omega) hl).mono ?_
 rintro r w5 ⟨rfl, b5, x5⟩
 have x45 : aW w4 w5 (fun y => y = hi) := (aW.dr _ _).seq x5
 have k2e := (o4.ext x45 (by omega)).cell (off := 2)
 simp only [aK7, aK8] at k2e
 have hlt := tC ((aZ l).take left.toNat) n
 have hp : 2 ^ n <= 2 ^ 20 := aLj (by omega) hn2
 generalize qH ((aZ l).take left.toNat) n = x at *
 simp (disch := omega) only [k2e, aH, bY, aP, aA, bK, true_and]
 exact ⟨b5, ((x1.seq x14).mono fun _ _ h => h.elim).seq x45⟩
def RT (w : aNE) (b log : Nat) (L : List T3) (v : aNF) : Prop := ∃ cc rest, v = .agg #[.int .i64 log, .slice (some ⟨b, 0, none⟩) L.length cc] /\ eM w b (fe .i64 L ++ rest)
theorem RT.ext {w w' : aNE} {b log : Nat} {L : List T3} {v : aNF} {M : Nat -> Prop} (h : RT w b log L v) (hx : aW w w' M) (hM : ¬ M b) : RT w' b log L v := by
 obtain ⟨cc, rest, h1, h2⟩ := h
 exact ⟨cc, rest, h1, h2.ext hx hM⟩
end Go.Proofs.YtgpimhlgaokobaaGreat
