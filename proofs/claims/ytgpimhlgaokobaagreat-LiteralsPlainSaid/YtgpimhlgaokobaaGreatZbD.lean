/- Parts of the proof of LiteralsPlain: merged and given short names by a program of ours. -/
import Derived.Laws.Strings
import Derived.Test.YtgpimhlgaokobaaGreatZbC
set_option linter.unusedVariables false
set_option linter.unusedSimpArgs false
open Bool renaming and_eq_true → aLJ, not_true → aLL, not_false → aLX, false_eq_true → aLu, or_eq_false_iff → aNk
open Int renaming tdiv_eq_ediv_of_nonneg → aLK, tmod_eq_emod_of_nonneg → aLU, toNat_natCast → aLs, fdiv_eq_ediv_of_nonneg → aM2
open List renaming take_of_length_le → aL0, drop_eq_getElem_cons → aL2, length_eq_zero_iff → aL4, map_congr_left → aL7, mem_range → aL8, getElem?_eq_getElem → aLA, take_zero → aLB, length_map → aLD, getD_eq_getElem?_getD → aLE, length_take → aLG, getElem?_eq_none → aLH, length_drop → aLM, length_cons → aLP, mem_cons_of_mem → aLQ, getElem?_append_left → aLR, map_append → aLS, append_assoc → aLV, getElem?_map → aLZ, getElem?_cons_zero → aLq, getElem?_cons_succ → aLr, set_cons_succ → aLv, set_cons_zero → aLw, take_succ_cons → aLx, drop_zero → aLy, length_append → aLz, mem_cons_self → aM5, getElem?_drop → aM7, set_append_right → aM8, getElem_range → aM9, ext_getElem? → aMC, mem_map → aMD, map_cons → aME, getElem_map → aMH, set_append_left → aMI, drop_succ_cons → aMK, nil_append → aMM, take_append_of_le_length → aMN, ext_getElem → aMP, mem_of_mem_take → aMS, getElem?_replicate → aMT, count_append → aMV, getElem_of_mem → aMX, mem_append → aMb, replicate_succ → aMc, append_nil → aMd, getElem_mem → aMf, getElem?_take_of_lt → aMg, length_singleton → aMj, length_replicate → aMk, mem_cons → aMl, getElem?_eq_some_iff → aMo, cons_append → aMp, take_add_one → aMq, getElem?_range → aMv, getElem?_append_right → aMx, mem_of_getElem? → aMz, mem_of_mem_drop → aND, range_succ → aNI, drop_left' → aNK, map_set → aNN, map_replicate → aNO, take_take → aNP, length_range → aNR, drop_eq_nil_of_le → aNS, count_singleton → aNW, take_append_drop → aNa, map_drop → aNc, take_length → aNd, drop_of_length_le → aNf, map_take → aNi, flatten_cons → aNj, getLast?_eq_getElem? → aNl, replicate_succ' → aNm, drop_drop → aNo, take_left' → aNu, getElem_cons_succ → aNv, getElem_set_self → aNy
open Nat renaming mul_comm → aL1, mod_eq_of_lt → aL5, pow_succ → aL6, pow_le_pow_right → aLC, le_refl → aLF, lt_or_ge → aLO, two_pow_pos → aLW, mul_le_mul_right → aLY, zero_add → aLt, div_div_eq_div_mul → aM0, add_assoc → aM1, lt_of_lt_of_le → aM4, add_zero → aMA, eq_zero_or_pos → aMO, mul_one → aMR, add_mul → aMi, min_eq_left → aMm, pow_add → aMr, div_le_self → aMu, le_trans → aMy, div_eq_of_lt → aNC, mul_assoc → aNE, one_mul → aNF, mul_add → aNG, lt_trichotomy → aNQ, zero_mul → aNU, sub_self → aNb, div_lt_iff_lt_mul → aNh, zero_le → aNn, testBit_eq_decide_div_mod_eq → aNq, mul_div_cancel_left → aNr
open Option renaming isNone_some → aLN, map_some → aMh
open Option.some renaming inj → aLT
open Prod.mk renaming inj → aNe
open UInt8 renaming toNat_lt → aL9
namespace Go.Pu
open Go Go.En
def cc : List (Nat × Nat) -> List aNY
 | [] => []
 | e :: r => .int .i64 (e.1 : Nat) :: .int .i64 (e.2 : Nat) :: cc r
theorem EE : ∀ L : List (Nat × Nat), (cc L).length = 2 * L.length
 | [] => rfl
 | e :: r => by rw [cc, aLP, aLP, EE r, aLP]; omega
theorem aFC : ∀ n : Nat, Gn n [Value.int .i64 0, Value.int .i64 0] = cc (List.replicate n (0, 0))
 | 0 => rfl
 | n + 1 => by
   have := aFC n
   unfold Gn at *
   rw [aMc, aNj, this, aMc, cc] <;> rfl
theorem aHe : ∀ {L : List (Nat × Nat)} {i : Nat} (h : i < L.length), (cc L)[i * 2]? = some (.int .i64 (L[i].1 : Nat)) /\ (cc L)[i * 2 + 1]? = some (.int .i64 (L[i].2 : Nat))
 | [], i, h => by simp at h
 | e :: r, 0, h => ⟨rfl, rfl⟩
 | e :: r, i + 1, h => by
   have := aHe (L := r) (i := i) (by simpa using h)
   rw [cc, show (i + 1) * 2 = i * 2 + 1 + 1 from by omega, aNv]
   exact this
theorem aEY : ∀ {L : List (Nat × Nat)} {i : Nat} (h : i < L.length), ((cc L).drop (i * 2)).take 2 = [.int .i64 (L[i].1 : Nat), .int .i64 (L[i].2 : Nat)]
 | [], i, h => by simp at h
 | e :: r, 0, h => rfl
 | e :: r, i + 1, h => by
   have := aEY (L := r) (i := i) (by simpa using h)
   rw [cc, show (i + 1) * 2 = i * 2 + 1 + 1 from by omega, aMK, aMK, aNv]
   exact this
theorem aEG : ∀ {L : List (Nat × Nat)} {i : Nat} (e : Nat × Nat), i < L.length -> ((cc L).set (i * 2) (.int .i64 (e.1 : Nat))).set (i * 2 + 1) (.int .i64 (e.2 : Nat)) = cc (L.set i e)
 | [], i, e, h => by simp at h
 | x :: r, 0, e, h => rfl
 | x :: r, i + 1, e, h => by
   have := aEG (L := r) (i := i) e (by simpa using h)
   rw [cc, show (i + 1) * 2 = i * 2 + 1 + 1 from by omega, aLv, aLv, aLv, aLv, this, aLv, cc]
theorem aA0 : ∀ (a b : List (Nat × Nat)), cc (a ++ b) = cc a ++ cc b
 | [], b => rfl
 | e :: a, b => by rw [aMp, cc, cc, aA0 a b] <;> rfl
def uD (l : List Nat) (d w i : Nat) : List (Nat × Nat) := (List.range l.length).map fun s => if l.getD s 0 < w ∨ (l.getD s 0 = w /\ s < i) then Fe l d s else (0, 0)
def pQ (l : List Nat) (d : Nat) : List (Nat × Nat) := (List.range l.length).map (Fe l d)
theorem lW (l : List Nat) (d w i : Nat) : (uD l d w i).length = l.length := by simp [uD]
theorem uO (l : List Nat) (d : Nat) : (pQ l d).length = l.length := by simp [pQ]
theorem adG {l : List Nat} {d s : Nat} (h : s < l.length) : (pQ l d)[s]? = some (Fe l d s) := by
 unfold pQ; rw [aLZ, aMv h] <;> rfl
theorem wH {l : List Nat} {d w i s : Nat} (h : s < l.length) : (uD l d w i)[s]? = some (if l.getD s 0 < w ∨ (l.getD s 0 = w /\ s < i) then Fe l d s else (0, 0)) := by
 unfold uD; rw [aLZ, aMv h] <;> rfl
theorem ZM (l : List Nat) (d : Nat) : uD l d 1 0 = List.replicate l.length (0, 0) := by
 apply aMC
 intro s
 rcases aLO s l.length with h | h
 .rw [wH h, aMT, if_pos h]
  congr 1
  split
  .rename_i hh
   unfold Fe
   rw [if_pos (by omega)]
  .rfl
 .rw [aLH (by rw [lW]; exact h), aLH (by simpa using h)]
theorem aiP {l : List Nat} {d w : Nat} : uD l d w l.length = uD l d (w + 1) 0 := by
 apply aMC
 intro s
 rcases aLO s l.length with h | h
 .rw [wH h, wH h]
  congr 1
  by_cases hh : l.getD s 0 < w + 1
  .rw [if_pos (by omega), if_pos (by omega)]
  .rw [if_neg (by omega), if_neg (by omega)]
 .rw [aLH (by rw [lW]; exact h), aLH (by rw [lW]; exact h)]
theorem asT {l : List Nat} {d w : Nat} (hall : ∀ x ∈ l, x <= d) (hw : d < w) : uD l d w 0 = pQ l d := by
 apply aMC
 intro s
 rcases aLO s l.length with h | h
 .rw [wH h, adG h, if_pos]
  have := hall _ (tX h)
  omega
 .rw [aLH (by rw [lW]; exact h), aLH (by rw [uO]; exact h)]
theorem aiU {l : List Nat} {d w i : Nat} (h : i < l.length) (hw : l.getD i 0 ≠ w) : uD l d w (i + 1) = uD l d w i := by
 apply aMC
 intro s
 rcases aLO s l.length with hs | hs
 .rw [wH hs, wH hs]
  congr 1
  by_cases hsi : s = i
  .subst hsi
   by_cases h1 : l.getD s 0 < w
   .rw [if_pos (by omega), if_pos (by omega)]
   .rw [if_neg (by omega), if_neg (by omega)]
  .by_cases h1 : l.getD s 0 < w ∨ (l.getD s 0 = w /\ s < i)
   .rw [if_pos (by omega), if_pos h1]
   .rw [if_neg (by omega), if_neg h1]
 .rw [aLH (by rw [lW]; exact hs), aLH (by rw [lW]; exact hs)]
theorem arV {l : List Nat} {d w i : Nat} (h : i < l.length) (hw : l.getD i 0 = w) : (uD l d w i).set i (Fe l d i) = uD l d w (i + 1) := by
 apply aMC
 intro s
 rw [List.getElem?_set]
 rcases aLO s l.length with hs | hs
 .by_cases hsi : i = s
  .subst hsi
   rw [if_pos rfl, if_pos (by rw [lW]; exact h), wH (i := i + 1) hs, if_pos (by omega)]
  .rw [if_neg hsi, wH (i := i) hs, wH (i := i + 1) hs]
   congr 1
   by_cases h1 : l.getD s 0 < w ∨ (l.getD s 0 = w /\ s < i)
   .rw [if_pos h1, if_pos (by omega)]
   .rw [if_neg h1, if_neg (by omega)]
 .rw [if_neg (by omega), aLH (by rw [lW]; exact hs), aLH (by rw [lW]; exact hs)]
def EL (l : List Nat) (w i : Nat) : Nat := xZ l w + (l.take i).count w * 2 ^ (w - 1)
theorem axJ (l : List Nat) : EL l 1 0 = 0 := by unfold EL; rw [awV]; simp
theorem aoR {l : List Nat} {w : Nat} (h : 1 <= w) : EL l w l.length = EL l (w + 1) 0 := by
 unfold EL
 rw [aNd, Qu l w h]; simp
theorem aqP {l : List Nat} {w i : Nat} (h : i < l.length) : EL l w (i + 1) = EL l w i + (if l.getD i 0 = w then 2 ^ (w - 1) else 0) := by
 have hg : l.getD i 0 = l[i] := by rw [aLE, aLA h] <;> rfl
 unfold EL
 rw [aMq, aLA h, aMV, hg]
 simp only [Option.toList, aNW]
 by_cases hw : l[i] = w
 .subst hw; simp [aMi]; omega
 .rw [if_neg hw]
  have : (l[i] == w) = false := by simpa using hw
  rw [this]; simp
theorem aBU {l : List Nat} {w i : Nat} (h : l.getD i 0 = w) : EL l w i = O3 l i := by unfold EL O3; rw [h]
theorem aFs {l : List Nat} {d w i : Nat} (hs : dU l = 2 ^ d) (hall : ∀ x ∈ l, x <= d) (h1 : 1 <= w) (hw : w <= d) : EL l w i <= 2 ^ d := by
 have h2 : EL l w i <= xZ l (w + 1) := by
  rw [Qu l w h1]
  unfold EL
  have hc : (l.take i).count w <= l.count w := (List.take_sublist _ _).count_le _
  have := aLY (2 ^ (w - 1)) hc
  omega
 have h3 := WW (l := l) (a := w + 1) (b := d + 1) (by omega) (by omega)
 rw [aaU hall, hs] at h3
 omega
end Go.Pu
namespace Go.Proofs.YtgpimhlgaokobaaGreat
open Go Go.En Go.Pu
set_option maxRecDepth 4000
theorem aDA {l : List UInt8} {i : Nat} (h : i < l.length) : (cF l).getD i 0 = l[i].toNat := by rw [aLE, aCO h] <;> rfl
theorem aCf {v : aNY} {l : List UInt8} {d : Nat} {w : aNX} (h : Bs w v l) (hd : jF (cF l) = d) (hd0 : d ≠ 0) :
 aS pg tS #[v] w (fun r w' => ∃ b, r = .tuple #[.slice (some ⟨b, 0, none⟩) l.length l.length, .int .i64 0] /\ w.heap.size <= b /\ eM w' b (cc (pQ (cF l) d)) /\ aW w w' eS) := by
 refine Ph ?_
 obtain ⟨hall, hd11, hl2, hl256, hlast, hsum⟩ := yM hd hd0
 have hnl := kC l
 obtain ⟨b, off, c, rfl, hc, hcell⟩ := O9 h (by omega)
 unfold Rn Bh A9
 refine (awF h (by omega)).mono ?_
 rintro r w1 ⟨rfl, rfl⟩
 rw [hd]
 have n1 : ((d : Int) == 0) = false := beq_eq_false_iff_ne.2 (by omega)
 simp (disch := omega) only [aD, dV, n1, aP, aA, aE]
 refine Ye (by omega) (by omega) fun w2 o2 x2 s2 => ?_
 rw [aLs] at o2 ⊢
 rw [aFC, <- hnl, <- ZM _ d] at o2
 generalize hpb : w1.heap.size = pb at *
 have hp2 : 2 ^ d <= 2 ^ 11 := aLC (by omega) hd11
 unfold GF Fc G1 Fy ET
 refine cR.rule (fun m (t : aNY × aNY) w' => ∃ q : Nat, m = d + 1 - q /\ t = (.int .i64 (EL (cF l) q 0 : Nat), .int .i64 q) /\ 1 <= q /\ q <= d + 1 /\ eM w' pb (cc (uD (cF l) d q 0)) /\ aW w2 w' (fun y => y = pb)) d
  ⟨1, by omega, by rw [axJ] <;> rfl, by omega, by omega, o2, aW.refl _ _⟩ ?_
 rintro m t w3 ⟨q, rfl, rfl, hq1, hqd, o3, x3⟩
 unfold AV GM
 by_cases hq : q <= d
 .have d1 : decide ((q : Int) <= (d : Int)) = true := by simp; omega
  simp (disch := omega) only [aD, Ah, d1, aA, aG]
  unfold Gb Gh Tp Is
  simp (disch := omega) only [aD, aP, aA]
  unfold HG HF
  refine cR.rule (fun m (t : aNY × aNY) w' => ∃ i : Nat, m = l.length - i /\ t = (.int .i64 (EL (cF l) q i : Nat), .int .i64 i) /\ i <= l.length /\ eM w' pb (cc (uD (cF l) d q i)) /\ aW w2 w' (fun y => y = pb)) l.length
   ⟨0, rfl, rfl, by omega, o3, x3⟩ ?_
  rintro m t w4 ⟨i, rfl, rfl, hi, o4, x4⟩
  unfold Ca HS
  by_cases hlt : i < l.length
  .have d2 : decide ((i : Int) < (l.length : Int)) = true := by simp; omega
   have h4 : Bs w4 _ l := (h.ext x2 (bY _)).ext x4 (fun hb => (h.old) (amC hb fun y hy => by omega))
   obtain ⟨_, _, _, he, _, hcell4⟩ := O9 h4 (by omega)
   cases he
   have g1 := hcell4 i hlt
   have hgd := aDA hlt
   have hstep := aqP (l := cF l) (w := q) (i := i) (by omega)
   have hskip := aiU (l := cF l) (d := d) (w := q) (i := i) (by omega)
   have hset := arV (l := cF l) (d := d) (w := q) (i := i) (by omega)
   have hof := aBU (l := cF l) (w := q) (i := i)
   have hle := aFs (l := cF l) (d := d) (w := q) (i := i) hsum hall hq1 hq
   have hco : Fe (cF l) d i = if (cF l).getD i 0 = 0 then (0, 0) else (d + 1 - (cF l).getD i 0, O3 (cF l) i / 2 ^ ((cF l).getD i 0 - 1)) := rfl
   rw [hgd] at hskip hset hstep hof hco
   have hx : (l[i]).toNat < 256 := aL9 _
   generalize (l[i]).toNat = x at *
   unfold Cq
   by_cases hxq : x = q
   .subst hxq
    have n2 : ((x : Int) != (x : Int)) = false := by simp
    have e1 : (d : Int) + 1 - (x : Int) = ((d + 1 - x : Nat) : Int) := by omega
    have e2 : (x : Int) - 1 = ((x - 1 : Nat) : Int) := by omega
    rw [if_neg (by omega), <- hof rfl] at hco
    rw [if_pos rfl] at hstep
    have hset := hset rfl
    rw [hco] at hset
    have e3 : ((EL (cF l) x i : Nat) : Int).fdiv (2 ^ (min (x - 1) IntKind.i64.bits)) = ((EL (cF l) x i / 2 ^ (x - 1) : Nat) : Int) := by
     rw [show min (x - 1) IntKind.i64.bits = x - 1 from aMm (by have : IntKind.i64.bits = 64 := rfl
                                                                omega), aM2 _ (Int.pow_nonneg (by omega))]
     simp
    have hdl := aMu (EL (cF l) x i) (2 ^ (x - 1))
    have hsh := aGm (n := x - 1) (by omega)
    have hpx : 2 ^ (x - 1) <= 2 ^ 11 := aLC (by omega) (by omega)
    have e4 : ((EL (cF l) x i : Nat) : Int) + ((2 ^ (x - 1) : Nat) : Int) = ((EL (cF l) x (i + 1) : Nat) : Int) := by omega
    generalize EL (cF l) x i = at' at *
    generalize at' / 2 ^ (x - 1) = cd at *
    simp (disch := omega) only [aD, aR, d2, dO, aLs, bJ, aQ, aA, fF, e2, eN, aLt, pG, sT, e3, e1, fL, iJ, g1, aH, dT, cY, n2, aE, aG]
    refine Iw o4 rfl (by simp [one]) (by rw [EE, lW]; simp; omega) fun w5 o5 x5 s5 => ?_
    simp only [bM] at o5
    have hcs := aEG (L := uD (cF l) d x i) (i := i) (d + 1 - x, cd) (by rw [lW]; omega)
    simp only at hcs
    rw [hcs, hset] at o5
    simp (disch := omega) only [hsh, e4]
    exact ⟨l.length - (i + 1), by omega, i + 1, rfl, rfl, by omega, o5, x4.trans x5 fun _ _ h => h⟩
   .have n2 : ((x : Int) != (q : Int)) = true := by simp; omega
    rw [if_neg hxq, aMA] at hstep
    have hskip := hskip hxq
    simp (disch := omega) only [aD, aR, d2, dO, aLs, bJ, aQ, aA, fF, eN, aLt, pG, sT, fL, iJ, g1, aH, dT, cY, n2, aG]
    exact ⟨l.length - (i + 1), by omega, i + 1, rfl, by rw [hstep] <;> rfl, by omega, by rw [hskip]; exact o4, x4⟩
  .have d2 : decide ((i : Int) < (l.length : Int)) = false := by simp; omega
   obtain rfl : i = l.length := by omega
   have e1 := aoR (l := cF l) (w := q) hq1
   rw [hnl] at e1
   have e2 := aiP (l := cF l) (d := d) (w := q)
   rw [hnl] at e2
   rw [e2] at o4
   unfold Ck
   simp (disch := omega) only [aD, aR, d2, bJ, aQ, fF, aA, pG, sT, fL, aE]
   exact ⟨d + 1 - (q + 1), by omega, q + 1, rfl, by rw [e1] <;> rfl, by omega, by omega, o4, x4⟩
 .have d1 : decide ((q : Int) <= (d : Int)) = false := by simp; omega
  rw [asT hall (by omega)] at o3
  unfold Ce
  simp (disch := omega) only [aD, Ah, d1, aA, aE]
  exact ⟨pb, rfl, by omega, o3, x2.trans x3 fun _ hb h => by omega⟩
theorem anA {v : aNY} {l : List UInt8} {w : aNX} (h : Bs w v l) (hl : l.length <= 100000) (hd : jF (cF l) = 0) :
 aS pg tS #[v] w (fun r w' => r = .tuple #[.slice none 0 0, .int .i64 1] /\ w' = w) := by
 refine Ph ?_
 unfold Rn Bh A9
 refine (awF h hl).mono ?_
 rintro r w1 ⟨rfl, rfl⟩
 rw [hd]
 have n1 : (((0 : Nat) : Int) == 0) = true := rfl
 simp (disch := omega) only [aD, dV, n1, true_and, aA, aG]
end Go.Proofs.YtgpimhlgaokobaaGreat
namespace Go.Pu
theorem aA7 {log : Nat} {ps : List Int} {i : Nat} (h : i < 2 ^ log) : (xF log ps)[i]? = some (UZ log ps (rM 0 log ps) i) := by
 unfold xF
 rw [aLZ, aMv h] <;> rfl
end Go.Pu
namespace Go.Pu
open Go Go.En
def WU (k : Nat) : List Nat := if k = 0 then [0, 1, 2, 3, 4, 5, 6, 7, 8, 9, 10, 11, 12, 13, 14, 15, 16, 18, 20, 22, 24, 28, 32, 40, 48, 64, 128, 256, 512, 1024, 2048, 4096, 8192, 16384, 32768, 65536]
 else if k = 1 then [1, 2, 4, 8, 16, 32, 64, 128, 256, 512, 1024, 2048, 4096, 8192, 16384, 32768, 65536, 131072, 262144, 524288, 1048576, 2097152, 4194304, 8388608, 16777216, 33554432, 67108864, 134217728, 268435456, 536870912, 1073741824, 2147483648]
 else [3, 4, 5, 6, 7, 8, 9, 10, 11, 12, 13, 14, 15, 16, 17, 18, 19, 20, 21, 22, 23, 24, 25, 26, 27, 28, 29, 30, 31, 32, 33, 34, 35, 37, 39, 41, 43, 47, 51, 59, 67, 83, 99, 131, 259, 515, 1027, 2051, 4099, 8195, 16387, 32771, 65539]
def awI (k : Nat) : List Nat := if k = 0 then [0, 0, 0, 0, 0, 0, 0, 0, 0, 0, 0, 0, 0, 0, 0, 0, 1, 1, 1, 1, 2, 2, 3, 3, 4, 6, 7, 8, 9, 10, 11, 12, 13, 14, 15, 16]
 else if k = 1 then List.range 32
 else [0, 0, 0, 0, 0, 0, 0, 0, 0, 0, 0, 0, 0, 0, 0, 0, 0, 0, 0, 0, 0, 0, 0, 0, 0, 0, 0, 0, 0, 0, 0, 0, 1, 1, 1, 1, 2, 2, 3, 3, 4, 4, 5, 7, 8, 9, 10, 11, 12, 13, 14, 15, 16]
abbrev atS (k : Nat) : Nat := (WU k).length
theorem aFJ {k : Nat} (h : k < 3) (c : Nat) (hc : c + 1 < atS k) : (WU k).getD (c + 1) 0 = (WU k).getD c 0 + 2 ^ (awI k).getD c 0 := by
 have h0 : ∀ c, c < 53 -> c + 1 < atS 0 -> (WU 0).getD (c + 1) 0 = (WU 0).getD c 0 + 2 ^ (awI 0).getD c 0 := by decide +kernel
 have h1 : ∀ c, c < 53 -> c + 1 < atS 1 -> (WU 1).getD (c + 1) 0 = (WU 1).getD c 0 + 2 ^ (awI 1).getD c 0 := by decide +kernel
 have h2 : ∀ c, c < 53 -> c + 1 < atS 2 -> (WU 2).getD (c + 1) 0 = (WU 2).getD c 0 + 2 ^ (awI 2).getD c 0 := by decide +kernel
 have hl : atS k <= 53 := by rcases (show k = 0 ∨ k = 1 ∨ k = 2 by omega) with rfl | rfl | rfl <;> decide
 rcases (show k = 0 ∨ k = 1 ∨ k = 2 by omega) with rfl | rfl | rfl
 .exact h0 c (by omega) hc
 .exact h1 c (by omega) hc
 .exact h2 c (by omega) hc
theorem aK9 {k : Nat} (h : k < 3) (c : Nat) (hc : c < atS k) : (WU k).getD c 0 + 2 ^ (awI k).getD c 0 <= 4294967296 := by
 have h0 : ∀ c, c < 53 -> c < atS 0 -> (WU 0).getD c 0 + 2 ^ (awI 0).getD c 0 <= 4294967296 := by decide +kernel
 have h1 : ∀ c, c < 53 -> c < atS 1 -> (WU 1).getD c 0 + 2 ^ (awI 1).getD c 0 <= 4294967296 := by decide +kernel
 have h2 : ∀ c, c < 53 -> c < atS 2 -> (WU 2).getD c 0 + 2 ^ (awI 2).getD c 0 <= 4294967296 := by decide +kernel
 have hl : atS k <= 53 := by rcases (show k = 0 ∨ k = 1 ∨ k = 2 by omega) with rfl | rfl | rfl <;> decide
 rcases (show k = 0 ∨ k = 1 ∨ k = 2 by omega) with rfl | rfl | rfl
 .exact h0 c (by omega) hc
 .exact h1 c (by omega) hc
 .exact h2 c (by omega) hc
def aDv (k v c : Nat) : Prop := c < atS k /\ (WU k).getD c 0 <= v /\ v < (WU k).getD c 0 + 2 ^ (awI k).getD c 0
theorem apD {k : Nat} (h : k < 3) : ∀ {c d : Nat}, c < d -> d < atS k -> (WU k).getD c 0 + 2 ^ (awI k).getD c 0 <= (WU k).getD d 0
 | c, d + 1, hcd, hd => by
   have e := aFJ h d (by omega)
   rcases aLO c d with h' | h'
   .have := apD h h' (by omega)
    have := aLW ((awI k).getD d 0)
    omega
   .have : c = d := by omega
    subst this; omega
theorem aDv.one {k v c d : Nat} (hk : k < 3) (hc : aDv k v c) (hd : aDv k v d) : c = d := by
 rcases aNQ c d with h | h | h
 .have := apD hk h hd.1; have := hc.2.2; have := hd.2.1; omega
 .exact h
 .have := apD hk h hc.1; have := hd.2.2; have := hc.2.1; omega
theorem aDv.lt {k v c : Nat} (hk : k < 3) (hc : aDv k v c) : v < 4294967296 := by
 have := aK9 hk c hc.1; have := hc.2.2; omega
def LZ (B : List Bool) (left : Int) (n : Nat) : Nat := qL (B.take left.toNat) n
theorem aJZ {T B X u : List Bool} {x n : Nat} (hT : T.take (X ++ u).length = X ++ u) (hu : u = yQ x n) (hx : x < 2 ^ n) : LZ T ((X ++ u).length : Nat) n = x /\ (((X ++ u).length : Nat) : Int) - n = ((X.length : Nat) : Int) /\ T.take X.length = X := by
 subst hu
 have hl : (X ++ yQ x n).length = X.length + n := by rw [aLz, Gz]
 refine ⟨?_, by omega, ?_⟩
 .unfold LZ
  rw [aLs, hT, aD5 hx]
 .have := congrArg (List.take X.length) hT
  rw [aNP, aMm (by omega), aMN (aLF _), aL0 (aLF _)] at this
  exact this
def pM (C : List (Nat × Nat)) : Nat := C.foldl (fun m e => max m e.1) 0
theorem aC6 : ∀ (C : List (Nat × Nat)) (m : Nat), m <= C.foldl (fun m e => max m e.1) m /\ ∀ e ∈ C, e.1 <= C.foldl (fun m e => max m e.1) m
 | [], m => ⟨aLF _, fun e h => by cases h⟩
 | x :: C, m => by
   obtain ⟨h1, h2⟩ := aC6 C (max m x.1)
   rw [List.foldl_cons]
   refine ⟨by omega, fun e he => ?_⟩
   rcases aMl.1 he with rfl | he
   .omega
   .exact h2 e he
theorem apM {C : List (Nat × Nat)} {e : Nat × Nat} (h : e ∈ C) : e.1 <= pM C := (aC6 C 0).2 e h
theorem aG8 (C : List (Nat × Nat)) (e : Nat × Nat) : pM (C ++ [e]) = max (pM C) e.1 := by
 unfold pM; rw [List.foldl_append] <;> rfl
theorem aHg {d : Nat} : ∀ {C : List (Nat × Nat)} {m : Nat}, m <= d -> (∀ e ∈ C, e.1 <= d) -> C.foldl (fun m e => max m e.1) m <= d
 | [], m, hm, _ => hm
 | x :: C, m, hm, h => by
   rw [List.foldl_cons]
   exact aHg (by have := h x (aM5 ..); omega) fun e he => h e (aLQ _ he)
def Ha (C : List (Nat × Nat)) (m x s : Nat) : Bool := match C[s]? with
 | some e => decide (0 < e.1) && decide (x / 2 ^ (m - e.1) = e.2)
 | none => false
theorem Nu {C : List (Nat × Nat)} {m x s : Nat} : Ha C m x s = true ↔ ∃ b c, C[s]? = some (b, c) /\ 0 < b /\ x / 2 ^ (m - b) = c := by
 unfold Ha
 cases h : C[s]? with
 | none => simp
 | some e =>
   obtain ⟨b, c⟩ := e
   simp only [aLJ, decide_eq_true_eq]
   constructor
   .rintro ⟨h1, h2⟩; exact ⟨b, c, rfl, h1, h2⟩
   .rintro ⟨b', c', h1, h2, h3⟩; cases h1; exact ⟨h2, h3⟩
structure Yv (C : List (Nat × Nat)) (m : Nat) : Prop where
 le : ∀ (s b c : Nat), C[s]? = some (b, c) -> b <= m /\ (0 < b -> c < 2 ^ b)
 ex : ∀ x, x < 2 ^ m -> ∃ s, Ha C m x s = true
 un : ∀ x s t, x < 2 ^ m -> Ha C m x s = true -> Ha C m x t = true -> s = t
 pos : 0 < m
theorem aFo {l : List Nat} {w y : Nat} : ∀ i, i <= l.length -> xZ l w <= y -> y < EL l w i -> ∃ s, s < l.length /\ l.getD s 0 = w /\ O3 l s <= y /\ y < O3 l s + 2 ^ (w - 1)
 | 0, _, h, hy => by unfold EL at hy; simp at hy; omega
 | i + 1, hi, h, hy => by
   rcases aLO y (EL l w i) with h1 | h1
   .exact aFo i (by omega) h h1
   .rw [aqP (by omega)] at hy
    by_cases hw : l.getD i 0 = w
    .rw [if_pos hw] at hy
     rw [aBU hw] at hy h1
     exact ⟨i, by omega, hw, h1, hy⟩
    .rw [if_neg hw] at hy; omega
theorem aKO {l : List Nat} {y : Nat} : ∀ w, y < xZ l (w + 1) -> ∃ s, s < l.length /\ l.getD s 0 ≠ 0 /\ O3 l s <= y /\ y < O3 l s + 2 ^ (l.getD s 0 - 1)
 | 0, hy => by rw [awV] at hy; omega
 | w + 1, hy => by
   rcases aLO y (xZ l (w + 1)) with h1 | h1
   .exact aKO w h1
   .have h2 : y < EL l (w + 1) l.length := by rw [aoR (by omega)]; unfold EL; simpa using hy
    obtain ⟨s, a, b, c, d⟩ := aFo l.length (aLF _) h1 h2
    exact ⟨s, a, by omega, c, by rw [b]; exact d⟩
theorem aKc {l : List Nat} {s d y : Nat} (h : s < l.length) (h0 : l.getD s 0 ≠ 0) (hs : dU l = 2 ^ d) (hd : l.getD s 0 <= d) : (O3 l s <= y /\ y < O3 l s + 2 ^ (l.getD s 0 - 1)) ↔ y / 2 ^ (l.getD s 0 - 1) = O3 l s / 2 ^ (l.getD s 0 - 1) := by
 obtain ⟨q, hq⟩ := aEh h h0 hs hd
 have hp := aLW (l.getD s 0 - 1)
 rw [hq, aNr _ hp]
 generalize 2 ^ (l.getD s 0 - 1) = p at *
 constructor
 .rintro ⟨h1, h2⟩
  rw [Nat.div_eq_iff hp, aL1]
  omega
 .intro h
  rw [Nat.div_eq_iff hp, aL1 q] at h
  omega
theorem Xk {l : List Nat} {d s b c : Nat} (h : (pQ l d)[s]? = some (b, c)) : s < l.length /\ Fe l d s = (b, c) := by
 have hs : s < l.length := by
  rcases aLO s l.length with h' | h'
  .exact h'
  .rw [aLH (by rw [uO]; exact h')] at h; cases h
 rw [adG hs] at h
 exact ⟨hs, aLT h⟩
theorem axF {l : List Nat} {d : Nat} (hd : jF l = d) (hd0 : d ≠ 0) : Yv (pQ l d) (pM (pQ l d)) /\ pM (pQ l d) <= d := by
 obtain ⟨hall, hd11, hl2, hl256, hlast, hsum⟩ := yM hd hd0
 have hle : pM (pQ l d) <= d := aHg (aNn _) fun e he => by
  obtain ⟨s, hs⟩ := List.getElem?_of_mem he
  obtain ⟨hsl, hc⟩ := Xk (b := e.1) (c := e.2) hs
  unfold Fe at hc
  split at hc
  .have := (aNe hc).1; omega
  .have := (aNe hc).1; omega
 have key : ∀ x s, Ha (pQ l d) (pM (pQ l d)) x s = true ↔ s < l.length /\ l.getD s 0 ≠ 0 /\ (x * 2 ^ (d - pM (pQ l d))) / 2 ^ (l.getD s 0 - 1) = O3 l s / 2 ^ (l.getD s 0 - 1) := by
  intro x s
  rw [Nu]
  have hx : ∀ {b : Nat}, b <= pM (pQ l d) -> 0 < b -> b = d + 1 - l.getD s 0 -> l.getD s 0 <= d -> l.getD s 0 ≠ 0 -> (x * 2 ^ (d - pM (pQ l d))) / 2 ^ (l.getD s 0 - 1) = x / 2 ^ (pM (pQ l d) - b) := by
   intro b h1 h2 h3 h4 h5
   rw [show l.getD s 0 - 1 = (d - pM (pQ l d)) + (pM (pQ l d) - b) from by omega, aMr, <- aM0, Nat.mul_div_cancel _ (aLW _)]
  constructor
  .rintro ⟨b, c, h1, h2, h3⟩
   have hm := apM (aMz h1)
   obtain ⟨hs, hc⟩ := Xk h1
   unfold Fe at hc
   by_cases h0 : l.getD s 0 = 0
   .rw [if_pos h0] at hc; cases hc; omega
   .rw [if_neg h0] at hc
    obtain ⟨hb, hcc⟩ := aNe hc
    have hws := hall _ (tX hs)
    exact ⟨hs, h0, by rw [hx hm h2 hb.symm hws h0, h3, hcc]⟩
  .rintro ⟨hs, h0, h⟩
   have hws := hall _ (tX hs)
   have hg := adG (d := d) hs
   have hm := apM (aMz hg)
   have hc : Fe l d s = (d + 1 - l.getD s 0, O3 l s / 2 ^ (l.getD s 0 - 1)) := by unfold Fe; rw [if_neg h0]
   rw [hc] at hg hm
   exact ⟨_, _, hg, by omega, by rw [<- hx hm (by omega) rfl hws h0, h]⟩
 have hyx : ∀ x, x < 2 ^ pM (pQ l d) -> x * 2 ^ (d - pM (pQ l d)) < 2 ^ d := fun x hx => by
  have := Nat.mul_lt_mul_of_pos_right hx (aLW (d - pM (pQ l d)))
  rwa [<- aMr, show pM (pQ l d) + (d - pM (pQ l d)) = d from by omega] at this
 have ex : ∀ x, x < 2 ^ pM (pQ l d) -> ∃ s, Ha (pQ l d) (pM (pQ l d)) x s = true := fun x hx => by
  have h1 := hyx x hx
  rw [<- hsum, <- aaU hall] at h1
  obtain ⟨s, a, b, c, e⟩ := aKO d h1
  exact ⟨s, (key x s).2 ⟨a, b, (aKc a b hsum (hall _ (tX a))).1 ⟨c, e⟩⟩⟩
 refine ⟨⟨fun s b c h => ?_, ex, fun x s t hx h1 h2 => ?_, ?_⟩, hle⟩
 .have hm := apM (aMz h)
  refine ⟨hm, fun hb => ?_⟩
  obtain ⟨hs, hc⟩ := Xk h
  unfold Fe at hc
  by_cases h0 : l.getD s 0 = 0
  .rw [if_pos h0] at hc; cases hc; omega
  .rw [if_neg h0] at hc
   obtain ⟨hb', hcc⟩ := aNe hc
   rw [<- hb', <- hcc]
   exact aGn hs h0 hsum hall
 .obtain ⟨a1, b1, c1⟩ := (key x s).1 h1
  obtain ⟨a2, b2, c2⟩ := (key x t).1 h2
  have dv : ∀ {y p q : Nat}, p <= q -> y / 2 ^ q = y / 2 ^ p / 2 ^ (q - p) := fun {y p q} h => by
   rw [aM0, <- aMr, show p + (q - p) = q from by omega]
  refine Decidable.byContradiction fun hne => ?_
  rcases Nat.le_total (l.getD t 0) (l.getD s 0) with hle' | hle'
  .refine aBe a1 a2 hne b1 b2 hle' hsum hall ?_
   rw [<- c2, <- c1, dv (y := x * 2 ^ (d - pM (pQ l d))) (p := l.getD t 0 - 1) (q := l.getD s 0 - 1) (by omega)]
   congr 2; omega
  .refine aBe a2 a1 (fun h => hne h.symm) b2 b1 hle' hsum hall ?_
   rw [<- c2, <- c1, dv (y := x * 2 ^ (d - pM (pQ l d))) (p := l.getD s 0 - 1) (q := l.getD t 0 - 1) (by omega)]
   congr 2; omega
 .obtain ⟨s, hs⟩ := ex 0 (aLW _)
  obtain ⟨b, c, h1, h2, _⟩ := Nu.1 hs
  have := apM (aMz h1)
  omega
def Ez (C : List (Nat × Nat)) (m x : Nat) : Nat := ((List.range C.length).find? (Ha C m x)).getD 0
def bitsOf (C : List (Nat × Nat)) (s : Nat) : Nat := (C.getD s (0, 0)).1
theorem avY {C : List (Nat × Nat)} {m x s : Nat} (h : Ha C m x s = true) : s < C.length := by
 obtain ⟨b, c, h1, _⟩ := Nu.1 h
 exact (aMo.1 h1).1
theorem ayA {C : List (Nat × Nat)} {m x s : Nat} (hF : Yv C m) (hx : x < 2 ^ m) (h : Ha C m x s = true) : Ez C m x = s := by
 unfold Ez
 cases hf : (List.range C.length).find? (Ha C m x) with
 | none => exact absurd h (List.find?_eq_none.1 hf s (aL8.2 (avY h)))
 | some t => exact hF.un x t s hx (List.find?_some hf) h
theorem anV {C : List (Nat × Nat)} {m x : Nat} (hF : Yv C m) (hx : x < 2 ^ m) : Ha C m x (Ez C m x) = true := by
 obtain ⟨s, hs⟩ := hF.ex x hx
 rw [ayA hF hx hs]; exact hs
theorem amY {C : List (Nat × Nat)} {s b c : Nat} (h : C[s]? = some (b, c)) : bitsOf C s = b := by
 unfold bitsOf; rw [aLE, h] <;> rfl
def B8 (C : List (Nat × Nat)) (m : Nat) (B : List Bool) : Nat -> Int -> List Nat × Int
 | 0, left => ([], left)
 | n + 1, left =>
   let s := Ez C m (LZ B left m)
   let r := B8 C m B n (left - bitsOf C s)
   (s :: r.1, r.2)
theorem V1 {C : List (Nat × Nat)} {m : Nat} {B : List Bool} : ∀ {n : Nat} {left : Int}, (B8 C m B n left).1.length = n
 | 0, _ => rfl
 | n + 1, left => by rw [B8, aLP, V1]
theorem KB (B : List Bool) (left : Int) (n : Nat) : LZ B left n < 2 ^ n := sX _ _
theorem aCc {B : List Bool} {left : Int} (a b : Nat) (h : left <= B.length) : LZ B left (a + b) = LZ B left a * 2 ^ b + LZ B (left - a) b := by
 unfold LZ
 obtain ⟨k, hk⟩ : ∃ k, left.toNat = k := ⟨_, rfl⟩
 have hkB : k <= B.length := by omega
 have e2 : (left - a).toNat = k - a := by omega
 rw [hk, e2]
 have l1 : (B.take k).length = k := by rw [aLG]; omega
 have l2 : (B.take (k - a)).length = k - a := by rw [aLG]; omega
 unfold qL
 rw [l1, l2]
 rcases aLO a k with h1 | h1
 .have hs : B.take k = B.take (k - a) ++ (B.drop (k - a)).take a := by
   rw [<- List.take_add]; congr 1; omega
  have m1 : min a k = a := by omega
  have hT : (B.take k).drop (k - a) = (B.drop (k - a)).take a := by
   rw [List.drop_take, show k - (k - a) = a from by omega]
  rw [m1, aNb, Nat.pow_zero, aMR, hT]
  obtain ⟨j, hj⟩ : ∃ j, j = min b (k - a) := ⟨_, rfl⟩
  have m2 : min (a + b) k = a + j := by omega
  rw [m2, <- hj]
  have hD : (B.take k).drop (k - (a + j)) = (B.take (k - a)).drop (k - a - j) ++ (B.drop (k - a)).take a := by
   rw [hs, List.drop_append_of_le_length (by rw [l2]; omega), show k - (a + j) = k - a - j from by omega]
  rw [hD, WL, aLM, l2, show k - a - (k - a - j) = j from by omega, show a + b - (a + j) = b - j from by omega, aMi]
  rw [Nat.add_comm]
  congr 1
  rw [aNE, aL1 (wN _) (2 ^ (b - j)), <- aNE, <- aMr, aL1, show j + (b - j) = b from by omega]
 .have m1 : min a k = k := by omega
  have m2 : min (a + b) k = k := by omega
  have m3 : min b (k - a) = 0 := by omega
  rw [m1, m2, m3, aNb, show k - a = 0 from by omega]
  simp only [aLB, aLy, Nat.sub_zero, List.drop_nil, wN, aNU, aMA]
  rw [aNE, <- aMr, show a - k + b = a + b - k from by omega]
theorem aBq {B : List Bool} {left : Int} {a m : Nat} (h : left <= B.length) (ha : a <= m) : LZ B left m / 2 ^ (m - a) = LZ B left a /\ LZ B left m % 2 ^ (m - a) = LZ B (left - a) (m - a) := by
 obtain ⟨b, rfl⟩ := Nat.exists_eq_add_of_le ha
 rw [Nat.add_sub_cancel_left, aCc a b h]
 have hlt := KB B (left - a) b
 constructor
 .rw [aL1, Nat.mul_add_div (aLW b), aNC hlt, aMA]
 .rw [aL1, Nat.mul_add_mod, aL5 hlt]
def SR (C : List (Nat × Nat)) : List Nat -> List Bool
 | [] => []
 | s :: r => SR C r ++ yQ (C.getD s (0, 0)).2 (C.getD s (0, 0)).1
theorem tG {C : List (Nat × Nat)} {m : Nat} (h : ∀ s, bitsOf C s <= m) : ∀ l : List Nat, (SR C l).length <= m * l.length
 | [] => by simp [SR]
 | s :: r => by
   rw [SR, aLz, Gz, aLP, aNG]
   have := h s
   have := tG h r
   unfold bitsOf at *
   omega
theorem aFD {C : List (Nat × Nat)} {m : Nat} {T : List Bool} (hF : Yv C m) : ∀ {l : List Nat}, (∀ s ∈ l, 0 < bitsOf C s) -> T.take (SR C l).length = SR C l -> B8 C m T l.length ((SR C l).length : Nat) = (l, 0)
 | [], _, _ => rfl
 | s :: r, hb, hT => by
   have h0 := hb s (aM5 ..)
   have hg : C[s]? = some ((C.getD s (0, 0)).1, (C.getD s (0, 0)).2) := by
    rw [aLE]
    cases h : C[s]? with
    | none => unfold bitsOf at h0; rw [aLE, h] at h0; simp at h0
    | some e => rfl
   obtain ⟨hle, hfit⟩ := hF.le _ _ _ hg
   have hfit := hfit h0
   obtain ⟨r1, r2, r3⟩ := aJZ (B := []) hT rfl hfit
   have hTl : ((SR C (s :: r)).length : Int) <= T.length := by
    have := congrArg List.length hT
    rw [aLG] at this
    omega
   have hd := (aBq (a := (C.getD s (0, 0)).1) (m := m) hTl hle).1
   rw [aLP, B8]
   have hlen : (SR C (s :: r)).length = (SR C r ++ yQ (C.getD s (0, 0)).2 (C.getD s (0, 0)).1).length := rfl
   rw [hlen] at hd ⊢
   rw [r1] at hd
   have hs : Ez C m (LZ T (((SR C r ++ yQ (C.getD s (0, 0)).2 (C.getD s (0, 0)).1).length : Nat) : Int) m) = s :=
    ayA hF (KB _ _ _) (Nu.2 ⟨_, _, hg, h0, hd⟩)
   simp only [hs, bitsOf, r2]
   rw [aFD hF (fun x hx => hb x (aLQ _ hx)) r3]
def fc : List (Nat × Nat) -> List aNY
 | [] => []
 | e :: r => .int .u8 (e.1 : Nat) :: .int .i64 (e.2 : Nat) :: fc r
theorem apC : ∀ L : List (Nat × Nat), (fc L).length = 2 * L.length
 | [] => rfl
 | e :: r => by rw [fc, aLP, aLP, apC r, aLP]; omega
theorem aFp : ∀ n : Nat, Gn n [Value.int .u8 0, Value.int .i64 0] = fc (List.replicate n (0, 0))
 | 0 => rfl
 | n + 1 => by
   have := aFp n
   unfold Gn at *
   rw [aMc, aNj, this, aMc, fc] <;> rfl
theorem aE0 : ∀ {L : List (Nat × Nat)} {i : Nat} {e : Nat × Nat}, L[i]? = some e -> ((fc L).drop (i * 2)).take 2 = [.int .u8 (e.1 : Nat), .int .i64 (e.2 : Nat)]
 | [], i, e, h => by simp at h
 | e' :: r, 0, e, h => by cases h; rfl
 | e' :: r, i + 1, e, h => by
   have := aE0 (L := r) (i := i) (e := e) (by simpa using h)
   rw [fc, show (i + 1) * 2 = i * 2 + 1 + 1 from by omega, aMK, aMK]
   exact this
theorem aHT : ∀ {L : List (Nat × Nat)} {i : Nat} (e : Nat × Nat), i < L.length -> ((fc L).set (i * 2) (.int .u8 (e.1 : Nat))).set (i * 2 + 1) (.int .i64 (e.2 : Nat)) = fc (L.set i e)
 | [], i, e, h => by simp at h
 | x :: r, 0, e, h => rfl
 | x :: r, i + 1, e, h => by
   have := aHT (L := r) (i := i) e (by simpa using h)
   rw [fc, show (i + 1) * 2 = i * 2 + 1 + 1 from by omega, aLv, aLv, aLv, aLv, this, aLv, fc]
def aCF (C : List (Nat × Nat)) (m s x : Nat) : Nat × Nat := match (List.range s).find? (Ha C m x) with
 | some t => (t, bitsOf C t)
 | none => (0, 0)
def Yz (C : List (Nat × Nat)) (m s : Nat) : List (Nat × Nat) := (List.range (2 ^ m)).map (aCF C m s)
def azD (C : List (Nat × Nat)) (m s low j : Nat) : List (Nat × Nat) := (List.range (2 ^ m)).map fun x => if low <= x /\ x < low + j then (s, bitsOf C s) else aCF C m s x
theorem aDG (C : List (Nat × Nat)) (m s : Nat) : (Yz C m s).length = 2 ^ m := by simp [Yz]
theorem atC (C : List (Nat × Nat)) (m s low j : Nat) : (azD C m s low j).length = 2 ^ m := by simp [azD]
theorem aHP {C : List (Nat × Nat)} {m s x : Nat} (h : x < 2 ^ m) : (Yz C m s)[x]? = some (aCF C m s x) := by
 unfold Yz; rw [aLZ, aMv h] <;> rfl
theorem aGF (C : List (Nat × Nat)) (m : Nat) : Yz C m 0 = List.replicate (2 ^ m) (0, 0) := by
 unfold Yz
 apply aMC
 intro x
 rcases aLO x (2 ^ m) with h | h
 .rw [aLZ, aMv h, aMT, if_pos h] <;> rfl
 .rw [aLH (by simpa using h), aLH (by simpa using h)]
theorem aAN (C : List (Nat × Nat)) (m s x : Nat) : aCF C m (s + 1) x = match (List.range s).find? (Ha C m x) with
 | some t => (t, bitsOf C t)
 | none => if Ha C m x s = true then (s, bitsOf C s) else (0, 0) := by
 unfold aCF
 rw [aNI, List.find?_append]
 cases (List.range s).find? (Ha C m x) with
 | some t => rfl
 | none =>
   cases h : Ha C m x s with
   | true => simp [List.find?, h]
   | false => simp [List.find?, h]
theorem aGw {C : List (Nat × Nat)} {m s c : Nat} (h : C[s]? = some (0, c)) : Yz C m (s + 1) = Yz C m s := by
 unfold Yz
 apply aL7
 intro x _
 rw [aAN]
 have hh : Ha C m x s = false := by
  unfold Ha; rw [h] <;> rfl
 unfold aCF
 cases (List.range s).find? (Ha C m x) with
 | some t => rfl
 | none => rw [hh] <;> rfl
theorem aGb (C : List (Nat × Nat)) (m s low : Nat) : azD C m s low 0 = Yz C m s := by
 unfold azD Yz
 apply aL7
 intro x _
 rw [if_neg (by omega)]
theorem aHt {C : List (Nat × Nat)} {m s low j : Nat} (h : low + j < 2 ^ m) : (azD C m s low j).set (low + j) (s, bitsOf C s) = azD C m s low (j + 1) := by
 apply aMC
 intro x
 rw [List.getElem?_set]
 unfold azD
 rcases aLO x (2 ^ m) with hx | hx
 .by_cases he : low + j = x
  .rw [if_pos he, if_pos (by simp; omega), aLZ, aMv hx]
   simp only [aMh]
   rw [if_pos (by omega)]
  .rw [if_neg he, aLZ, aMv hx, aLZ, aMv hx]
   simp only [aMh]
   congr 1
   by_cases hc : low <= x /\ x < low + j
   .rw [if_pos hc, if_pos (by omega)]
   .rw [if_neg hc, if_neg (by omega)]
 .rw [if_neg (by omega), aLH (by simpa using hx), aLH (by simpa using hx)]
theorem aAS {C : List (Nat × Nat)} {m s b c x : Nat} (h : C[s]? = some (b, c)) (hb : 0 < b) : Ha C m x s = true ↔ c * 2 ^ (m - b) <= x /\ x < c * 2 ^ (m - b) + 2 ^ (m - b) := by
 rw [Nu]
 have hp := aLW (m - b)
 constructor
 .rintro ⟨b', c', h1, h2, h3⟩
  rw [h] at h1
  cases h1
  rw [Nat.div_eq_iff hp] at h3
  rw [aL1] at h3
  rw [aL1]
  omega
 .rintro ⟨h1, h2⟩
  refine ⟨b, c, h, hb, ?_⟩
  rw [Nat.div_eq_iff hp, aL1]
  rw [aL1] at h1 h2
  omega
theorem aJ8 {C : List (Nat × Nat)} {m s b c : Nat} (hF : Yv C m) (h : C[s]? = some (b, c)) (hb : 0 < b) : c * 2 ^ (m - b) + 2 ^ (m - b) <= 2 ^ m := by
 obtain ⟨h1, h2⟩ := hF.le s b c h
 have h2 := h2 hb
 have : (c + 1) * 2 ^ (m - b) <= 2 ^ b * 2 ^ (m - b) := aLY _ h2
 rw [<- aMr, show b + (m - b) = m from by omega, Nat.succ_mul] at this
 exact this
theorem aHb {C : List (Nat × Nat)} {m s b c : Nat} (hF : Yv C m) (h : C[s]? = some (b, c)) (hb : 0 < b) : azD C m s (c * 2 ^ (m - b)) (2 ^ (m - b)) = Yz C m (s + 1) := by
 unfold azD Yz
 apply aL7
 intro x hx
 have hx := aL8.1 hx
 rw [aAN]
 by_cases hc : c * 2 ^ (m - b) <= x /\ x < c * 2 ^ (m - b) + 2 ^ (m - b)
 .rw [if_pos hc]
  have hh := (aAS h hb).2 hc
  cases hf : (List.range s).find? (Ha C m x) with
  | none => simp only [hh, if_true]
  | some t =>
    have h1 := List.find?_some hf
    have h2 := aL8.1 (List.mem_of_find?_eq_some hf)
    have := hF.un x t s hx h1 hh
    omega
 .rw [if_neg hc]
  have hh : Ha C m x s = false := by
   cases hq : Ha C m x s with
   | false => rfl
   | true => exact absurd ((aAS h hb).1 hq) hc
  unfold aCF
  cases (List.range s).find? (Ha C m x) with
  | some t => rfl
  | none => rw [hh] <;> rfl
theorem aIh {C : List (Nat × Nat)} {m x : Nat} (hF : Yv C m) (hx : x < 2 ^ m) : (Yz C m C.length)[x]? = some (Ez C m x, bitsOf C (Ez C m x)) := by
 rw [aHP hx]
 unfold aCF Ez
 cases hf : (List.range C.length).find? (Ha C m x) with
 | some t => rfl
 | none =>
   obtain ⟨s, hs⟩ := hF.ex x hx
   exact absurd hs (List.find?_eq_none.1 hf s (aL8.2 (avY hs)))
theorem aHa {C : List (Nat × Nat)} {i : Nat} {e : Nat × Nat} (h : C[i]? = some e) : pM (C.take (i + 1)) = max (pM (C.take i)) e.1 := by
 rw [aMq, h]
 exact aG8 _ _
end Go.Pu
namespace Go.Proofs.YtgpimhlgaokobaaGreat
open Go Go.En Go.Pu
set_option maxRecDepth 4000
theorem afO {a n : Nat} (hn : n <= 62) (h : a * 2 ^ n < 2 ^ 62) : IntKind.i64.wrap ((a : Int) * 2 ^ (min n IntKind.i64.bits)) = ((a * 2 ^ n : Nat) : Int) := by
 have e : IntKind.i64.bits = 64 := rfl
 rw [e, aMm (by omega)]
 have : (a : Int) * 2 ^ n = ((a * 2 ^ n : Nat) : Int) := by push_cast; rfl
 rw [this]
 exact aQ (by omega) (by omega)
theorem aAh {C : List (Nat × Nat)} {i : Nat} {e : Nat × Nat} (h : C[i]? = some e) : ((cc C).drop (i * 2)).take 2 = [.int .i64 (e.1 : Nat), .int .i64 (e.2 : Nat)] := by
 obtain ⟨hi, rfl⟩ := aMo.1 h
 exact aEY hi
def HtV (w : aNX) (base : Nat) (C : List (Nat × Nat)) (v : aNY) : Prop := ∃ b, v = .agg #[.int .i64 (pM C : Nat), .slice (some ⟨b, 0, none⟩) (2 ^ pM C) (2 ^ pM C)] /\ base <= b /\ eM w b (fc (Yz C (pM C) C.length))
theorem aCI {v : aNY} {l : List UInt8} {d : Nat} {w : aNX} (h : Bs w v l) (hd : jF (cF l) = d) (hd0 : d ≠ 0) :
 aS pg Aq #[v] w (fun r w' => ∃ t, r = .tuple #[t, .int .i64 0] /\ HtV w' w.heap.size (pQ (cF l) d) t /\ aW w w' eS) := by
 refine Ss ?_
 obtain ⟨RR, hRR⟩ : ∃ RR : aNY -> aNX -> Prop, RR = fun r w' => ∃ t, r = .tuple #[t, .int .i64 0] /\ HtV w' w.heap.size (pQ (cF l) d) t /\ aW w w' eS := ⟨_, rfl⟩
 rw [<- hRR]
 obtain ⟨hF, hmd⟩ := axF hd hd0
 have hok := yM hd hd0
 have hd11 := hok.2.1
 have hl256 := hok.2.2.2.1
 rw [kC] at hl256
 unfold VT DD Dd
 refine xH fun w1 o1 x1 s1 => ?_
 refine (aCf (h.ext x1 (bY _)) hd hd0).mono ?_
 rintro r w2 ⟨b, rfl, hb, ob, x2⟩
 have n0 : ((0 : Int) != 0) = false := rfl
 simp (disch := omega) only [aD, pT, pS, kP, aA, cY, n0, aE]
 refine xH fun w3 o3 x3 s3 => ?_
 refine uZ o3 rfl (by simp [one]) (by simp) fun w4 o4 x4 s4 => ?_
 simp only [bM, aLw, aLv] at o4
 generalize hC : pQ (cF l) d = C at *
 have hCl : C.length = l.length := by rw [<- hC, uO, kC]
 obtain ⟨p6, hp6⟩ : ∃ p, p = w2.heap.size := ⟨_, rfl⟩
 obtain ⟨p2, hp2⟩ : ∃ p, p = w.heap.size := ⟨_, rfl⟩
 rw [<- hp6] at o4 ⊢
 rw [<- hp2] at o1 ⊢
 have x24 : aW w2 w4 eS := x3.new x4 (aLF _)
 have x04 := (x1.seq x2).seq x24
 have z1 := x1.size
 have z2 := x2.size
 have z24 := x24.size
 have lb := ob.lt
 have ob4 := ob.ext x24 (fun h => h)
 have o14 := o1.ext (x2.seq x24) (fun h => h)
 have l1 := o1.lt
 unfold JF Lf Ki
 simp (disch := omega) only [aD, fJ, aA]
 unfold KQ Lu
 have hcl : ∀ {w' : aNX} {i : Nat} {e : Nat × Nat}, aW w4 w' (fun y => y = p6) -> C[i]? = some e -> (aL 171 (.pointer (some ⟨b, i * 2, none⟩))).run pg w' = .ok (.value (.agg #[.int .i64 (e.1 : Nat), .int .i64 (e.2 : Nat)])) w' := fun {w' i e} x hi => by
  have hlt := (aMo.1 hi).1
  have := Tb (off := i * 2) (ob4.ext x (by omega)) (by rw [EE]; omega)
  rw [aAh hi] at this
  exact this
 refine cR.rule (fun m (t : aNY) w' => ∃ i : Nat, m = l.length - i /\ t = .int .i64 i /\ i <= l.length /\ eM w' p6 [.int .i64 (pM (C.take i) : Nat), .slice none 0 0] /\ aW w4 w' (fun y => y = p6)) l.length
  ⟨0, rfl, rfl, by omega, o4, aW.refl _ _⟩ ?_
 rintro m t w5 ⟨i, rfl, rfl, hi, o5, x5⟩
 have z5 := x5.size
 unfold Dn
 by_cases hlt : i < l.length
 .have d1 : decide ((i : Int) < (l.length : Int)) = true := by simp; omega
  obtain ⟨e, he⟩ : ∃ e, C[i]? = some e := ⟨_, aLA (by omega)⟩
  have q1 := hcl x5 he
  simp (disch := omega) only [aD, aR, d1, eN, aLs, aLt, gA, bJ, aQ, aA, bO, q1, aG]
  refine UP fun w6 o6 x6 s6 => ?_
  refine Iw o6 rfl (by simp [one]) (by simp) fun w7 o7 x7 s7 => ?_
  simp only [bM, aLw, aLv] at o7
  have x57 : aW w5 w7 eS := x6.new x7 (aLF _)
  have o57 := o5.ext x57 (fun h => h)
  have k0 := o57.cell (off := 0)
  have k1 := o7.cell (off := 0)
  simp only [aLq, aLr] at k0 k1
  have hmx : (if ((e.1 : Nat) : Int) > ((pM (C.take i) : Nat) : Int) then ((e.1 : Nat) : Int) else ((pM (C.take i) : Nat) : Int)) = ((pM (C.take (i + 1)) : Nat) : Int) := by rw [aHa he]; split <;> omega
  have e1 : (i : Int) + 1 = ((i + 1 : Nat) : Int) := by omega
  simp (disch := omega) only [k0, aH, dC, e1, aA, bO, k1, A2, hmx]
  refine pH o57 rfl (by simp) fun w8 o8 x8 s8 => ?_
  simp only [aLw, aLv] at o8
  try simp (disch := omega) only [true_and]
  exact ⟨l.length - (i + 1), by omega, i + 1, rfl, rfl, by omega, o8, (x5.more x57).seq x8⟩
 .have d1 : decide ((i : Int) < (l.length : Int)) = false := by simp; omega
  obtain rfl : i = l.length := by omega
  rw [<- hCl, aNd] at o5
  unfold KF Kk
  have k0 := o5.cell (off := 0)
  simp only [aLq, aLr] at k0
  have hm11 : pM C <= 11 := by omega
  have hp11 : 2 ^ pM C <= 2 ^ 11 := aLC (by omega) hm11
  have hsh := afO (a := 1) (n := pM C) (by omega) (by omega)
  rw [aNF] at hsh
  have one1 : ((1 : Nat) : Int) = 1 := rfl
  rw [one1] at hsh
  simp (disch := omega) only [aD, aR, d1, gA, bJ, aQ, aA, bO, fI, aLt, k0, aH, pG, aLs, hsh, aE]
  have hN : (16 : Int) * ((2 ^ pM C : Nat) : Int) <= 2 ^ 48 := by generalize 2 ^ pM C = N at *; omega
  refine ajL (Int.natCast_nonneg _) hN fun w6 o6 x6 s6 => ?_
  rw [aLs] at o6 ⊢
  rw [aFp, <- aGF C] at o6
  have z6 := x6.size
  obtain ⟨pt, hpt⟩ : ∃ p, p = w5.heap.size := ⟨_, rfl⟩
  rw [<- hpt] at o6 ⊢
  refine aoE (o5.ext x6 (fun h => h)) rfl (by simp) fun w7 o7 x7 s7 => ?_
  simp only [aLw, aLv] at o7
  have l6 := o6.lt
  have l5 := o5.lt
  have o67 := o6.ext x7 (by omega)
  have x47 : aW w4 w7 (fun y => y = p6) := (x5.more x6).seq x7
  unfold KM KN Ke
  simp (disch := omega) only [aD, fJ, aA]
  unfold Lh Lc
  refine cR.rule (fun m (t : aNY) w' => ∃ i : Nat, m = l.length - i /\ t = .int .i64 i /\ i <= l.length /\ eM w' pt (fc (Yz C (pM C) i)) /\ aW w7 w' (fun y => y = pt)) l.length
   ⟨0, rfl, rfl, by omega, o67, aW.refl _ _⟩ ?_
  rintro m t w8 ⟨i, rfl, rfl, hi8, o8, x8⟩
  have z8 := x8.size
  unfold C6 Ky
  by_cases hlt : i < l.length
  .have d2 : decide ((i : Int) < (l.length : Int)) = true := by simp; omega
   obtain ⟨e, he⟩ : ∃ e, C[i]? = some e := ⟨_, aLA (by omega)⟩
   have q1 : (aL 171 (.pointer (some ⟨b, i * 2, none⟩))).run pg w8 = .ok (.value (.agg #[.int .i64 (e.1 : Nat), .int .i64 (e.2 : Nat)])) w8 := by
    have := Tb (off := i * 2) ((ob4.ext x47 (by omega)).ext x8 (by omega)) (by rw [EE]; omega)
    rw [aAh he] at this
    exact this
   simp (disch := omega) only [aD, aR, d2, aA, aG]
   unfold Ng OC WH NF
   simp (disch := omega) only [aD, eN, aLs, aLt, gA, aA, bO, q1]
   refine UP fun w9 o9 x9 s9 => ?_
   refine Iw o9 rfl (by simp [one]) (by simp) fun wa oa xa sa => ?_
   simp only [bM, aLw, aLv] at oa
   have x8a : aW w8 wa eS := x9.new xa (aLF _)
   have z8a := x8a.size
   have k1 := oa.cell (off := 0)
   have k2 := oa.cell (off := 1)
   have k3 := ((o7.ext x8 (by omega)).ext x8a (fun h => h)).cell (off := 0)
   simp only [aLq, aLr] at k1 k2 k3
   have e1 : (i : Int) + 1 = ((i + 1 : Nat) : Int) := by omega
   have o8a := o8.ext x8a (fun h => h)
   obtain ⟨eb, ec⟩ := e
   simp only at k1 k2
   by_cases hb0 : eb = 0
   .have n1 : ((eb : Int) == 0) = true := by simp; omega
    simp (disch := omega) only [dC, fA, aLt, aA, bO, k1, aH, dV, n1, k2, k3, fF, aQ, pG, aG]
    unfold Bq
    simp (disch := omega) only [aD, bJ, e1, aQ, aA]
    subst hb0
    exact ⟨l.length - (i + 1), by omega, i + 1, rfl, rfl, by omega, by rw [aGw he]; exact o8a, x8.more x8a⟩
   .have n1 : ((eb : Int) == 0) = false := by simp; omega
    obtain ⟨hle, hfit⟩ := hF.le _ _ _ he
    have hlow := aJ8 hF he (by omega)
    have hp := aLW (pM C - eb)
    have e2 : ((pM C : Nat) : Int) - (eb : Int) = ((pM C - eb : Nat) : Int) := by omega
    have e3 := afO (a := ec) (n := pM C - eb) (by omega) (by omega)
    have e4 := afO (a := 1) (n := pM C - eb) (by omega) (by omega)
    rw [aNF, one1] at e4
    simp (disch := omega) only [dC, fA, aLt, aA, bO, k1, aH, dV, n1, k2, k3, fF, e2, aQ, pG, aLs, e3, e4, aE]
    unfold MQ Nn
    refine cR.rule (fun m (t : aNY) w' => ∃ j : Nat, m = 2 ^ (pM C - eb) - j /\ t = .int .i64 j /\ j <= 2 ^ (pM C - eb) /\ eM w' pt (fc (azD C (pM C) i (ec * 2 ^ (pM C - eb)) j)) /\ aW wa w' (fun y => y = pt)) (2 ^ (pM C - eb))
     ⟨0, rfl, rfl, by omega, by rw [aGb]; exact o8a, aW.refl _ _⟩ ?_
    rintro m t wb ⟨j, rfl, rfl, hj, ob', xb⟩
    unfold G9
    by_cases hjt : j < 2 ^ (pM C - eb)
    .have d3 : decide ((j : Int) < ((2 ^ (pM C - eb) : Nat) : Int)) = true := decide_eq_true (Int.ofNat_lt.2 hjt)
     have f1 := (((o7.ext x8 (by omega)).ext x8a (fun h => h)).ext xb (by omega)).cell (off := 1)
     have f2 := (oa.ext xb (by omega)).cell (off := 0)
     simp only [aLq, aLr] at f1 f2
     have e5 : ((ec * 2 ^ (pM C - eb) : Nat) : Int) + (j : Int) = ((ec * 2 ^ (pM C - eb) + j : Nat) : Int) := by omega
     have e6 : IntKind.u8.wrap (i : Int) = (i : Int) := xL (by omega) (by omega)
     have e7 : (j : Int) + 1 = ((j + 1 : Nat) : Int) := by omega
     simp (disch := omega) only [aD, aR, d3, fI, aLt, bJ, e5, aQ, eQ, e6, dC, e7, aA, bO, hJ, f1, aH, f2, jC, aLs, iZ, aG]
     have hx : ec * 2 ^ (pM C - eb) + j < 2 ^ pM C := by omega
     refine Wa (off := (ec * 2 ^ (pM C - eb) + j) * 2) ob' rfl (by simp [one]) (by rw [apC, atC]; omega) fun wc oc xc sc => ?_
     simp only [bM] at oc
     have hs := aHT (L := azD C (pM C) i (ec * 2 ^ (pM C - eb)) j) (i := ec * 2 ^ (pM C - eb) + j) (i, eb) (by rw [atC]; exact hx)
     simp only at hs
     have hbo := amY he
     have hj2 := aHt (C := C) (s := i) hx
     rw [hbo] at hj2
     rw [hs, hj2] at oc
     try simp (disch := omega) only [true_and]
     exact ⟨2 ^ (pM C - eb) - (j + 1), by omega, j + 1, rfl, rfl, by omega, oc, xb.seq xc⟩
    .have d3 : decide ((j : Int) < ((2 ^ (pM C - eb) : Nat) : Int)) = false := decide_eq_false fun h => hjt (Int.ofNat_lt.1 h)
     have hje : j = 2 ^ (pM C - eb) := by omega
     subst hje
     unfold Bq
     simp (disch := omega) only [aD, aR, d3, fI, aLt, bJ, aQ, eQ, xL, dC, aA, bO, hJ, e1, aE]
     exact ⟨l.length - (i + 1), by omega, i + 1, rfl, rfl, by omega, by rw [<- aHb hF he (by omega)]; exact ob', (x8.more x8a).seq xb⟩
  .have d2 : decide ((i : Int) < (l.length : Int)) = false := by simp; omega
   have hie : i = l.length := by omega
   subst hie
   unfold FU
   have o78 := o7.ext x8 (by omega)
   have q1 := PK (off := 0) o78 (by simp)
   simp only [aLy, aLx, aLB] at q1
   simp (disch := omega) only [aD, aR, d2, aA, q1, aE]
   refine uZ ((o14.ext x47 (by omega)).ext x8 (by omega)) rfl (by simp [one]) (by simp) fun w9 o9 x9 s9 => ?_
   refine XJ o9 (by simp [bM]) ?_
   simp only [bM, aLw, aLv, aLy, aLx, aLB]
   rw [hRR]
   refine ⟨_, rfl, ⟨pt, rfl, by omega, ?_⟩, ?_⟩
   .rw [hCl]; exact o8.ext x9 (by omega)
   .exact ((x04.trans x47 fun y hy h => by omega).trans x8 fun y hy h => by omega).new x9 (by omega)
theorem aFk {w : aNX} {b i : Nat} {C : List (Nat × Nat)} {e : Nat × Nat} (o : eM w b (cc C)) (h : C[i]? = some e) :
 w.cell? ⟨b, i * 2, none⟩ = some (.int .i64 (e.1 : Nat)) /\ w.cell? ⟨b, i * 2 + 1, none⟩ = some (.int .i64 (e.2 : Nat)) := by
 have ht := aAh h
 obtain ⟨hi, rfl⟩ := aMo.1 h
 have h0 := congrArg (fun l => l[0]?) ht
 have h1 := congrArg (fun l => l[1]?) ht
 simp only [List.getElem?_take, aM7, aMA, aLq, aLr] at h0 h1
 rw [o.cell, o.cell]
 exact ⟨by simpa using h0, by simpa using h1⟩
def WrC (C : List (Nat × Nat)) : Prop := C.length <= 256 /\ ∀ (s : Nat) (e : Nat × Nat), C[s]? = some e -> e.1 <= 11 /\ (0 < e.1 -> e.2 < 2 ^ 11)
def aKI (w : aNX) (base : Nat) (C : List (Nat × Nat)) (l : List UInt8) (r : aNY) : Prop :=
 ((∃ s ∈ cF l, bitsOf C s = 0) /\ r = .tuple #[.slice none 0 0, .int .i64 1]) ∨
 ((∀ s ∈ cF l, 0 < bitsOf C s) /\ ∃ v bytes, r = .tuple #[v, .int .i64 0] /\ Bs w v bytes /\ auB (SR C (cF l) ++ [true]) bytes /\ AtI v base w.heap.size)
theorem aJu : aHB dX = #[12, 13] := by kernel_rfl
theorem aKx : anU pg nF = 42 := by kernel_rfl
theorem aFX {C : List (Nat × Nat)} {l : List Nat} {i s : Nat} (h : l[i]? = some s) : SR C (l.drop i) = SR C (l.drop (i + 1)) ++ yQ (C.getD s (0, 0)).2 (C.getD s (0, 0)).1 := by
 obtain ⟨hi, rfl⟩ := aMo.1 h
 rw [aL2 hi, SR]
theorem aCA {C : List (Nat × Nat)} {l : List UInt8} {b : Nat} {v : aNY} {w : aNX} (ho : eM w b (cc C)) (hb : Bs w v l) (hC : WrC C) (hl : l.length <= 200000) :
 aS pg nF #[.slice (some ⟨b, 0, none⟩) C.length C.length, v] w (fun r w' => aKI w' w.heap.size C l r /\ aW w w' eS) := by
 refine anD ?_
 obtain ⟨RR, hRR⟩ : ∃ RR : aNY -> aNX -> Prop, RR = fun r w' => aKI w' w.heap.size C l r /\ aW w w' eS := ⟨_, rfl⟩
 rw [<- hRR]
 unfold asJ O0 Pf
 refine nR fun w1 o1 x1 s1 => ?_
 simp only [Value.cells] at o1
 refine aC1 fun w2 o2 x2 s2 => ?_
 refine aBW fun w3 o3 x3 s3 => ?_
 refine (aBB w3).mono ?_
 rintro r w4 ⟨rfl, s4, hW4, x4⟩
 refine apY fun w5 o5 x5 s5 => ?_
 refine aoB o5 rfl (by simp) fun w6 o6 x6 s6 => ?_
 simp only [aLw] at o6
 unfold M3 Nb NK
 refine P5 ?_
 unfold Jj xX
 obtain ⟨va, vn, vc, hv, -⟩ := id hb
 subst hv
 refine nR fun w7 o7 x7 s7 => ?_
 simp only [Value.cells] at o7
 have q1 := fun w => aJ6 (P := pg) (f := pE) [] [.pointer (some ⟨w6.heap.size, 0, none⟩)] w
 simp (disch := omega) only [aD, q1, aA]
 unfold M9 Pl
 intro g g2 g4 g5 g6 g11 gm
 generalize hn0 : w.heap.size = n0 at *
 have e1 : w1.heap.size = n0 + 1 := by omega
 have e2 : w2.heap.size = n0 + 2 := by omega
 have e3 : w3.heap.size = n0 + 3 := by omega
 have e4 : w4.heap.size = n0 + 4 := by omega
 have e6 : w6.heap.size = n0 + 5 := by omega
 have e7 : w7.heap.size = n0 + 6 := by omega
 rw [e1] at o2 g4
 rw [e2] at o3 g5
 rw [e3] at hW4 o6
 rw [e4] at o6 g6
 rw [e6] at o7 g11
 have x06 : aW w w6 eS := ((((x1.seq x2).seq x3).seq x4).seq x5).trans x6 fun y hy h => by omega
 have x07 : aW w w7 eS := x06.seq x7
 have hv7 : Bs w7 (.slice va vn vc) l := hb.ext x07 (bY _)
 have lb := ho.lt
 have b1 : eM w7 n0 [.slice (some ⟨b, 0, none⟩) C.length C.length] := ((((((o1.ext x2 (fun h => h)).ext x3 (fun h => h)).ext x4 (fun h => h)).ext x5 (fun h => h)).ext x6 (by omega))).ext x7 (fun h => h)
 have b2 : eM w7 (n0 + 1) [.slice none 0 0] := (((((o2.ext x3 (fun h => h)).ext x4 (fun h => h)).ext x5 (fun h => h)).ext x6 (by omega))).ext x7 (fun h => h)
 have b3 : eM w7 (n0 + 2) [.int .i64 0] := ((((o3.ext x4 (fun h => h)).ext x5 (fun h => h)).ext x6 (by omega))).ext x7 (fun h => h)
 have b6 : eM w7 (n0 + 4) [.pointer (some ⟨n0 + 3, 0, none⟩)] := o6.ext x7 (fun h => h)
 have bC : eM w7 b (cc C) := ho.ext x07 (fun h => h)
 have hW7 : Ws w7 (fun y => n0 + 7 < y) (n0 + 3) [] :=
  ((hW4.ext x5 (fun h => h) (fun _ h => h.elim)).ext x6 (by omega) (fun _ h => h.elim)).ext x7 (fun h => h) (fun _ h => h.elim) |>.turn (by omega) (fun _ h => h.elim)
 refine aG2 (fi := pE) (cap := #[.pointer (some ⟨n0 + 5, 0, none⟩)]) (by show noMark (g 1000003) = true; rw [gm] <;> rfl) g11 Tryz.func105 (by kernel_rfl) (by kernel_rfl) ?_
 obtain ⟨x8, s8, d8, l8⟩ := aFQ nF (anU pg nF) (aHB dX) (aFV dX) (aEq dX) g w7
 rw [e7] at s8 d8 l8 ⊢
 generalize rfW nF (anU pg nF) (aHB dX) (aFV dX) (aEq dX) g w7 = w8 at *
 obtain ⟨r0, hr0⟩ : ∃ r0 : Loop, r0 = { state := .ready, pending := none, fn := nF, tmps := tmpsOf (anU pg nF) g, params := aHB dX, assign := aFV dX, body := aEq dX, defers := n0 + 6 } := ⟨_, rfl⟩
 rw [<- hr0] at l8
 let I : Nat -> aNX -> Prop := fun i W => W.heap[n0 + 7]? = some (.loop r0) /\ aW w8 W (fun y => y = n0 + 7 ∨ y = n0 + 3 ∨ n0 + 7 < y) /\ Ws W (fun y => n0 + 7 < y) (n0 + 3) (SR C ((cF l).drop i)) /\ ∀ s ∈ (cF l).drop i, 0 < bitsOf C s
 let S : aNX -> Prop := fun W => (∃ s ∈ cF l, bitsOf C s = 0) /\ W.heap[n0 + 7]? = some (.loop { r0 with state := .done, pending := some .ret }) /\ eM W (n0 + 1) [.slice none 0 0] /\ eM W (n0 + 2) [.int .i64 1] /\ aW w W eS /\ W.heap[n0 + 6]? = some (.deferred (some []))
 have hbits : ∀ s, bitsOf C s <= 11 := fun s => by
  unfold bitsOf
  rw [aLE]
  cases h : C[s]? with
  | none => simp
  | some e => exact (hC.2 s e h).1
 have x08 : aW w w8 eS := x07.seq x8
 have hmain := aEF (l := l) (v := .slice va vn vc) (box := n0 + 5) (lp := n0 + 7) (r0 := r0) (w := w8) I S ?hI ?hp (by omega) ?h0 ?hs
 case hI =>
  rintro i W ⟨hlp, hx, _⟩
  exact ⟨(o7.ext x8 (fun h => h)).ext hx (by omega), hb.ext (x08.trans hx fun y hy h => by omega) (bY _), hlp⟩
 case hp => rw [hr0, aJu] <;> rfl
 case h0 =>
  refine ⟨l8, aW.refl _ _, ?_, ?_⟩
  .rw [aNS (by rw [kC]; omega)]; exact hW7.ext x8 (fun h => h) (fun _ _ h => h)
  .rw [aNS (by rw [kC]; omega)]; intro s hs; cases hs
 case hs =>
  rintro i W hi ⟨hlp, hx, hW, hall⟩
  have zW := hx.size
  have y08 : aW w W eS := x08.trans hx fun y hy h => by omega
  have hT : awK r0 [.int .i64 i, .int .u8 ((l[i]'hi).toNat : Nat)] = ((tmpsOf 42 g).setIfInBounds 12 (.int .i64 i)).setIfInBounds 13 (.int .u8 ((l[i]'hi).toNat : Nat)) := by
   exact aI0 (by rw [hr0]; exact aJu) (by rw [hr0]; simp only; rw [aKx]) _ _
  have hE : ∀ {x : Nat} {u v z : aNY}, x < 12 -> g x = u -> Vc (((tmpsOf 42 g).setIfInBounds 12 v).setIfInBounds 13 z) x = u := fun {x u v z} h1 h2 => by
   rw [ayZ (by simp [tmpsOf]), if_neg (by omega), ayZ (by simp [tmpsOf]), if_neg (by omega), aF7 (by omega), h2]
  have hE13 : ∀ {v z : aNY}, Vc (((tmpsOf 42 g).setIfInBounds 12 v).setIfInBounds 13 z) 13 = z := fun {v z} => by
   rw [ayZ (by simp [tmpsOf]), if_pos rfl]
  rw [hT]
  have a0 := (b1.ext x8 (fun h => h)).ext hx (by omega)
  have a1 := (b2.ext x8 (fun h => h)).ext hx (by omega)
  have a2 := (b3.ext x8 (fun h => h)).ext hx (by omega)
  have a6 := (b6.ext x8 (fun h => h)).ext hx (by omega)
  have aC := (bC.ext x8 (fun h => h)).ext hx (by omega)
  have ad := Io d8 hx (by omega)
  have hlt : n0 + 7 < W.heap.size := by omega
  subst hr0
  refine amL (by simp [tmpsOf]) ?_
  rw [hE (by omega) g2, hE (by omega) g4, hE (by omega) g5, hE (by omega) g6, hE13]
  unfold UY GL
  refine aGH hlp rfl fun W1 l1 y1 z1 => ?_
  have a0 := a0.ext y1 (by omega)
  have a1 := a1.ext y1 (by omega)
  have a2 := a2.ext y1 (by omega)
  have a6 := a6.ext y1 (by omega)
  have aC := aC.ext y1 (by omega)
  have ad := Io ad y1 (by omega)
  have hW := hW.ext y1 (by omega) (fun _ h => by omega)
  have y01 : aW w W1 eS := y08.trans y1 fun y hy h => by omega
  have hs256 : (l[i]'hi).toNat < 256 := aL9 _
  have hget : (cF l)[i]? = some (l[i]'hi).toNat := by unfold cF; rw [aLZ, aLA hi] <;> rfl
  have hmem : (l[i]'hi).toNat ∈ cF l := aMz hget
  have hdr := aFX (C := C) hget
  have hcons : (cF l).drop i = (l[i]'hi).toNat :: (cF l).drop (i + 1) := by
   obtain ⟨hj, e⟩ := aMo.1 hget
   rw [aL2 hj, e]
  generalize (l[i]'hi).toNat = s at *
  have c0 := a0.cell (off := 0)
  simp only [aLq] at c0
  have hbad : bitsOf C s = 0 -> ∀ W2, aW W1 W2 (fun y => y = n0 + 1 ∨ y = n0 + 2) -> eM W2 (n0 + 1) [.slice none 0 0] -> eM W2 (n0 + 2) [.int .i64 1] -> aDe (n0 + 7) (some .ret) (fun b W' => (b = .bool true /\ I i W') ∨ (b = .bool false /\ S W')) W2 := by
   intro h0 W2 y2 k1 k2
   refine axN (Io l1 y2 (by omega)) fun W3 l3 y3 z3 => .inr ⟨rfl, ⟨s, hmem, h0⟩, l3, k1.ext y3 (by omega), k2.ext y3 (by omega), ?_, ?_⟩
   .exact (y01.trans y2 fun y hy h => by omega).trans y3 fun y hy h => by omega
   .exact Io (Io ad y2 (by omega)) y3 (by omega)
  unfold Bf
  by_cases hge : C.length <= s
  .have d1 : decide ((C.length : Int) <= (s : Int)) = true := by simp; omega
   simp (disch := omega) only [aD, dT, aQ, gN, gY, true_and, aA, c0, aH, fJ, nJ, d1, iT, bF, if_true, aG, cV]
   refine yX a1 rfl (by simp) fun W2 k1 y2 z2 => ?_
   refine Fv (a2.ext y2 (by omega)) rfl (by simp) fun W3 k2 y3 z3 => ?_
   simp only [aLw] at k1 k2
   refine hbad ?_ W3 ((y2.mono fun _ _ h => .inl h).seq (y3.mono fun _ _ h => .inr h)) (k1.ext y3 (by omega)) k2
   unfold bitsOf; rw [aLE, aLH hge] <;> rfl
  .have d1 : decide ((C.length : Int) <= (s : Int)) = false := by simp; omega
   obtain ⟨e, he⟩ : ∃ e, C[s]? = some e := ⟨_, aLA (by omega)⟩
   obtain ⟨p0, p1⟩ := aFk aC he
   obtain ⟨hc1, hc2⟩ := hC.2 s e he
   have hbo := amY (b := e.1) (c := e.2) he
   by_cases h0 : e.1 = 0
   .have n1 : (((e.1 : Nat) : Int) == 0) = true := by simp; omega
    simp (disch := omega) only [aD, dT, aQ, gN, gY, true_and, aA, c0, aH, fJ, nJ, d1, cW, bF, aLu, if_false, bL, eN, aLs, aLt, dC, bO, p0, dV, n1, aG]
    refine yX a1 rfl (by simp) fun W2 k1 y2 z2 => ?_
    refine Fv (a2.ext y2 (by omega)) rfl (by simp) fun W3 k2 y3 z3 => ?_
    simp only [aLw] at k1 k2
    exact hbad (by rw [hbo]; exact h0) W3 ((y2.mono fun _ _ h => .inl h).seq (y3.mono fun _ _ h => .inr h)) (k1.ext y3 (by omega)) k2
   .have n1 : (((e.1 : Nat) : Int) == 0) = false := by simp; omega
    have hc2 := hc2 (by omega)
    have c0d := (kB a0).cell (off := 0)
    have c6d := (kB a6).cell (off := 0)
    simp only [aLq] at c0d c6d
    obtain ⟨p0d, p1d⟩ := aFk (kB aC) he
    simp (disch := omega) only [aD, dT, aQ, gN, gY, true_and, aA, c0, aH, fJ, nJ, d1, cW, bF, aLu, if_false, bL, eN, aLs, aLt, dC, bO, p0, dV, n1, c6d, c0d, p0d, fA, p1d, fT, kV, aE]
    have hlen := tG hbits ((cF l).drop (i + 1))
    rw [aLM, kC] at hlen
    refine (aIo (x := e.2) (n := e.1) (hW.ext (aW.dr W1 eS) (fun h => h) (fun _ _ h => h)) (fun y hy => by have : (dr W1).heap.size = W1.heap.size := rfl; omega) (by omega) (by omega) (by omega)).mono ?_
    rintro r W2 ⟨rfl, hW2, y2⟩
    have y12 : aW W1 W2 (fun y => y = n0 + 3 ∨ n0 + 7 < y) := (aW.dr W1 _).seq y2
    refine axN (Io l1 y12 (by omega)) fun W3 l3 y3 z3 => .inl ⟨rfl, l3, ?_, ?_, ?_⟩
    .refine ((hx.trans y1 fun y _ h => by omega).trans y12 fun y _ h => by omega).trans y3 fun y _ h => by omega
    .rw [hdr]
     have hg : C.getD s (0, 0) = e := by rw [aLE, he] <;> rfl
     rw [hg]
     exact hW2.ext y3 (by omega) (fun _ h => by omega)
    .rw [hcons]
     intro t ht
     rcases aMl.1 ht with rfl | ht
     .rw [hbo]; omega
     .exact hall t ht
 refine hmain.mono ?_
 rintro r w9 ⟨rfl, h⟩
 rcases h with ⟨hlp, hx, hW, hall⟩ | ⟨hbad, hlp, k1, k2, hx, hd⟩
 .have a1 := (b2.ext x8 (fun h => h)).ext hx (by omega)
  have a2 := (b3.ext x8 (fun h => h)).ext hx (by omega)
  have a6 := (b6.ext x8 (fun h => h)).ext hx (by omega)
  have ad := Io d8 hx (by omega)
  have y09 : aW w w9 eS := x08.trans hx fun y hy h => by omega
  refine arX hlp (by rw [hr0]; simp) fun wa ya za => ?_
  rw [hr0]
  have hz : put g (some DS) (.pointer (some ⟨n0 + 6, 0, none⟩)) 4 = g 4 := rfl
  have hz5 : put g (some DS) (.pointer (some ⟨n0 + 6, 0, none⟩)) 5 = g 5 := rfl
  have hz6 : put g (some DS) (.pointer (some ⟨n0 + 6, 0, none⟩)) 6 = g 6 := rfl
  have hzm : put g (some DS) (.pointer (some ⟨n0 + 6, 0, none⟩)) 1000003 = .pointer (some ⟨n0 + 6, 0, none⟩) := rfl
  show BE RR (put g (some DS) (.pointer (some ⟨n0 + 6, 0, none⟩)) 4) (put g (some DS) (.pointer (some ⟨n0 + 6, 0, none⟩)) 5) (put g (some DS) (.pointer (some ⟨n0 + 6, 0, none⟩)) 6) (put g (some DS) (.pointer (some ⟨n0 + 6, 0, none⟩)) 1000003) wa
  rw [hz, hz5, hz6, hzm, g4, g5, g6]
  unfold BE
  have a1 := a1.ext ya (by omega)
  have a2 := a2.ext ya (by omega)
  have a6 := a6.ext ya (by omega)
  have ad := Io ad ya (by omega)
  have hW := hW.ext ya (by omega) (fun _ h => by omega)
  have y0a : aW w wa eS := y09.trans ya fun y hy h => by omega
  have c6 := a6.cell (off := 0)
  simp only [aLq] at c6
  simp (disch := omega) only [aD, gY, c6, aH, aA]
  have hlen := tG hbits (cF l)
  rw [kC] at hlen
  rw [aLy] at hW hall
  refine (aH4 hW.wr (by omega)).mono ?_
  rintro r wb ⟨bytes, hbs, hheld, hat, yb⟩
  refine yX (a1.ext yb (fun h => h)) ?_ (by simp) fun wc kc yc zc => ?_
  .obtain ⟨a, n, c, rfl, _⟩ := hbs; rfl
  refine Fv ((a2.ext yb (fun h => h)).ext yc (by omega)) rfl (by simp) fun wd kd yd zd => ?_
  simp only [aLw] at kc kd
  refine awP (Io (Io (Io ad yb (fun h => h)) yc (by omega)) yd (by omega)) fun we ye ze => ?_
  refine alY ((kc.ext yd (by omega)).ext ye (by omega)) rfl ?_
  refine Zz (kd.ext ye (by omega)) rfl ?_
  have y0b : aW w wb eS := y0a.seq yb
  have zb := yb.size
  have z0a := y0a.size
  have z89 := hx.size
  have zcd := yc.size
  have zdd := yd.size
  have zee := ye.size
  rw [hRR]
  refine ⟨.inr ⟨hall, _, bytes, rfl, ?_, hheld, ?_⟩, ((y0b.trans yc fun y hy h => by omega).trans yd fun y hy h => by omega).trans ye fun y hy h => by omega⟩
  .refine ((hbs.ext yc ?_).ext yd ?_).ext ye ?_ <;> exact hat _ fun y h1 h2 => by omega
  .exact fun M hM => hat M fun y h1 h2 => hM y (by omega) (by omega)
 .refine arX hlp (by simp) fun wa ya za => ?_
  show Hh (put g (some DS) (.pointer (some ⟨n0 + 6, 0, none⟩)) 1000003) wa fun w => Ac pg 22 (put g (some DS) (.pointer (some ⟨n0 + 6, 0, none⟩)) 4) w fun r0 => Ac pg 27 (put g (some DS) (.pointer (some ⟨n0 + 6, 0, none⟩)) 5) w fun r1 => RR (.tuple #[r0, r1]) w
  have hz : put g (some DS) (.pointer (some ⟨n0 + 6, 0, none⟩)) 4 = g 4 := rfl
  have hz5 : put g (some DS) (.pointer (some ⟨n0 + 6, 0, none⟩)) 5 = g 5 := rfl
  have hzm : put g (some DS) (.pointer (some ⟨n0 + 6, 0, none⟩)) 1000003 = .pointer (some ⟨n0 + 6, 0, none⟩) := rfl
  rw [hz, hz5, hzm, g4, g5]
  refine awP (Io hd ya (by omega)) fun we ye ze => ?_
  refine alY ((k1.ext ya (by omega)).ext ye (by omega)) rfl ?_
  refine Zz ((k2.ext ya (by omega)).ext ye (by omega)) rfl ?_
  rw [hRR]
  exact ⟨.inl ⟨hbad, rfl⟩, (hx.trans ya fun y hy h => by omega).trans ye fun y hy h => by omega⟩
theorem aBx (p : Int) (w : aNX) : aS pg yF #[.int .i64 p] w (fun r w' => r = .int .i64 (iU p) /\ w' = w) := by
 refine aiJ ?_
 unfold iU
 by_cases h : p < 0
 .have d : decide (p < 0) = true := by simpa using h
  simp (disch := omega) only [TU, Df, aD, aR, d, aA, and_true, aG]
  rw [if_pos h]
 .have d : decide (p < 0) = false := by simpa using h
  simp (disch := omega) only [TU, Df, aD, aR, d, aA, and_true, aE]
  rw [if_neg h]
theorem TM {ps : List Int} (h : 0 < ps.length) : (ps.getLast? = some 0) ↔ ps[ps.length - 1]'(by omega) = 0 := by
 rw [aNl, aLA (by omega)]
 simp
theorem aKE {log : Int} {sv : aNY} {ps : List Int} {w : aNX} (hs : Sl w sv (ps.map (Value.int .i64))) (hl : ps.length <= 9223372036854775807) :
 aS pg Mn #[.agg #[.int .i64 log, sv]] w (fun r w' => r = .bool (Y4 log ps) /\ aW w w' eS) := by
 refine avO ?_
 unfold ayG Rh Rr
 obtain ⟨a, c, rfl, hc⟩ := hs.lenI
 refine nR fun w1 o1 x1 s1 => ?_
 have hs0 := hs
 have hs := hs.ext x1 (bY _)
 have c0 := o1.cell (off := 0)
 have c1 := o1.cell (off := 1)
 simp only [Value.cells, aLq, aLr] at c0 c1
 have no : ¬ (5 <= log /\ log <= 15 /\ 1 <= ps.length /\ ps.length <= 256 /\ ps.getLast? ≠ some 0) -> Y4 log ps = false := fun h => by
  unfold Y4 aA2; rw [decide_eq_false h] <;> rfl
 by_cases h1 : log < 5
 .have d1 : decide (log < 5) = true := by simpa using h1
  simp (disch := omega) only [aD, bV, aA, bK, aLt, bO, c0, aH, aR, d1, iT, bF, if_true, aG, cV]
  exact ⟨by rw [no (by omega)], x1⟩
 have d1 : decide (log < 5) = false := by simpa using h1
 by_cases h2 : 15 < log
 .have d2 : decide (15 < log) = true := by simpa using h2
  simp (disch := omega) only [aD, bV, aA, bK, aLt, bO, c0, aH, aR, d1, cW, bF, aLu, if_false, bL, cX, d2, iT, if_true, aG, cV]
  exact ⟨by rw [no (by omega)], x1⟩
 have d2 : decide (15 < log) = false := by simpa using h2
 by_cases h3 : ps.length < 1
 .have d3 : decide ((ps.length : Int) < 1) = true := by simp; omega
  simp (disch := omega) only [aD, bV, aA, bK, aLt, bO, c0, aH, aR, d1, cW, bF, aLu, if_false, bL, cX, d2, dS, c1, gC, d3, iT, if_true, aG, cV]
  exact ⟨by rw [no (by omega)], x1⟩
 have d3 : decide ((ps.length : Int) < 1) = false := by simp; omega
 by_cases h4 : 256 < ps.length
 .have d4 : decide ((256 : Int) < (ps.length : Int)) = true := by simp; omega
  simp (disch := omega) only [aD, bV, aA, bK, aLt, bO, c0, aH, aR, d1, cW, bF, aLu, if_false, bL, cX, d2, dS, c1, gC, d3, d4, iT, if_true, aG, cV]
  exact ⟨by rw [no (by omega)], x1⟩
 have d4 : decide ((256 : Int) < (ps.length : Int)) = false := by simp; omega
 obtain ⟨b, off, c', e, hc', hcell⟩ := hs.openI (by omega)
 cases e
 have e1 : ((ps.length : Int) - 1) = ((ps.length - 1 : Nat) : Int) := by omega
 have g1 := hcell (ps.length - 1) (by omega)
 by_cases h5 : ps[ps.length - 1]'(by omega) = 0
 .have d5 : (ps[ps.length - 1]'(by omega) == 0) = true := by simpa using h5
  simp (disch := omega) only [aD, bV, aA, bK, aLt, bO, c0, aH, aR, d1, cW, bF, aLu, if_false, bL, cX, d2, dS, c1, gC, d3, d4, fF, e1, aQ, hZ, aLs, g1, dV, d5, pG, aG]
  exact ⟨by rw [no (fun h => h.2.2.2.2 ((TM (by omega)).2 h5))], x1⟩
 have d5 : (ps[ps.length - 1]'(by omega) == 0) = false := by simpa using h5
 obtain ⟨l, rfl⟩ : ∃ l : Nat, log = l := ⟨log.toNat, by omega⟩
 have hsh : IntKind.i64.wrap (1 * 2 ^ (min l IntKind.i64.bits)) = (2 : Int) ^ l := by
  have : ∀ k : Fin 16, IntKind.i64.wrap (1 * 2 ^ (min k.val IntKind.i64.bits)) = (2 : Int) ^ k.val := by decide
  exact this ⟨l, by omega⟩
 have hyes : Y4 (l : Int) ps = fits (2 ^ l) ps := by
  unfold Y4 aA2
  rw [decide_eq_true ⟨by omega, by omega, by omega, by omega, fun h => h5 ((TM (by omega)).1 h)⟩, aLs] <;> rfl
 simp (disch := omega) only [aD, bV, aA, bK, aLt, bO, c0, aH, aR, d1, cW, bF, aLu, if_false, bL, cX, d2, dS, c1, gC, d3, d4, fF, e1, aQ, hZ, aLs, g1, dV, d5, pG, hsh, aE]
 unfold Ru R8 R3 RP QQ
 simp (disch := omega) only [aD, bK, aLt, aA, dS, c1, aH, gC]
 have hp15 := aDI (log := l) (by omega)
 have hp1 := aDw l
 refine cR.rule (fun m t w' => ∃ (i : Nat) (left : Int), m = ps.length - i /\ t = (.int .i64 left, .int .i64 i) /\ i <= ps.length /\ 0 <= left /\ left <= 32768 /\ fits (2 ^ l) ps = fits left (ps.drop i) /\ aW w w' eS) ps.length
  ⟨0, 2 ^ l, rfl, rfl, by omega, by omega, hp15, rfl, x1⟩ ?_
 rintro m t w2 ⟨i, left, rfl, rfl, hi, hl0, hl1, hf, x2⟩
 by_cases hlt : i < ps.length
 .have d6 : decide ((i : Int) < (ps.length : Int)) = true := by simp; omega
  have hsw := hs0.ext x2 (bY _)
  obtain ⟨b', off', c', e, _, hcell2⟩ := hsw.openI (by omega)
  cases e
  have g2 := hcell2 i hlt
  have hd : ps.drop i = ps[i] :: ps.drop (i + 1) := aL2 hlt
  rw [hd, fits] at hf
  by_cases h6 : ps[i] < -1
  .have d7 : decide (ps[i] < -1) = true := by simpa using h6
   simp (disch := omega) only [Au, aD, aR, d6, hZ, aLs, bJ, aQ, aA, bO, g2, aH, d7, iT, bF, if_true, aG, cV]
   rw [if_pos (.inl h6)] at hf
   exact ⟨by rw [hyes, hf], x2⟩
  have d7 : decide (ps[i] < -1) = false := by simpa using h6
  simp (disch := omega) only [Au, aD, aR, d6, hZ, aLs, bJ, aQ, aA, bO, g2, aH, d7, cW, bF, aLu, if_false, bL, aG]
  refine (aBx _ _).mono ?_
  rintro r w3 ⟨rfl, rfl⟩
  by_cases h7 : left < iU ps[i]
  .have d8 : decide (left < iU ps[i]) = true := by simpa using h7
   simp (disch := omega) only [cX, d8, aA, aG]
   rw [if_pos (.inr h7)] at hf
   exact ⟨by rw [hyes, hf], x2⟩
  have d8 : decide (left < iU ps[i]) = false := by simpa using h7
  simp (disch := omega) only [cX, d8, aA, aE]
  refine (aBx _ _).mono ?_
  rintro r w3 ⟨rfl, rfl⟩
  rw [if_neg (by omega)] at hf
  have hpn := sU (p := ps[i]) (by omega)
  simp (disch := omega) only [fF, aQ, aA]
  exact ⟨ps.length - (i + 1), by omega, i + 1, left - iU ps[i], rfl, rfl, by omega, by omega, by omega, hf, x2⟩
 .have d6 : decide ((i : Int) < (ps.length : Int)) = false := by simp; omega
  rw [aNf (by omega), fits] at hf
  unfold Au IE
  simp (disch := omega) only [aD, aR, d6, bJ, aQ, aA, dV, aE]
  exact ⟨by rw [hyes, hf], x2⟩
theorem aHF {ps : List Int} {i : Nat} (hi : i < ps.length) : F0 (ps.take (i + 1)) = F0 (ps.take i) + iU ps[i] := by
 rw [aMq, aLA hi, Xy]; simp [F0]
theorem aHn {log : Int} {sv : aNY} {ps : List Int} {w : aNX} (hs : Sl w sv (ps.map (Value.int .i64))) (hl : ps.length <= 9223372036854775807) :
 aS pg Qv #[.agg #[.int .i64 log, sv]] w (fun r w' => r = .bool (Y4 log ps) /\ aW w w' eS) := by
 refine awT ?_
 unfold aBh QT R5
 obtain ⟨a, c, rfl, hc⟩ := hs.lenI
 refine nR fun w1 o1 x1 s1 => ?_
 have hs0 := hs.ext x1 (bY _)
 have c0 := o1.cell (off := 0)
 have c1 := o1.cell (off := 1)
 simp only [Value.cells, aLq, aLr] at c0 c1
 have no : ¬ (5 <= log /\ log <= 15 /\ 1 <= ps.length /\ ps.length <= 256 /\ ps.getLast? ≠ some 0) -> Y4 log ps = false := fun h => by
  unfold Y4 aA2; rw [decide_eq_false h] <;> rfl
 by_cases h1 : log < 5
 .have d1 : decide (log < 5) = true := by simpa using h1
  simp (disch := omega) only [aD, bB, aA, aN, aLt, bO, c0, aH, aR, d1, iT, bF, if_true, aG, cV]
  exact ⟨by rw [no (by omega)], x1⟩
 have d1 : decide (log < 5) = false := by simpa using h1
 by_cases h2 : 15 < log
 .have d2 : decide (15 < log) = true := by simpa using h2
  simp (disch := omega) only [aD, bB, aA, aN, aLt, bO, c0, aH, aR, d1, cW, bF, aLu, if_false, bL, cX, d2, iT, if_true, aG, cV]
  exact ⟨by rw [no (by omega)], x1⟩
 have d2 : decide (15 < log) = false := by simpa using h2
 by_cases h3 : ps.length < 1
 .have d3 : ((ps.length : Int) == 0) = true := by rw [beq_iff_eq]; omega
  simp (disch := omega) only [aD, bB, aA, aN, aLt, bO, c0, aH, aR, d1, cW, bF, aLu, if_false, bL, cX, d2, dS, c1, gC, dV, d3, iT, if_true, aG, cV]
  exact ⟨by rw [no (by omega)], x1⟩
 have d3 : ((ps.length : Int) == 0) = false := by rw [beq_eq_false_iff_ne]; omega
 by_cases h4 : 256 < ps.length
 .have d4 : decide ((256 : Int) < (ps.length : Int)) = true := by simp; omega
  simp (disch := omega) only [aD, bB, aA, aN, aLt, bO, c0, aH, aR, d1, cW, bF, aLu, if_false, bL, cX, d2, dS, c1, gC, dV, d3, d4, iT, if_true, aG, cV]
  exact ⟨by rw [no (by omega)], x1⟩
 have d4 : decide ((256 : Int) < (ps.length : Int)) = false := by simp; omega
 obtain ⟨b, off, c', e, hc', hcell⟩ := hs0.openI (by omega)
 cases e
 have e1 : ((ps.length : Int) - 1) = ((ps.length - 1 : Nat) : Int) := by omega
 have g1 := hcell (ps.length - 1) (by omega)
 by_cases h5 : ps[ps.length - 1]'(by omega) = 0
 .have d5 : (ps[ps.length - 1]'(by omega) == 0) = true := by simpa using h5
  simp (disch := omega) only [aD, bB, aA, aN, aLt, bO, c0, aH, aR, d1, cW, bF, aLu, if_false, bL, cX, d2, dS, c1, gC, dV, d3, d4, fF, e1, aQ, hZ, aLs, g1, d5, aG]
  exact ⟨by rw [no (fun h => h.2.2.2.2 ((TM (by omega)).2 h5))], x1⟩
 have d5 : (ps[ps.length - 1]'(by omega) == 0) = false := by simpa using h5
 obtain ⟨l, rfl⟩ : ∃ l : Nat, log = l := ⟨log.toNat, by omega⟩
 have hyes : Y4 (l : Int) ps = fits (2 ^ l) ps := by
  unfold Y4 aA2
  rw [decide_eq_true ⟨by omega, by omega, by omega, by omega, fun h => h5 ((TM (by omega)).1 h)⟩, aLs] <;> rfl
 simp (disch := omega) only [aD, bB, aA, aN, aLt, bO, c0, aH, aR, d1, cW, bF, aLu, if_false, bL, cX, d2, dS, c1, gC, dV, d3, d4, fF, e1, aQ, hZ, aLs, g1, d5, aE]
 unfold Q6 R4 Si Sg Rl
 have hp15 := aDI (log := l) (by omega)
 refine cR.rule (fun m t w' => ∃ (i : Nat), m = ps.length - i /\ t = (.int .i64 (F0 (ps.take i)), .int .i64 i) /\ i <= ps.length /\ 0 <= F0 (ps.take i) /\ F0 (ps.take i) <= 32768 * i /\ (∀ p ∈ ps.take i, -1 <= p) /\ aW w w' eS /\ aW w1 w' eS) ps.length
  ⟨0, rfl, by simp [F0], by omega, by simp [F0], by simp [F0], by simp, x1, aW.refl _ _⟩ ?_
 rintro m t w2 ⟨i, rfl, rfl, hi, hs0', hs1, hlo, x2, x12⟩
 have o2 := o1.ext x12 (fun h => h)
 have c0 := o2.cell (off := 0)
 have c1 := o2.cell (off := 1)
 simp only [Value.cells, aLq, aLr] at c0 c1
 by_cases hlt : i < ps.length
 .have d6 : decide ((i : Int) < (ps.length : Int)) = true := by simp; omega
  obtain ⟨b', off', c', e, _, hcell2⟩ := (hs.ext x2 (bY _)).openI (by omega)
  cases e
  have g2 := hcell2 i hlt
  have bad : ¬ (-1 <= ps[i] /\ ps[i] <= 32768) -> Y4 (l : Int) ps = false := fun h => by
   rw [hyes, <- Bool.not_eq_true, agK]
   rintro ⟨k1, k2⟩
   have := aFE k1 (aMf hlt)
   have := k1 _ (aMf hlt)
   unfold iU at *
   split at * <;> omega
  by_cases h6 : ps[i] < -1
  .have d7 : decide (ps[i] < -1) = true := by simpa using h6
   unfold zN Cb GQ GN Mk Fj
   simp (disch := omega) only [aD, aN, aLt, aA, dS, c1, aH, gC, aR, d6, hZ, aLs, bO, g2, d7, iT, bF, if_true, aG, cV]
   exact ⟨by rw [bad (by omega)], x2⟩
  have d7 : decide (ps[i] < -1) = false := by simpa using h6
  by_cases h7 : 32768 < ps[i]
  .have d8 : decide (32768 < ps[i]) = true := by simpa using h7
   unfold zN Cb GQ GN Mk Fj
   simp (disch := omega) only [aD, aN, aLt, aA, dS, c1, aH, gC, aR, d6, hZ, aLs, bO, g2, d7, cW, bF, aLu, if_false, bL, cX, d8, aG]
   exact ⟨by rw [bad (by omega)], x2⟩
  have d8 : decide (32768 < ps[i]) = false := by simpa using h7
  have hts := aHF hlt
  have hlow : ∀ p ∈ ps.take (i + 1), -1 <= p := fun p hp => by
   rw [aMq, aLA hlt] at hp
   rcases aMb.1 hp with hp | hp
   .exact hlo p hp
   .simp at hp; omega
  unfold zN Cb GQ GN Mk Fj
  by_cases h8 : ps[i] < 0
  .have d9 : decide (ps[i] < 0) = true := by simpa using h8
   have e : iU ps[i] = 1 := by unfold iU; rw [if_pos h8]
   simp (disch := omega) only [aD, aN, aLt, EU, bJ, aQ, EO, aA, dS, c1, aH, gC, aR, d6, hZ, aLs, bO, g2, d7, d9, aG, cW, bF, aLu, if_false, bL, cX, d8, aE]
   exact ⟨ps.length - (i + 1), by omega, i + 1, rfl, by rw [hts, e] <;> rfl, by omega, by omega, by omega, hlow, x2, x12⟩
  .have d9 : decide (ps[i] < 0) = false := by simpa using h8
   have e : iU ps[i] = ps[i] := by unfold iU; rw [if_neg h8]
   simp (disch := omega) only [aD, aN, aLt, EU, bJ, aQ, EO, aA, dS, c1, aH, gC, aR, d6, hZ, aLs, bO, g2, d7, d9, aE, cW, bF, aLu, if_false, bL, cX, d8, aG]
   exact ⟨ps.length - (i + 1), by omega, i + 1, rfl, by rw [hts, e] <;> rfl, by omega, by omega, by omega, hlow, x2, x12⟩
 .have d6 : decide ((i : Int) < (ps.length : Int)) = false := by simp; omega
  unfold zN Cb ML
  simp (disch := omega) only [aD, aN, aLt, bB, aA, bO, dS, c1, aH, gC, aR, d6, c0, aE]
  refine (IG l (by omega) _).mono ?_
  rintro r w3 ⟨rfl, rfl⟩
  rw [aL0 (by omega)] at hlo ⊢
  simp (disch := omega) only [dV, aA]
  refine ⟨?_, x2⟩
  rw [hyes]
  congr 1
  rw [Bool.eq_iff_iff, agK, beq_iff_eq]
  exact ⟨fun h => ⟨hlo, h⟩, fun h => h.2⟩
def aGD (log : Int) (ps : List Int) (most : Int) : Int := if Y4 log ps = false then 1 else if most < log then 12 else 0
theorem aIB {log most : Int} {sv : aNY} {ps : List Int} {w : aNX} (hs : Sl w sv (ps.map (Value.int .i64))) (hl : ps.length <= 9223372036854775807) :
 aS pg Fk #[.agg #[.int .i64 log, sv], .int .i64 most] w (fun r w' => r = .int .i64 (aGD log ps most) /\ aW w w' eS) := by
 refine ahX ?_
 unfold amK Ls
 refine nR fun w1 o1 x1 s1 => ?_
 have hs := hs.ext x1 (bY _)
 rw [show aL 100 = aL 100 from rfl]
 have l1 := rJ o1 (off := 0) (by simp [Value.cells])
 simp only [Value.cells, aLy, aLx, aLB] at l1
 simp (disch := omega) only [aD, l1, bV, aA, bO]
 refine (aKE hs hl).mono ?_
 rintro r w2 ⟨rfl, x2⟩
 have o2 := o1.ext x2 (fun h => h)
 have c0 := o2.cell (off := 0)
 simp only [Value.cells, aLq] at c0
 unfold aGD
 cases hm : Y4 log ps with
 | false =>
   simp (disch := omega) only [pL, aLX, if_true, true_and, aA, aG]
   exact x1.seq x2
 | true =>
   by_cases h : most < log
   .have d : decide (most < log) = true := by simpa using h
    simp (disch := omega) only [pL, aLL, aA, c0, aH, cX, d, aG, aE]
    exact ⟨by simp [h], x1.seq x2⟩
   .have d : decide (most < log) = false := by simpa using h
    simp (disch := omega) only [pL, aLL, aA, c0, aH, cX, d, aE]
    exact ⟨by simp [h], x1.seq x2⟩
theorem aDT {log most : Int} {sv : aNY} {ps : List Int} {w : aNX} (hs : Sl w sv (ps.map (Value.int .i64))) (hl : ps.length <= 9223372036854775807) :
 aS pg Je #[.agg #[.int .i64 log, sv], .int .i64 most] w (fun r w' => r = .int .i64 (aGD log ps most) /\ aW w w' eS) := by
 refine apV ?_
 unfold arY Pr
 refine nR fun w1 o1 x1 s1 => ?_
 have hs := hs.ext x1 (bY _)
 have l1 := qA o1 (off := 0) (by simp [Value.cells])
 simp only [Value.cells, aLy, aLx, aLB] at l1
 simp (disch := omega) only [aD, l1, bB, aA, bO]
 refine (aHn hs hl).mono ?_
 rintro r w2 ⟨rfl, x2⟩
 have o2 := o1.ext x2 (fun h => h)
 have c0 := o2.cell (off := 0)
 simp only [Value.cells, aLq] at c0
 unfold aGD
 cases hm : Y4 log ps with
 | false =>
   simp (disch := omega) only [pL, aLX, if_true, true_and, aA, aG]
   exact x1.seq x2
 | true =>
   by_cases h : most < log
   .have d : decide (most < log) = true := by simpa using h
    simp (disch := omega) only [pL, aLL, aA, c0, aH, cX, d, aG, aE]
    exact ⟨by simp [h], x1.seq x2⟩
   .have d : decide (most < log) = false := by simpa using h
    simp (disch := omega) only [pL, aLL, aA, c0, aH, cX, d, aE]
    exact ⟨by simp [h], x1.seq x2⟩
theorem aJK {x : Nat} (hx : x < 256) (w : aNX) : aS pg B9 #[.int .u8 x] w (fun r w' => r = .int .i64 (bl x : Nat) /\ w' = w) := by
 refine YS ?_
 have hg := aCK x hx
 have hs := XX
 have hb : bl x <= 8 := xA (n := 8) (by omega)
 unfold Wq Gy
 change aD pg (CN 9 (.string aCE) _) w _
 simp (disch := omega) only [aD, iS, aLs, hg, aA, dT, aQ, and_true]
def Bwd (w : aNX) (lo hi : Nat) (l : List UInt8) (left : Int) : Prop := ∃ v, eM w hi [v, .int .i64 left] /\ Bs w v l /\ AtI v lo hi
theorem Bwd.ext {w w' : aNX} {lo hi : Nat} {left : Int} {l : List UInt8} {M : Nat -> Prop} (h : Bwd w lo hi l left) (hx : aW w w' M) (hM : ∀ b, lo <= b -> b <= hi -> ¬ M b) (hlh : lo <= hi) : Bwd w' lo hi l left := by
 obtain ⟨v, h1, h2, h3⟩ := h
 exact ⟨v, h1.ext hx (hM _ hlh (aLF _)), h2.ext hx (h3 M fun b hb hh => hM b hb (by omega)), h3⟩
theorem UU {v : aNY} {l : List UInt8} {w : aNX} (h : Bs w v l) (he : Yt l = none) (hl : l.length <= 1000000) :
 aS pg sN #[v] w (fun r w' => r = .tuple #[.pointer none, .int .i64 11] /\ w' = w) := by
 refine Hl ?_
 unfold IB xM
 rcases aMO l.length with h0 | h0
 .obtain ⟨a, n, c, rfl, hn, hc, hh⟩ := h
  rw [aLD, h0] at hn
  subst hn
  have d1 : (((0 : Nat) : Int) == 0) = true := rfl
  simp (disch := omega) only [aD, aP, true_and, jH, Result.ok.injEq, Next.value.injEq, and_true, aA, fF, aQ, oS, dV, d1, iT, bF, if_true, aG, cV]
 .obtain ⟨b, off, c, rfl, hc, hcell⟩ := O9 h h0
  rw [MP h0] at he
  have g := hcell (l.length - 1) (by omega)
  generalize (l[l.length - 1]'(by omega)) = x at *
  have hx0 : x.toNat = 0 := by
   rcases aMO x.toNat with h | h
   .exact h
   .rw [if_neg (by omega)] at he; cases he
  rw [hx0] at g
  have d1 : ((l.length : Int) == 0) = false := by simp; intro h; subst h; simp at h0
  have e1 : (l.length : Int) - 1 = ((l.length - 1 : Nat) : Int) := by omega
  have d2 : (((0 : Nat) : Int) == 0) = true := rfl
  simp (disch := omega) only [aD, aP, true_and, jH, Result.ok.injEq, Next.value.injEq, and_true, aA, fF, e1, aQ, dO, aLs, iJ, oS, dV, d1, cW, bF, aLu, if_false, bL, g, aH, d2, aG]
theorem Wf {v : aNY} {l : List UInt8} {k : Nat} {w : aNX} (h : Bs w v l) (he : Yt l = some k) (hl : l.length <= 1000000) :
 aS pg sN #[v] w (fun r w' => ∃ hi, r = .tuple #[.pointer (some ⟨hi, 0, none⟩), .int .i64 0] /\ w.heap.size <= hi /\ hi < w'.heap.size /\ Bwd w' w.heap.size hi l k /\ aW w w' eS) := by
 refine Hl ?_
 unfold IB xM
 have h0 := (H9 he).1
 obtain ⟨b, off, c, rfl, hc, hcell⟩ := O9 h h0
 rw [MP h0] at he
 have g := hcell (l.length - 1) (by omega)
 generalize (l[l.length - 1]'(by omega)) = x at *
 have hx : x.toNat < 256 := aL9 x
 have hx0 : x.toNat ≠ 0 := by
  intro h; rw [if_pos h] at he; cases he
 rw [if_neg hx0] at he
 have he := aLT he
 have hb1 := Ni hx0
 have hb2 : bl x.toNat <= 8 := xA (n := 8) (by omega)
 have d1 : ((l.length : Int) == 0) = false := by simp; intro h; subst h; simp at h0
 have e1 : (l.length : Int) - 1 = ((l.length - 1 : Nat) : Int) := by omega
 have d2 : ((x.toNat : Int) == 0) = false := by simpa using hx0
 simp (disch := omega) only [aD, aP, jH, Result.ok.injEq, Next.value.injEq, and_true, true_and, aA, fF, e1, aQ, dO, aLs, iJ, oS, dV, d1, cW, bF, aLu, if_false, bL, g, aH, d2, aE]
 refine (I3 (h.ext (aW.dr _ eS) (bY _)) (by omega)).mono ?_
 rintro r w1 ⟨o1, x1⟩
 have x01 : aW w w1 eS := (aW.dr w eS).seq x1
 have g1 := akL g x01 (fun h => h)
 have hat := tE.atI o1
 have hs := o1.sl
 obtain ⟨a, c', rfl⟩ := o1.len
 have gd : (dr w).cell? ⟨b, off + (l.length - 1), none⟩ = some (.int .u8 (x.toNat : Nat)) := g
 simp (disch := omega) only [g1, aH, gd, Result.ok.injEq, Next.value.injEq, and_true, aA, true_and]
 refine (aJK hx _).mono ?_
 rintro r w2 ⟨rfl, rfl⟩
 have e2 : 8 * ((l.length - 1 : Nat) : Int) + (bl x.toNat : Nat) - 1 = (k : Int) := by omega
 simp (disch := omega) only [bJ, aQ, aA, fF, e2, gF, true_and]
 refine nR fun w3 o3 x3 s3 => ?_
 simp only [Value.cells] at o3
 exact ⟨_, rfl, x01.size, by omega, ⟨_, o3, hs.ext x3 (bY _), hat⟩, x01.seq x3⟩
theorem anI {l : List UInt8} {lo hi : Nat} {left : Int} {w : aNX} (h : Bwd w lo hi l left) :
 aS pg qQ #[.pointer (some ⟨hi, 0, none⟩)] w (fun r w' => r = .int .i64 left /\ w' = w) := by
 refine Tn ?_
 obtain ⟨v, o, hs, hat⟩ := h
 have c1 := o.cell (off := 1)
 simp only [aLq, aLr] at c1
 unfold OW AF
 simp (disch := omega) only [aD, eY, aLN, qW, aA, dZ, aLt, bO, and_true, c1, aH, aE]
theorem aqC {l : List UInt8} {lo hi n : Nat} {left : Int} {w : aNX} (h : Bwd w lo hi l left) (hlh : lo <= hi) (hn : n <= 56) (h1 : left <= 8 * l.length) (h2 : -1000000000 <= left) (hl : l.length <= 1000000) :
 aS pg qV #[.pointer (some ⟨hi, 0, none⟩), .int .i64 n] w (fun r w' =>
  r = .int .u64 (qL ((aZ l).take left.toNat) n) /\ Bwd w' lo hi l (left - n) /\ aW w w' (fun y => y = hi)) := by
 refine Tr ?_
 unfold Pd AM
 by_cases hn0 : n = 0
 .subst hn0
  have d1 : decide (((0 : Nat) : Int) < 1) = true := rfl
  simp (disch := omega) only [aD, eY, aLN, qW, jH, and_true, aA, dZ, aLt, bO, true_and, gS, eP, cW, bF, aLu, if_false, bL, aR, d1, iT, if_true, aG, cV]
  have h0 : qL ((aZ l).take left.toNat) 0 = 0 := by
   have := sX ((aZ l).take left.toNat) 0
   rw [Nat.pow_zero] at this; omega
  exact ⟨by rw [h0] <;> rfl, by simpa using h, aW.refl _ _⟩
 obtain ⟨v, o, hs, hat⟩ := h
 have c0 := o.cell (off := 0)
 have c1 := o.cell (off := 1)
 have od := kB o
 have c0d := od.cell (off := 0)
 have c1d := od.cell (off := 1)
 simp only [aLq, aLr] at c0 c1 c0d c1d
 have d1 : decide ((n : Int) < 1) = false := by simp; omega
 have d2 : decide ((56 : Int) < (n : Int)) = false := by simp; omega
 obtain ⟨k0, hk0⟩ : ∃ k0, k0 = left.toNat := ⟨_, rfl⟩
 obtain ⟨th, hth⟩ : ∃ th, th = min n k0 := ⟨_, rfl⟩
 have e1 : (if (0 : Int) > left then 0 else left) = (k0 : Int) := by split <;> omega
 have e2 : (if (n : Int) < (k0 : Int) then (n : Int) else (k0 : Int)) = (th : Int) := by split <;> omega
 have e3 : (k0 : Int) - (th : Int) = ((k0 - th : Nat) : Int) := by omega
 have e4 : (n : Int) - (th : Int) = ((n - th : Nat) : Int) := by omega
 rw [<- hk0]
 have hlen : ((aZ l).take k0).length = k0 := by rw [aLG, lZ]; omega
 have hlast : qL ((aZ l).take k0) n = wN (((aZ l).drop (k0 - th)).take th) * 2 ^ (n - th) := by
  unfold qL
  rw [hlen, <- hth, List.drop_take, show k0 - (k0 - th) = th from by omega]
 have hlt := sX ((aZ l).take k0) n
 have hp : 2 ^ n <= 2 ^ 56 := aLC (by omega) hn
 have e5 : IntKind.u64.wrap (((wN (((aZ l).drop (k0 - th)).take th) : Nat) : Int) * 2 ^ (min (n - th) IntKind.u64.bits)) = ((qL ((aZ l).take k0) n : Nat) : Int) := by
  rw [show min (n - th) IntKind.u64.bits = n - th from aMm (by have h64 : IntKind.u64.bits = 64 := rfl; omega), hlast]
  have e : ((wN (((aZ l).drop (k0 - th)).take th) : Nat) : Int) * 2 ^ (n - th) = ((wN (((aZ l).drop (k0 - th)).take th) * 2 ^ (n - th) : Nat) : Int) := by simp
  rw [e]
  rw [hlast] at hlt
  exact kV (by omega) (by omega)
 simp (disch := omega) only [aD, eY, aLN, qW, jH, and_true, aA, dZ, aLt, bO, true_and, gS, eP, cW, bF, aLu, if_false, bL, aR, d1, cX, d2, c1, aH, A2, e1, LX, e2, c0d, c1d, fF, e4, aQ, Result.ok.injEq, Next.value.injEq, fY, kV, e3, aE]
 refine (aH1 (l := l) (st := k0 - th) (n := th) (hs.ext (aW.dr _ eS) (bY _)) (by omega) (by omega) (by omega)).mono ?_
 rintro r w1 ⟨rfl, rfl⟩
 simp (disch := omega) only [pG, aLs, e5, c1d, aH, aA, fF, aQ, true_and]
 refine pH od rfl (by simp) fun w2 o2 x2 s2 => ?_
 simp only [aLw, aLv] at o2
 have x02 : aW w w2 (fun y => y = hi) := (aW.dr _ _).seq x2
 exact ⟨⟨_, o2, hs.ext x02 (hat _ fun b hb hh => by omega), hat⟩, x02⟩
end Go.Proofs.YtgpimhlgaokobaaGreat
namespace Go.En
open Go Go.RowKit
section
variable {P : Program} {w : aNX} {t e : TypeId} {k : IntKind}
theorem aGj {i : TypeInfo} {z : aNY} (hu : P.underlying t = some (.slice e)) (hi : P.info? e = some i) (h1 : i.size = 1) (hz : i.zero = some z) (hz1 : one z = true) {m n : Int} (h0 : 0 <= m) (hmn : m <= n) (hn : i.bytes * n <= 2 ^ 48) (hn2 : n <= 9223372036854775807)
 {K : aNY -> aNX -> Prop}
 (hk : ∀ w', eM w' w.heap.size (List.replicate n.toNat z) -> aW w w' eS -> w'.heap.size = w.heap.size + 1 -> K (.slice (some ⟨w.heap.size, 0, none⟩) m.toNat n.toNat) w') :
 aD P (qG t (.int k m) (.int k n)) w K := by
 have hw : IntKind.i64.wrap n = n := aQ (by omega) hn2
 have hwm : IntKind.i64.wrap m = m := aQ (by omega) (by omega)
 have hcells : z.cells = #[z] := anQ hz1
 have harr : (Array.range n.toNat).map (fun j => (#[z] : Array aNY)[j % (#[z] : Array aNY).size]!) = (List.replicate n.toNat z).toArray := by
  apply Array.ext
  .simp
  .intro j h1 h2; simp [Nat.mod_one]
 have hz' : (zeroValue e).run P w = .ok z w := by simp [zeroValue, typeInfo, hi, hz]
 have : (qG t (.int k m) (.int k n)).run P w = .ok (.value (.slice (some ⟨w.heap.size, 0, none⟩) m.toNat n.toNat)) (w.alloc (.cells (List.replicate n.toNat z).toArray e)) := by
  unfold qG
  rw [uS]
  have t1 : (decide (n < 0) || decide ((i.bytes : Int) * n > 2 ^ 48) || decide (m < 0) || decide (m > n)) = false := by
   simp only [aNk, decide_eq_false_iff_not]; omega
  by_cases hn0 : n.toNat = 0
  .simp only [Instr.makeSlice, underlying, typeInfo, asInt, asIntOf, pure_bind, Sem.run_bind, run_program, Result.andThen_ok, hu, hi, Sem.run_pure, hw, hwm, t1, aLu, if_false, run_askRoom, lC hi, h1, aMR, hn0, if_true, newRow, run_newObj]
   have : (Array.range 0).map (fun x => (#[] : Array aNY)[x % (#[] : Array aNY).size]!) = (List.replicate 0 z).toArray := by simp
   rw [this]
   rfl
  .simp only [Instr.makeSlice, underlying, typeInfo, asInt, asIntOf, pure_bind, Sem.run_bind, run_program, Result.andThen_ok, hu, hi, Sem.run_pure, hw, hwm, t1, aLu, if_false, run_askRoom, lC hi, h1, aMR, hn0, hz', hcells, newRow, run_newObj, harr]
   rfl
 unfold aD
 rw [this]
 exact hk _ (eM.alloc _ _ _) (aW.alloc _ _ _) (by simp)
end
end Go.En
namespace Go.En
open Go
theorem OSS.ext {w w' : aNX} {S M : Nat -> Prop} {sz n : Nat} {v : aNY} {l : List aNY} (h : OSS w S sz v n l) (hx : aW w w' M) (hM : ∀ b, S b -> ¬ M b) : OSS w' S sz v n l := by
 refine ⟨h.1, ?_⟩
 rcases h.2 with h2 | ⟨b, c, rest, h1, h2, h3, h4, h5⟩
 .exact .inl h2
 .exact .inr ⟨b, c, rest, h1, h2, h3.ext hx (hM b h2), h4, h5⟩
theorem tE.ne {w : aNX} {base p sz n : Nat} {v : aNY} {l : List aNY} (h : tE w base sz v n l) (hp : w.heap.size <= p) : OSS w (fun b => base <= b /\ b ≠ p) sz v n l := by
 refine ⟨h.1, ?_⟩
 rcases h.2 with h2 | ⟨b, c, rest, h1, h2, h3, h4, h5⟩
 .exact .inl h2
 .have := h3.lt
  exact .inr ⟨b, c, rest, h1, ⟨h2, by omega⟩, h3, h4, h5⟩
theorem OSS.osl {w : aNX} {base p sz n : Nat} {v : aNY} {l : List aNY} (h : OSS w (fun b => base <= b /\ b ≠ p) sz v n l) : tE w base sz v n l := by
 refine ⟨h.1, ?_⟩
 rcases h.2 with h2 | ⟨b, c, rest, h1, h2, h3, h4, h5⟩
 .exact .inl h2
 .exact .inr ⟨b, c, rest, h1, h2.1, h3, h4, h5⟩
theorem OSS.len {w : aNX} {S : Nat -> Prop} {sz n : Nat} {v : aNY} {l : List aNY} (h : OSS w S sz v n l) : ∃ a c, v = .slice a n c := by
 rcases h.2 with ⟨h1, rfl⟩ | ⟨b, c, rest, h1, _⟩
 .exact ⟨_, _, h1⟩
 .exact ⟨_, _, h1⟩
end Go.En
namespace Go.Proofs.YtgpimhlgaokobaaGreat
open Go Go.En Go.Pu
set_option maxRecDepth 4000
theorem HtV.ext {w w' : aNX} {base : Nat} {C : List (Nat × Nat)} {v : aNY} {M : Nat -> Prop} (h : HtV w base C v) (x : aW w w' M) (hM : ∀ b, base <= b -> ¬ M b) : HtV w' base C v := by
 obtain ⟨b, h1, h2, h3⟩ := h
 exact ⟨b, h1, h2, h3.ext x (hM b h2)⟩
def rU (C : List (Nat × Nat)) (l : List UInt8) (n : Nat) : Except Int (List Nat) := match Yt l with
 | none => .error 11
 | some k =>
   if (B8 C (pM C) (aZ l) n (k : Int)).2 < 0 then .error 11
   else if 0 < (B8 C (pM C) (aZ l) n (k : Int)).2 then .error 15
   else .ok (B8 C (pM C) (aZ l) n (k : Int)).1
theorem ayY {C : List (Nat × Nat)} {m : Nat} {B : List Bool} (hF : Yv C m) : ∀ {n : Nat} {left : Int}, ∀ s ∈ (B8 C m B n left).1, s < C.length
 | 0, _, s, hs => by cases hs
 | n + 1, left, s, hs => by
   rw [B8] at hs
   rcases aMl.1 hs with rfl | hs
   .exact avY (anV hF (KB _ _ _))
   .exact ayY hF s hs
theorem aqE {C : List (Nat × Nat)} {m : Nat} {B : List Bool} : ∀ (n : Nat) (left : Int), B8 C m B (n + 1) left =
 ((B8 C m B n left).1 ++ [Ez C m (LZ B (B8 C m B n left).2 m)], (B8 C m B n left).2 - bitsOf C (Ez C m (LZ B (B8 C m B n left).2 m)))
 | 0, left => rfl
 | n + 1, left => by
   rw [B8, aqE n]
   rw [B8]
   simp
theorem aBV {C : List (Nat × Nat)} {m : Nat} {B : List Bool} (h : ∀ s, bitsOf C s <= 11) : ∀ (n : Nat) (left : Int), (B8 C m B n left).2 <= left /\ left - 11 * n <= (B8 C m B n left).2
 | 0, left => ⟨Int.le_refl _, by simp [B8]⟩
 | n + 1, left => by
   have := aBV (m := m) (B := B) h n (left - bitsOf C (Ez C m (LZ B left m)))
   have := h (Ez C m (LZ B left m))
   rw [B8]
   simp only
   omega
theorem asV {a b : Nat} (ha : a < 2 ^ 62) (hb : b < 2 ^ 62) : orI .i64 (a : Int) (b : Int) = ((a ||| b : Nat) : Int) := by
 have h := Nat.or_lt_two_pow ha hb
 unfold orI
 have e : IntKind.i64.bits = 64 := rfl
 rw [e, BitVec.ofInt_natCast, BitVec.ofInt_natCast, BitVec.toNat_or, BitVec.toNat_ofNat, BitVec.toNat_ofNat, aL5 (by omega), aL5 (by omega)]
 exact aQ (by omega) (by omega)
abbrev u8n (m : List Nat) : List aNY := m.map fun (x : Nat) => Value.int .u8 x
def TT (w : aNX) (base : Nat) (o : Except Int (List Nat)) (r : aNY) : Prop := match o with
 | .error e => r = .tuple #[.slice none 0 0, .int .i64 e]
 | .ok m => ∃ v, r = .tuple #[v, .int .i64 0] /\ tE w base 1 v m.length (u8n m)
theorem aDh {t v : aNY} {C : List (Nat × Nat)} {l : List UInt8} {n base : Nat} {w : aNX} (hF : Yv C (pM C)) (hm : pM C <= 11) (hCl : C.length <= 256) (ht : HtV w base C t) (h : Bs w v l) (hl : l.length <= 1000000) (hn : n <= 131072) :
 aS pg tZ #[t, v, .int .i64 n] w (fun r w' => TT w' w.heap.size (rU C l n) r /\ aW w w' eS) := by
 refine TG ?_
 obtain ⟨RR, hRR⟩ : ∃ RR : aNY -> aNX -> Prop, RR = fun r w' => TT w' w.heap.size (rU C l n) r /\ aW w w' eS := ⟨_, rfl⟩
 rw [<- hRR]
 obtain ⟨pt, rfl, hpt, oT⟩ := ht
 unfold Qh BB Bp
 refine nR fun w1 o1 x1 s1 => ?_
 simp only [Value.cells] at o1
 have z1 := x1.size
 have lt1 := oT.lt
 cases he : Yt l with
 | none =>
   have hR : rU C l n = .error 11 := by unfold rU; rw [he]
   refine (UU (h.ext x1 (bY _)) he hl).mono ?_
   rintro r w2 ⟨rfl, rfl⟩
   have n1 : ((11 : Int) != 0) = true := rfl
   simp (disch := omega) only [aD, pT, pS, aA, cY, n1, aG]
   rw [hRR, hR]
   exact ⟨rfl, x1⟩
 | some k =>
   have hk := H9 he
   refine (Wf (h.ext x1 (bY _)) he hl).mono ?_
   rintro r w2 ⟨hi, rfl, hhi, hhi2, hB, x2⟩
   have n1 : ((0 : Int) != 0) = false := rfl
   simp (disch := omega) only [aD, pT, pS, aA, cY, n1, aE]
   refine aGj Tryz.underlying22 S0 rfl rfl rfl (m := 0) (n := (n : Int)) (by omega) (by omega) (by rw [show Tryz.t5.bytes = 1 from rfl]; omega) (by omega) fun w3 o3 x3 s3 => ?_
   rw [aLs] at o3 ⊢
   have t0 : (0 : Int).toNat = 0 := rfl
   rw [t0]
   have z2 := x2.size
   have z3 := x3.size
   have x03 := (x1.seq x2).seq x3
   have hbit : ∀ s, bitsOf C s <= 11 := fun s => by
    unfold bitsOf
    rw [aLE]
    cases hq : C[s]? with
    | none => simp
    | some e => have := apM (aMz hq); simp; omega
   unfold Bo BF By Bw BW
   have hBl : ((aZ l).length : Int) = 8 * l.length := by rw [lZ]; omega
   refine cR.rule (fun q (t : aNY × aNY × aNY × aNY) w' => ∃ (i th : Nat) (ov : aNY), q = n - i /\ t = (ov, .int .i64 (LZ (aZ l) (B8 C (pM C) (aZ l) i (k : Int)).2 th : Nat), .int .i64 th, .int .i64 i) /\ i <= n /\ th <= pM C /\ tE w' (hi + 1) 1 ov i (u8n (B8 C (pM C) (aZ l) i (k : Int)).1) /\
    Bwd w' w1.heap.size hi l ((B8 C (pM C) (aZ l) i (k : Int)).2 - th) /\ aW w3 w' (fun y => hi <= y)) n
    ⟨0, 0, _, rfl, ?_, by omega, by omega, ⟨rfl, .inr ⟨_, n, _, rfl, by omega, o3, by simp [B8], by omega⟩⟩, ?_, aW.refl _ _⟩ ?_
   .have : LZ (aZ l) (B8 C (pM C) (aZ l) 0 (k : Int)).2 0 = 0 := by have := KB (aZ l) (B8 C (pM C) (aZ l) 0 (k : Int)).2 0; omega
    rw [this] <;> rfl
   .show Bwd w3 w1.heap.size hi l ((k : Int) - (0 : Nat))
    rw [Int.natCast_zero, Int.sub_zero]
    exact hB.ext x3 (fun _ _ _ h => h) (by omega)
   rintro q t w4 ⟨i, th, ov, rfl, rfl, hi', hth, os, hB4, x4⟩
   have z4 := x4.size
   have bd := aBV (C := C) (m := pM C) (B := aZ l) hbit i (k : Int)
   have hBs := aqE (C := C) (m := pM C) (B := aZ l) i (k : Int)
   generalize hg : B8 C (pM C) (aZ l) i (k : Int) = g at *
   obtain ⟨gs, gl⟩ := g
   simp only at *
   unfold wX
   by_cases hlt : i < n
   .have d1 : decide ((i : Int) < (n : Int)) = true := by simp; omega
    have o14 := (o1.ext (x2.seq x3) (fun h => h)).ext x4 (by omega)
    have k0 := o14.cell (off := 0)
    simp only [aLq, aLr] at k0
    have e1 : ((pM C : Nat) : Int) - (th : Int) = ((pM C - th : Nat) : Int) := by omega
    have r1 := KB (aZ l) gl th
    have hp1 : 2 ^ th <= 2 ^ 11 := aLC (by omega) (by omega)
    have hp2 : 2 ^ (pM C - th) <= 2 ^ 11 := aLC (by omega) (by omega)
    have hmul : LZ (aZ l) gl th * 2 ^ (pM C - th) <= 2 ^ 11 * 2 ^ 11 := Nat.mul_le_mul (by omega) hp2
    have e2 := afO (a := LZ (aZ l) gl th) (n := pM C - th) (by omega) (by omega)
    simp (disch := omega) only [aD, aR, d1, gA, jH, and_true, fI, aLt, bJ, aQ, aA, bO, hJ, true_and, k0, aH, fF, e1, pG, aLs, e2, Result.ok.injEq, Next.value.injEq, aG]
    have zd : (dr w4).heap.size = w4.heap.size := rfl
    refine (aqC (hB4.ext (aW.dr w4 eS) (fun _ _ _ h => h) (by omega)) (by omega) (by omega) (by omega) (by omega) hl).mono ?_
    rintro r w5 ⟨rfl, hB5, x5⟩
    have q1 : qL ((aZ l).take (gl - (th : Int)).toNat) (pM C - th) = LZ (aZ l) (gl - th) (pM C - th) := rfl
    rw [q1]
    have r2 := KB (aZ l) (gl - th) (pM C - th)
    have z5 := x5.size
    have x45 : aW w4 w5 (fun y => hi <= y) := (aW.dr w4 _).seq (x5.mono fun y _ hy => by omega)
    have hadd := aCc (B := aZ l) (left := gl) th (pM C - th) (by omega)
    rw [show th + (pM C - th) = pM C from by omega] at hadd
    have e3 : IntKind.i64.wrap ((LZ (aZ l) (gl - th) (pM C - th) : Nat) : Int) = ((LZ (aZ l) (gl - th) (pM C - th) : Nat) : Int) := aQ (by omega) (by omega)
    have e4 : orI .i64 ((LZ (aZ l) gl th * 2 ^ (pM C - th) : Nat) : Int) ((LZ (aZ l) (gl - th) (pM C - th) : Nat) : Int) = ((LZ (aZ l) gl (pM C) : Nat) : Int) := by
     rw [asV (by omega) (by omega), Nat.or_comm, azQ r2, hadd, aL1 (2 ^ (pM C - th)), Nat.add_comm]
    have hX := KB (aZ l) gl (pM C)
    have o15 := o14.ext x45 (by omega)
    have k1 := o15.cell (off := 1)
    simp only [aLq, aLr] at k1
    have hent := aIh hF hX
    obtain ⟨X, hXe⟩ : ∃ X, X = LZ (aZ l) gl (pM C) := ⟨_, rfl⟩
    rw [<- hXe] at e4 hX hent hBs
    obtain ⟨sy, hsy⟩ : ∃ sy, sy = Ez C (pM C) X := ⟨_, rfl⟩
    rw [<- hsy] at hent hBs
    have hsyl : sy < C.length := by rw [hsy]; exact avY (anV hF hX)
    have hbs := hbit sy
    obtain ⟨bs, hbse⟩ : ∃ bs, bs = bitsOf C sy := ⟨_, rfl⟩
    rw [<- hbse] at hent hBs hbs
    have hbm : bs <= pM C := by
     rw [hbse]
     unfold bitsOf
     rw [aLE, aLA hsyl]
     exact apM (aMf hsyl)
    have xT : aW w w5 (fun y => hi <= y) := ((x03.mono fun _ _ h => h.elim).seq x4).seq x45
    have q2 : (aL 173 (.pointer (some ⟨pt, X * 2, none⟩))).run pg w5 = .ok (.value (.agg #[.int .u8 (sy : Nat), .int .i64 (bs : Nat)])) w5 := by
     have := azS (off := X * 2) (oT.ext xT (by omega)) (by rw [apC, aDG]; omega)
     rw [aE0 hent] at this
     exact this
    have hX2 : (X : Int) < ((2 ^ pM C : Nat) : Int) := Int.ofNat_lt.2 hX
    have c5 : w5.cell? ⟨w.heap.size, 1, none⟩ = some (.slice (some ⟨pt, 0, none⟩) (2 ^ pM C) (2 ^ pM C)) := k1
    simp (disch := omega) only [bX, e3, k1, aH, aA, LC, e4, jC, aLs, aLt, q2, true_and]
    refine aAp fun w6 o6 x6 s6 => ?_
    refine Wa o6 rfl (by simp [one]) (by simp) fun w7 o7 x7 s7 => ?_
    simp only [bM, aLw, aLv] at o7
    have x57 : aW w5 w7 eS := x6.new x7 (aLF _)
    have z57 := x57.size
    have f0 := o7.cell (off := 0)
    simp only [aLq, aLr] at f0
    simp (disch := omega) only [gH, iE, aLt, aA, bO, iJ, f0, aH]
    refine pD (cells := #[.int .u8 (sy : Nat)]) (by decide) (by decide) (by kernel_rfl) fun w8 o8 x8 s8 => ?_
    have z8 := x8.size
    have x45h : aW w4 w5 (fun y => y = hi) := (aW.dr w4 _).seq x5
    have os5 := os.ext x45h (fun b hb hh => by omega)
    have os7 := ((os5.ne (aLF _)).ext x6 (fun b _ h => h)).ext x7 (fun b h1 h2 => h1.2 h2)
    refine yY (m := 1) (news := [.int .u8 (sy : Nat)]) (i := Tryz.t5) Tryz.underlying22 Tryz.underlying22 S0 rfl rfl rfl (os7.ext x8 (fun b _ h => h)) (o8.cl (off := 0) (l := [.int .u8 (sy : Nat)]) (n := 1) rfl (fun i hi => by rw [aLt])) (by simp [one]) (fun b hb => ⟨by omega, by omega⟩) (by omega) (by rw [show Tryz.t5.bytes = 1 from rfl]; omega) (by decide) fun v9 w9 o9 x9 => ?_
    have z9 := x9.size
    have x59 : aW w5 w9 (fun y => hi + 1 <= y) := ((x57.seq x8).mono fun _ _ h => h.elim).seq (x9.mono fun y _ h => h.1)
    have k3 := (o15.ext x59 (by omega)).cell (off := 0)
    have f1 := ((o7.ext x8 (fun h => h)).ext x9 (fun h => h.2 rfl)).cell (off := 1)
    simp only [aLq, aLr] at k3 f1
    have e5 : ((pM C : Nat) : Int) - (bs : Int) = ((pM C - bs : Nat) : Int) := by omega
    have hp3 : 2 ^ (pM C - bs) <= 2 ^ 11 := aLC (by omega) (by omega)
    have e6 := afO (a := 1) (n := pM C - bs) (by omega) (by omega)
    rw [aNF] at e6
    have one1 : ((1 : Nat) : Int) = 1 := rfl
    rw [one1] at e6
    have hp0 := aLW (pM C - bs)
    have e7 : ((2 ^ (pM C - bs) : Nat) : Int) - 1 = ((2 ^ (pM C - bs) - 1 : Nat) : Int) := by omega
    have hp4 : 2 ^ pM C <= 2 ^ 11 := aLC (by omega) (by omega)
    have e8 : VE .i64 (X : Int) ((2 ^ (pM C - bs) - 1 : Nat) : Int) = ((X % 2 ^ (pM C - bs) : Nat) : Int) := by
     rw [aDR (by omega) (by omega), Nat.and_two_pow_sub_one_eq_mod]
    have hmod := (aBq (B := aZ l) (left := gl) (a := bs) (m := pM C) (by omega) hbm).2
    rw [<- hXe] at hmod
    have e9 : (i : Int) + 1 = ((i + 1 : Nat) : Int) := by omega
    simp (disch := omega) only [k3, aH, e9, aA, f1, fF, e5, aQ, pG, aLs, e6, e7, xK, e8]
    refine ⟨n - (i + 1), by omega, i + 1, pM C - bs, v9, rfl, ?_, by omega, by omega, ?_, ?_, ?_⟩
    .rw [hBs, hmod]
    .rw [hBs]
     show tE w9 (hi + 1) 1 v9 (i + 1) (u8n (gs ++ [sy]))
     unfold u8n
     rw [aLS]
     exact ⟨o9.1, o9.2.imp id fun ⟨b, c, rest, q1, q2, q3⟩ => ⟨b, c, rest, q1, q2.1, q3⟩⟩
    .rw [hBs]
     have : gl - (bs : Int) - ((pM C - bs : Nat) : Int) = gl - (th : Int) - ((pM C - th : Nat) : Int) := by omega
     show Bwd w9 w1.heap.size hi l (gl - (bs : Int) - ((pM C - bs : Nat) : Int))
     rw [this]
     exact hB5.ext x59 (fun b _ hb h => by omega) (by omega)
    .exact (x4.seq x45).trans x59 fun y _ h => by omega
   .have d1 : decide ((i : Int) < (n : Int)) = false := by simp; omega
    have hin : i = n := by omega
    subst hin
    unfold wW
    simp (disch := omega) only [aD, aR, d1, gA, jH, and_true, fI, aLt, bJ, aQ, aA, bO, hJ, true_and, aE]
    refine (anI hB4).mono ?_
    rintro r w5 ⟨rfl, rfl⟩
    have e1 : gl - (th : Int) + (th : Int) = gl := by omega
    have xall : aW w w5 eS := x03.trans x4 fun y hy h => by omega
    have hR : rU C l i = if gl < 0 then .error 11 else if 0 < gl then .error 15 else .ok gs := by unfold rU; rw [he]; simp only [hg]
    rw [hRR, hR]
    by_cases g1 : gl < 0
    .have d2 : decide (gl < 0) = true := decide_eq_true g1
     rw [if_pos g1]
     simp (disch := omega) only [bJ, e1, aQ, aA, aR, d2, cX, aG]
     exact ⟨rfl, xall⟩
    .have d2 : decide (gl < 0) = false := decide_eq_false g1
     rw [if_neg g1]
     by_cases g2 : 0 < gl
     .have d3 : decide (0 < gl) = true := decide_eq_true g2
      rw [if_pos g2]
      simp (disch := omega) only [bJ, e1, aQ, aA, aR, d2, cX, d3, aG, aE]
      exact ⟨rfl, xall⟩
     .have d3 : decide (0 < gl) = false := decide_eq_false g2
      rw [if_neg g2]
      simp (disch := omega) only [bJ, e1, aQ, aA, aR, d2, cX, d3, aE]
      have hgl : gs.length = i := by have := V1 (C := C) (m := pM C) (B := aZ l) (n := i) (left := (k : Int)); rw [hg] at this; exact this
      refine ⟨⟨ov, rfl, ?_⟩, xall⟩
      rw [hgl]
      rcases os.2 with h0 | ⟨b, c, rest, h1, h2, h3⟩
      .exact ⟨os.1, .inl h0⟩
      .exact ⟨os.1, .inr ⟨b, c, rest, h1, by omega, h3⟩⟩
theorem AtI.sub {a : Option Addr} {n c m c' k sz lo hi : Nat} (h : AtI (.slice a n c) lo hi) (hm : m <= n) : AtI (.slice (mZ a c k sz) m c') lo hi := by
 intro M hM hin
 cases m with
 | zero => unfold inB at hin; split at hin <;> simp_all
 | succ m =>
   obtain ⟨n', rfl⟩ : ∃ n', n = n' + 1 := ⟨n - 1, by omega⟩
   have h1 := h M hM
   cases a with
   | none => unfold mZ at hin; split at hin <;> exact hin
   | some x =>
     unfold mZ at hin
     have h2 : M x.block := by
      split at hin
      .exact hin
      .rw [aMh] at hin
       have e : (x.add (k * sz)).block = x.block := by unfold Addr.add; split <;> rfl
       have h3 : M (x.add (k * sz)).block := hin
       rwa [e] at h3
     exact h1 h2
abbrev Bl (w : aNX) (v : aNY) (L : List Bool) : Prop := Sl w v (L.map Value.bool)
theorem aGU {w : aNX} {v : aNY} {L : List Bool} (h : Bl w v L) (h0 : 0 < L.length) : ∃ b off c, v = .slice (some ⟨b, off, none⟩) L.length c /\ L.length <= c /\ ∀ i, (h : i < L.length) -> w.cell? ⟨b, off + i, none⟩ = some (.bool L[i]) := by
 obtain ⟨b, off, c, rfl, hc, hcell⟩ := h.openV (by simpa using h0)
 refine ⟨b, off, c, by rw [aLD], by simpa using hc, fun i hi => ?_⟩
 have := hcell i (by simpa using hi)
 simpa using this
theorem Ff {w : aNX} {v : aNY} {L : List Bool} (h : Bl w v L) : ∃ a c, v = .slice a L.length c /\ L.length <= c := by
 obtain ⟨a, n, c, rfl, hn, hc, _⟩ := h
 rw [aLD] at hn
 subst hn
 exact ⟨a, c, rfl, hc⟩
theorem aHy (c : UInt8) : S7 c = yQ c.toNat 8 := rfl
theorem axP {x : ByteArray} {w : aNX} (hl : x.size <= 1000000) :
 aS pg GI #[.string x] w (fun r w' => tE w' w.heap.size 1 r (8 * x.size) ((aZ (fU x)).map Value.bool) /\ aW w w' eS) := by
 refine avP ?_
 have hll := eU x
 unfold ayF M5 ND NO Pm Nt Nz M7
 refine cR.rule (fun m (t : aNY × aNY) w' => ∃ (i : Nat) (v : aNY), m = x.size - i /\ t = (v, .int .i64 i) /\ i <= x.size /\ tE w' w.heap.size 1 v (8 * i) ((aZ ((fU x).take i)).map Value.bool) /\ aW w w' (fun y => w.heap.size <= y)) x.size
  ⟨0, _, rfl, rfl, by omega, tE.nil _ _ _, aW.refl _ _⟩ ?_
 rintro m t w1 ⟨i, v, rfl, rfl, hi, o1, x1⟩
 unfold Gf PB
 by_cases hlt : i < x.size
 .have d1 : decide ((i : Int) < (x.size : Int)) = true := by simp; omega
  obtain ⟨c, hc⟩ : ∃ c, c = (fU x)[i]'(by omega) := ⟨_, rfl⟩
  have hg : (x[i]'hlt).toNat = c.toNat := by rw [hc, MD]
  have htk : aZ ((fU x).take (i + 1)) = aZ ((fU x).take i) ++ yQ c.toNat 8 := by
   rw [aMq, aLA (by omega), Ud, <- hc, Option.toList, aZ, aZ, aMd, aHy]
  have hcl : c.toNat < 256 := aL9 c
  generalize c.toNat = y at *
  unfold Ro RJ ZO QZ
  simp (disch := omega) only [aD, dL, iS, aLs, hg, aA, aR, d1, aG]
  unfold Q5 Sm
  refine cR.rule (fun m (t : aNY × aNY × aNY) w' => ∃ (k : Nat) (v : aNY), m = 8 - k /\ t = (v, .int .u8 (y / 2 ^ k : Nat), .int .i64 k) /\ k <= 8 /\ tE w' w.heap.size 1 v (8 * i + k) ((aZ ((fU x).take i) ++ yQ y k).map Value.bool) /\ aW w w' (fun y => w.heap.size <= y)) 8
   ⟨0, v, rfl, by simp, by omega, by simpa [Na] using o1, x1⟩ ?_
  rintro m t w2 ⟨k, v2, rfl, rfl, hk, o2, x2⟩
  unfold I2
  by_cases hk8 : k < 8
  .have d2 : decide ((k : Int) < 8) = true := by simp; omega
   obtain ⟨z, hz⟩ : ∃ z, z = y / 2 ^ k := ⟨_, rfl⟩
   have hz2 : y / 2 ^ (k + 1) = z / 2 := by rw [hz, aL6, aM0]
   have hzl : z < 256 := by have := aMu y (2 ^ k); omega
   have e1 : (z : Int).tmod 2 = ((z % 2 : Nat) : Int) := by rw [aLU (by omega)]; omega
   have e2 : (z : Int).tdiv 2 = ((z / 2 : Nat) : Int) := by rw [aLK (by omega)]; omega
   have hbit : y.testBit k = decide (z % 2 = 1) := by rw [aNq, hz]
   have e3 : (((z % 2 : Nat) : Int) == 1) = y.testBit k := by
    rw [hbit]
    have : z % 2 = 0 ∨ z % 2 = 1 := by omega
    rcases this with h | h <;> simp [h]
   have hbs := adM y k
   generalize y.testBit k = bt at *
   rw [<- hz]
   simp (disch := omega) only [aD, aR, d2, rL, e1, oY, e2, xL, bJ, aQ, aA, dV, e3, aG]
   refine aEC (cells := #[.bool bt]) (by decide) (by decide) (by kernel_rfl) fun w3 o3 x3 s3 => ?_
   refine aaF (o2.ext x3 (fun _ _ h => h)) (o3.cl (off := 0) (l := [.bool bt]) (n := 1) rfl (fun i hi => by rw [aLt])) (by simp [one]) (aMy x2.size x3.size) (by omega) fun v4 w4 o4 x4 => ?_
   refine ⟨8 - (k + 1), by omega, k + 1, v4, rfl, ?_, by omega, ?_, ?_⟩
   .rw [hz2] <;> rfl
   .rw [hbs, <- aLV, aLS]
    exact o4
   .exact (x2.seq (x3.mono fun _ _ h => h.elim)).seq x4
  .have d2 : decide ((k : Int) < 8) = false := by simp; omega
   obtain rfl : k = 8 := by omega
   rw [<- htk] at o2
   unfold IS
   simp (disch := omega) only [aD, aR, d2, rL, oY, bJ, aQ, aA, dV, aE]
   exact ⟨x.size - (i + 1), by omega, i + 1, _, rfl, rfl, by omega, o2, x2⟩
 .have d1 : decide ((i : Int) < (x.size : Int)) = false := by simp; omega
  obtain rfl : i = x.size := by omega
  rw [aL0 (by omega)] at o1
  unfold IF
  simp (disch := omega) only [aD, dL, aA, aR, d1, aE]
  exact ⟨o1, x1.mono fun b hb h => Nat.not_le_of_lt hb h⟩
theorem asK {L : List Bool} {v : aNY} {w : aNX} (h : Bl w v L) (hl : L.length <= 60) :
 aS pg BA #[v] w (fun r w' => r = .int .u64 (wN L : Nat) /\ w' = w) := by
 refine afG ?_
 obtain ⟨a, c, hv, hc⟩ := Ff h
 subst hv
 unfold alQ H8 HI Lo KE KI
 simp (disch := omega) only [aD, lL, aA, fF, aQ]
 unfold JL Lk
 refine cR.rule (fun m (t : aNY × aNY) w' => t = (.int .u64 (wN (L.drop m) : Nat), .int .i64 ((m : Int) - 1)) /\ m <= L.length /\ w' = w) L.length
  ⟨by rw [List.drop_length] <;> rfl, by omega, rfl⟩ ?_
 rintro m t w1 ⟨rfl, hm, rfl⟩
 unfold Dl Kl
 cases m with
 | zero =>
   have d1 : decide ((0 : Int) <= ((0 : Nat) : Int) - 1) = false := rfl
   unfold Da
   simp (disch := omega) only [aD, nJ, d1, oS, aA, bJ, and_true, aE]
   simp
 | succ j =>
   have e0 : ((j + 1 : Nat) : Int) - 1 = (j : Int) := by omega
   have d1 : decide ((0 : Int) <= (j : Int)) = true := by simp
   obtain ⟨b, off, c', e, _, hcell⟩ := aGU h (by omega)
   cases e
   have g := hcell j (by omega)
   have hd : L.drop j = L[j] :: L.drop (j + 1) := aL2 (by omega)
   have hlt := akE (L.drop j)
   rw [aLM] at hlt
   have hp : 2 ^ (L.length - j) <= 2 ^ 60 := aLC (by omega) (by omega)
   generalize L[j] = bt at *
   have hn : wN (L.drop j) = bt.toNat + 2 * wN (L.drop (j + 1)) := by rw [hd, wN]
   generalize wN (L.drop (j + 1)) = x at *
   cases bt with
   | true =>
     have hn : wN (L.drop j) = 1 + 2 * x := hn
     rw [e0]
     simp (disch := omega) only [aD, nJ, d1, oS, kV, nQ, aLs, aA, uK, bJ, g, aH, aG]
     unfold Am
     simp (disch := omega) only [aD, fF, aQ, aA, and_true]
     exact ⟨j, by omega, by rw [hn]; simp; omega, by omega⟩
   | false =>
     have hn : wN (L.drop j) = 2 * x := by rw [hn]; simp
     rw [e0]
     simp (disch := omega) only [aD, nJ, d1, oS, kV, nQ, aLs, aA, uK, bJ, g, aH, aE, aG]
     unfold Am
     simp (disch := omega) only [aD, fF, aQ, aA, and_true]
     exact ⟨j, by omega, by rw [hn]; simp; omega, by omega⟩
end Go.Proofs.YtgpimhlgaokobaaGreat
namespace Go.Pu
def sD : List UInt8 -> Nat
 | [] => 0
 | c :: l => c.toNat + 256 * sD l
theorem Qm : ∀ l : List UInt8, sD l < 256 ^ l.length
 | [] => by simp [sD]
 | c :: l => by
   have := Qm l
   have hc := c.toNat_lt
   rw [sD, aLP, aL6]; omega
theorem arP (c : UInt8) : ∀ l : List UInt8, sD (l ++ [c]) = sD l + 256 ^ l.length * c.toNat
 | [] => by simp [sD]
 | d :: l => by
   rw [aMp, sD, arP c l, sD, aLP, aL6, aNG, aM1, aL1 (256 ^ l.length) 256, aNE]
theorem aEB (i : Nat) : 256 ^ i = 2 ^ (8 * i) := by rw [Nat.pow_mul]
theorem aIS (l : List UInt8) (c : UInt8) : sD l ||| (c.toNat * 2 ^ (8 * l.length)) = sD (l ++ [c]) := by
 have := Qm l
 rw [aEB] at this
 rw [azQ this, arP, aEB]
def oR (x : Nat) : Nat -> List UInt8
 | 0 => []
 | n + 1 => UInt8.ofNat (x % 256) :: oR (x / 256) n
theorem jK : ∀ (n x : Nat), (oR x n).length = n
 | 0, _ => rfl
 | n + 1, x => by rw [oR, aLP, jK n]
theorem X1 : ∀ (n x : Nat), sD (oR x n) = x % 256 ^ n
 | 0, x => by simp [oR, sD, Nat.mod_one]
 | n + 1, x => by
   rw [oR, sD, X1 n, aL6, aL1 (256 ^ n) 256, Nat.mod_mul]
   have : (UInt8.ofNat (x % 256)).toNat = x % 256 := by
    rw [UInt8.toNat_ofNat']; omega
   rw [this]
theorem aA1 : ∀ (n x : Nat), oR x (n + 1) = oR x n ++ [UInt8.ofNat (x / 256 ^ n % 256)]
 | 0, x => by simp [oR]
 | n + 1, x => by
   rw [oR, aA1 n (x / 256), oR, aMp, aM0, aL6, aL1 (256 ^ n) 256]
end Go.Pu
namespace Go.Proofs.YtgpimhlgaokobaaGreat
open Go Go.En Go.Pu
set_option maxRecDepth 4000
def AtS (v : aNY) (S : Nat -> Prop) : Prop := ∀ M : Nat -> Prop, (∀ b, S b -> ¬ M b) -> ¬ inB v M
theorem AtI.toS {v : aNY} {lo hi : Nat} {S : Nat -> Prop} (h : AtI v lo hi) (hS : ∀ b, lo <= b -> b < hi -> S b) : AtS v S := fun M hM => h M fun b h1 h2 => hM b (hS b h1 h2)
theorem AtS.mono {v : aNY} {S T : Nat -> Prop} (h : AtS v S) (hT : ∀ b, S b -> T b) : AtS v T := fun M hM => h M fun b hb => hM b (hT b hb)
theorem AtS.toI {v : aNY} {S : Nat -> Prop} {lo hi : Nat} (h : AtS v S) (hS : ∀ b, S b -> lo <= b /\ b < hi) : AtI v lo hi := fun M hM => h M fun b hb => hM b (hS b hb).1 (hS b hb).2
theorem AtS.nil (S : Nat -> Prop) : AtS (.slice none 0 0) S := fun M _ h => h
theorem AtS.sub {a : Option Addr} {n c m c' k mx sz : Nat} {S : Nat -> Prop} (h : AtS (.slice a n c) S) (hm : m <= n) : AtS (.slice (mZ a mx k sz) m c') S := by
 intro M hM hin
 cases m with
 | zero => unfold inB at hin; split at hin <;> simp_all
 | succ m =>
   obtain ⟨n', rfl⟩ : ∃ n', n = n' + 1 := ⟨n - 1, by omega⟩
   have h1 := h M hM
   cases a with
   | none => unfold mZ at hin; split at hin <;> exact hin
   | some x =>
     unfold mZ at hin
     have h2 : M x.block := by
      split at hin
      .exact hin
      .rw [aMh] at hin
       have e : (x.add (k * sz)).block = x.block := by unfold Addr.add; split <;> rfl
       have h3 : M (x.add (k * sz)).block := hin
       rwa [e] at h3
     exact h1 h2
theorem aKS {w : aNX} {a : Option Addr} {n c : Nat} {l : List aNY} (h : Sl w (.slice a n c) l) {k : Nat} (hk : k <= n) : Sl w (.slice (mZ a k 0 1) (k - 0) (k - 0)) (l.take k) := by
 obtain ⟨a', n', c', e, hn, hc, h⟩ := h
 cases e
 refine ⟨_, _, _, rfl, by rw [aLG]; omega, aLF _, fun h0 => ?_⟩
 obtain ⟨b, off, rfl, h2⟩ := h (by omega)
 have hs : mZ (some ⟨b, off, none⟩) k 0 1 = some ⟨b, off + 0 * 1, none⟩ := by unfold mZ; rw [if_neg (by omega)] <;> rfl
 refine ⟨b, off, by rw [hs]; simp, fun i hi => ?_⟩
 rw [aMg (by omega)]
 exact h2 i (by omega)
def Rdr (w : aNX) (lo hi p : Nat) (l : List UInt8) (e : Int) : Prop := lo <= p /\ p < hi /\ ∃ v, eM w p [v, .int .i64 e] /\ Bs w v l /\ AtS v (fun b => lo <= b /\ b < hi /\ b ≠ p)
theorem Rdr.ext {w w' : aNX} {lo hi p : Nat} {l : List UInt8} {e : Int} {M : Nat -> Prop} (h : Rdr w lo hi p l e) (x : aW w w' M) (hM : ∀ b, lo <= b -> b < hi -> ¬ M b) : Rdr w' lo hi p l e := by
 obtain ⟨h0, h0', v, h1, h2, h3⟩ := h
 exact ⟨h0, h0', v, h1.ext x (hM _ h0 h0'), h2.ext x (h3 M fun b hb => hM b hb.1 hb.2.1), h3⟩
theorem Rdr.lt {w : aNX} {lo hi p : Nat} {l : List UInt8} {e : Int} (h : Rdr w lo hi p l e) : p < w.heap.size := by
 obtain ⟨_, _, v, h1, _⟩ := h; exact h1.lt
theorem asE {v : aNY} {l : List UInt8} {w : aNX} (h : Bs w v l) (hl : l.length <= 1000000000) :
 aS pg vH #[v] w (fun r w' => ∃ p, r = .pointer (some ⟨p, 0, none⟩) /\ Rdr w' w.heap.size w'.heap.size p l 0 /\ aW w w' eS) := by
 refine Vu ?_
 unfold SN CF
 refine (I3 h hl).mono ?_
 rintro r w1 ⟨ho, x1⟩
 have hat := tE.atI ho
 have hs := ho.sl
 obtain ⟨va, vc, rfl⟩ := ho.len
 simp (disch := omega) only [aD, iH, aA]
 refine nR fun w2 o2 x2 s2 => ?_
 have o2 : eM w2 w1.heap.size [.slice va l.length vc, .int .i64 0] := o2
 have hz := o2.lt
 exact ⟨w1.heap.size, rfl, ⟨x1.size, hz, _, o2, hs.ext x2 (bY _), hat.toS fun b h1 h2 => ⟨h1, by omega, by omega⟩⟩, x1.seq x2⟩
def Aw (l : List UInt8) (e : Int) (n : Nat) : List UInt8 × List UInt8 × Int := if e ≠ 0 then ([], l, e) else if l.length < n then ([], l, 10) else (l.take n, l.drop n, 0)
theorem aDc {lo hi p n : Nat} {l : List UInt8} {e : Int} {w : aNX} (h : Rdr w lo hi p l e) (hl : l.length <= 1000000000) (hn : n <= 1000000000) :
 aS pg sV #[.pointer (some ⟨p, 0, none⟩), .int .i64 n, .bool true] w (fun r w' => Bs w' r (Aw l e n).1 /\ AtS r (fun b => lo <= b /\ b < hi /\ b ≠ p) /\ Rdr w' lo hi p (Aw l e n).2.1 (Aw l e n).2.2 /\ aW w w' (fun y => y = p)) := by
 refine SE ?_
 unfold NM AK
 have h' := h
 obtain ⟨h0, h0', v, o, hb, hat⟩ := h'
 obtain ⟨va, vc, rfl, hvc⟩ := hb.len
 rw [aLD] at hb hat o hvc
 have c0 := o.cell (off := 0)
 have c1 := o.cell (off := 1)
 simp only [aLq, aLr] at c0 c1
 by_cases he : e = 0
 rotate_left
 .have n1 : (e != 0) = true := by simpa using he
  have ht : Aw l e n = ([], l, e) := by unfold Aw; rw [if_pos he]
  rw [ht]
  simp (disch := omega) only [aD, qW, pL, aLL, aA, fR, aLt, fQ, eP, aE, gO, c1, aH, cY, n1, aG]
  exact ⟨Sl.nil _, AtS.nil _, h, aW.refl _ _⟩
 subst he
 have n1 : ((0 : Int) != 0) = false := rfl
 by_cases hsh : l.length < n
 .have d1 : decide ((l.length : Int) < (n : Int)) = true := by simp; omega
  have ht : Aw l 0 n = ([], l, 10) := by unfold Aw; rw [if_neg (by decide), if_pos hsh]
  rw [ht]
  simp (disch := omega) only [aD, qW, pL, aLL, aA, fR, aLt, fQ, eP, aE, gO, c1, aH, cY, n1, c0, aP, cX, d1, aG]
  refine Fv o rfl (by simp) fun w1 o1 x1 s1 => ?_
  simp only [aLw, aLv] at o1
  exact ⟨Sl.nil _, AtS.nil _, ⟨h0, h0', _, o1, hb.ext x1 (hat _ fun b hb => hb.2.2), hat⟩, x1⟩
 .have d1 : decide ((l.length : Int) < (n : Int)) = false := by simp; omega
  have ht : Aw l 0 n = (l.take n, l.drop n, 0) := by unfold Aw; rw [if_neg (by decide), if_neg hsh]
  rw [ht]
  simp (disch := omega) only [aD, qW, pL, aLL, aA, fR, aLt, fQ, eP, aE, gO, c1, aH, cY, n1, c0, aP, cX, d1, lH, aLs, eF]
  refine yX o rfl (by simp [one]) fun w1 o1 x1 s1 => ?_
  simp only [aLw, aLv] at o1
  have hbn : Bs w (.slice (mZ va n 0 1) (n - 0) (n - 0)) (l.take n) := by
   have := aKS hb (k := n) (by omega)
   rwa [<- aNi] at this
  have hbd : Bs w (.slice (mZ va vc n 1) (l.length - n) (vc - n)) (l.drop n) := by
   have := hb.drop' (k := n) (by omega)
   rwa [<- aNc] at this
  have hn1 := hat.sub (mx := n) (k := 0) (sz := 1) (m := n - 0) (c' := n - 0) (by omega)
  have hn2 := hat.sub (mx := vc) (k := n) (sz := 1) (m := l.length - n) (c' := vc - n) (by omega)
  exact ⟨hbn.ext x1 (hn1 _ fun b hb => hb.2.2), hn1, ⟨h0, h0', _, o1, hbd.ext x1 (hn2 _ fun b hb => hb.2.2), hn2⟩, x1⟩
theorem aH3 {lo hi p : Nat} {l : List UInt8} {e : Int} {w : aNX} (h : Rdr w lo hi p l e) :
 aS pg wJ #[.pointer (some ⟨p, 0, none⟩)] w (fun r w' => r = .int .i64 l.length /\ w' = w) := by
 refine Th ?_
 unfold Oj AN
 obtain ⟨h0, h0', v, o, hb, hat⟩ := h
 obtain ⟨va, vc, rfl, hvc⟩ := hb.len
 rw [aLD] at hb hat o hvc
 have c0 := o.cell (off := 0)
 simp only [aLq, aLr] at c0
 simp (disch := omega) only [aD, eE, aLN, qW, aA, fQ, eP, and_true, c0, aH, aP, aE]
theorem avZ {lo hi p : Nat} {l : List UInt8} {e : Int} {w : aNX} (h : Rdr w lo hi p l e) :
 aS pg rO #[.pointer (some ⟨p, 0, none⟩)] w (fun r w' => r = .int .i64 e /\ w' = w) := by
 refine TH ?_
 unfold Qd BT
 obtain ⟨h0, h0', v, o, hb, hat⟩ := h
 have c1 := o.cell (off := 1)
 simp only [aLq, aLr] at c1
 simp (disch := omega) only [aD, eE, aLN, qW, aA, fR, aLt, gO, and_true, c1, aH, aE]
theorem aF4 {lo hi p n : Nat} {l : List UInt8} {e : Int} {w : aNX} (h : Rdr w lo hi p l e) (hl : l.length <= 1000000000) (hn : n <= 1000000000) :
 aS pg vT #[.pointer (some ⟨p, 0, none⟩), .int .i64 n] w (fun r w' => Bs w' r (Aw l e n).1 /\ AtS r (fun b => lo <= b /\ b < hi /\ b ≠ p) /\ Rdr w' lo hi p (Aw l e n).2.1 (Aw l e n).2.2 /\ aW w w' (fun y => y = p)) := by
 refine R9 ?_
 unfold L8 zH
 have d1 : decide ((0 : Int) <= (n : Int)) = true := by simp
 simp (disch := omega) only [aD, eE, aLN, nJ, d1, aA, aE]
 refine (aDc h hl hn).mono ?_
 rintro r w1 hr
 exact hr
theorem awO {lo hi p n : Nat} {l : List UInt8} {e : Int} {w : aNX} (h : Rdr w lo hi p l e) (hl : l.length <= 1000000000) (hn : 1 <= n /\ n <= 8) :
 aS pg rG #[.pointer (some ⟨p, 0, none⟩), .int .i64 n] w (fun r w' => r = .int .u64 (sD (Aw l e n).1 : Nat) /\ Rdr w' lo hi p (Aw l e n).2.1 (Aw l e n).2.2 /\ aW w w' (fun y => y = p)) := by
 refine Qb ?_
 unfold Jt yA yE yN yH yW
 have d1 : decide ((1 : Int) <= (n : Int)) = true := by simp; omega
 have d2 : decide ((n : Int) <= 8) = true := by simp; omega
 simp (disch := omega) only [aD, eE, aLN, nJ, d1, aA, rC, bF, if_true, bL, Ah, d2, aE]
 refine (aDc h hl (by omega)).mono ?_
 rintro r w1 ⟨hb, hat, hr, x1⟩
 obtain ⟨t, ht⟩ : ∃ t, t = (Aw l e n).1 := ⟨_, rfl⟩
 have htl : t.length <= 8 := by
  rw [ht]; unfold Aw
  split
  .simp
  .split
   .simp
   .simp; omega
 rw [<- ht] at hb ⊢
 obtain ⟨va, vc, rfl, hvc⟩ := hb.len
 rw [aLD] at hb hvc hat
 simp (disch := omega) only [aLD, aP, aA]
 unfold yI yC
 refine cR.rule (fun m s w' => ∃ i : Nat, m = t.length - i /\ i <= t.length /\ s = (.int .u64 (sD (t.take i) : Nat), .int .i64 i) /\ w' = w1) t.length ⟨0, rfl, by omega, rfl, rfl⟩ ?_
 rintro m s w2 ⟨i, rfl, hi, rfl, hw⟩
 rw [hw]; clear hw w2
 unfold tK
 by_cases hlt : i < t.length
 .have d3 : decide ((i : Int) < (t.length : Int)) = true := by simp; omega
  obtain ⟨c, hc⟩ : ∃ c, c = t[i]'hlt := ⟨_, rfl⟩
  have htk : t.take (i + 1) = t.take i ++ [c] := by rw [aMq, aLA hlt, <- hc] <;> rfl
  have hor := aIS (t.take i) c
  rw [<- htk, aLG, aMm (by omega)] at hor
  have hcl : c.toNat < 256 := aL9 c
  obtain ⟨b, off, c', hv, hcc, hcell⟩ := hb.openV (by rw [aLD]; omega)
  have g1 := hcell i (by rw [aLD]; exact hlt)
  rw [aLD] at hv
  cases hv
  rw [aMH, <- hc] at g1
  simp only [tJ] at g1
  generalize c.toNat = cx at *
  have hp : 2 ^ (8 * i) <= 2 ^ 56 := aLC (by omega) (by omega)
  have hm : cx * 2 ^ (8 * i) <= 255 * 2 ^ 56 := Nat.mul_le_mul (by omega) hp
  have hb0 := Qm (t.take i)
  have hb1 := Qm (t.take (i + 1))
  rw [aLG, aMm (by omega)] at hb0 hb1
  have hq : 256 ^ i <= 256 ^ 7 := aLC (by omega) (by omega)
  have e0 : ((8 : Int) * (i : Int)) = ((8 * i : Nat) : Int) := by omega
  have e5 : IntKind.u64.wrap ((cx : Int) * 2 ^ (min (8 * i) IntKind.u64.bits)) = ((cx * 2 ^ (8 * i) : Nat) : Int) := by
   rw [show min (8 * i) IntKind.u64.bits = 8 * i from aMm (by have : IntKind.u64.bits = 64 := rfl
                                                              omega)]
   have e : (cx : Int) * 2 ^ (8 * i) = ((cx * 2 ^ (8 * i) : Nat) : Int) := by simp
   rw [e]
   exact kV (by omega) (by omega)
  have e6 := aBX (a := sD (t.take i)) (b := cx * 2 ^ (8 * i)) (by omega) (by omega)
  rw [hor] at e6
  have e7 : IntKind.u64.wrap (cx : Int) = (cx : Int) := kV (by omega) (by omega)
  simp (disch := omega) only [aD, aR, d3, dO, aLs, oS, e0, aQ, bJ, aA, fY, kV, iJ, g1, aH, iR, e7, pG, e5, LC, e6, and_true, aG]
  exact ⟨t.length - (i + 1), by omega, i + 1, rfl, by omega, rfl⟩
 .have d3 : decide ((i : Int) < (t.length : Int)) = false := by simp; omega
  obtain rfl : i = t.length := by omega
  simp (disch := omega) only [aD, aR, d3, oS, aQ, bJ, aA, fY, kV, aE]
  unfold tM
  rw [aNd]
  exact ⟨rfl, hr, x1⟩
theorem azP {v : aNY} {l : List UInt8} {w : aNX} (h : Bs w v l) (hl : l.length <= 100000) (hd : jF (cF l) = 0) :
 aS pg Aq #[v] w (fun r w' => r = .tuple #[.agg #[.int .i64 0, .slice none 0 0], .int .i64 1] /\ aW w w' eS) := by
 refine Ss ?_
 unfold VT DD Dd
 refine xH fun w1 o1 x1 s1 => ?_
 refine (anA (h.ext x1 (bY _)) hl hd).mono ?_
 rintro r w2 ⟨rfl, rfl⟩
 have n0 : ((1 : Int) != 0) = true := rfl
 simp (disch := omega) only [aD, pT, pS, kP, aA, cY, n0, aG]
 refine uZ o1 rfl (by simp [one]) (by simp) fun w3 o3 x3 s3 => ?_
 refine XJ o3 (by simp [bM]) ?_
 simp only [bM, aLw, aLv, aLy, aLx, aLB]
 exact ⟨trivial, x1.new x3 (aLF _)⟩
abbrev wC (wl : List UInt8) : List (Nat × Nat) := pQ (cF wl) (jF (cF wl))
structure WOk (wl : List UInt8) : Prop where
 d0 : jF (cF wl) ≠ 0
theorem WOk.full {wl : List UInt8} (h : jF (cF wl) ≠ 0) : Yv (wC wl) (pM (wC wl)) /\ pM (wC wl) <= 11 /\ (wC wl).length <= 256 := by
 obtain ⟨h1, h2⟩ := axF rfl h
 have h3 := yM rfl h
 exact ⟨h1, aMy h2 h3.2.1, by rw [uO]; exact h3.2.2.2.1⟩
def Vk (wl s : List UInt8) (n : Nat) : Except Int (List Nat) := if jF (cF wl) = 0 then .error 1 else rU (wC wl) s n
theorem aC4 {lv v : aNY} {wl l : List UInt8} {n : Nat} {w : aNX} (hw : Bs w lv wl) (hwl : wl.length <= 100000) (h : Bs w v l) (hl : l.length <= 1000000) (hn : n <= 131072) :
 aS pg I1 #[lv, v, .int .i64 n] w (fun r w' => TT w' w.heap.size (Vk wl l n) r /\ aW w w' eS) := by
 refine apU ?_
 unfold asN Py
 by_cases hd : jF (cF wl) = 0
 .refine (azP hw hwl hd).mono ?_
  rintro r w1 ⟨rfl, x1⟩
  have n0 : ((1 : Int) != 0) = true := rfl
  simp (disch := omega) only [aD, pT, pS, aR, aA, bF, cY]
  refine xH fun w2 o2 x2 s2 => ?_
  refine uZ o2 rfl (by simp [one]) (by simp) fun w3 o3 x3 s3 => ?_
  simp (disch := omega) only [n0, aG]
  unfold Vk
  rw [if_pos hd]
  exact ⟨rfl, x1.seq (x2.new x3 (aLF _))⟩
 .obtain ⟨hF, hm, hC⟩ := WOk.full hd
  refine (aCI hw rfl hd).mono ?_
  rintro r w1 ⟨t, rfl, ht, x1⟩
  have n0 : ((0 : Int) != 0) = false := rfl
  obtain ⟨b, rfl, hb, ob⟩ := ht
  simp (disch := omega) only [aD, pT, pS, aR, aA, bF, cY]
  refine xH fun w2 o2 x2 s2 => ?_
  refine uZ o2 rfl (by simp [one]) (by simp) fun w3 o3 x3 s3 => ?_
  simp only [bM, aLw, aLv] at o3
  have x13 : aW w1 w3 eS := x2.new x3 (aLF _)
  have x03 := x1.seq x13
  have d1 : decide ((n : Int) < 0) = false := decide_eq_false (by omega)
  have d2 : decide (131072 < (n : Int)) = false := decide_eq_false (by omega)
  have q1 := PK (off := 0) o3 (by simp)
  simp only [aLy, aLx, aLB] at q1
  simp (disch := omega) only [n0, d1, cW, aLu, if_false, bL, cX, d2, aA, q1, aE]
  refine (aDh (base := 0) hF hm hC ⟨b, rfl, aNn _, ob.ext x13 (fun h => h)⟩ (h.ext x03 (bY _)) hl hn).mono ?_
  rintro r w4 ⟨hr, x4⟩
  unfold Vk
  rw [if_neg hd]
  have z03 := x03.size
  cases hs : rU (wC wl) l n with
  | error e =>
    rw [hs] at hr
    obtain rfl : r = .tuple #[.slice none 0 0, .int .i64 e] := hr
    simp (disch := omega) only [pT, pS, aA]
    exact ⟨rfl, x03.seq x4⟩
  | ok m =>
    rw [hs] at hr
    obtain ⟨ov, rfl, os⟩ := hr
    simp (disch := omega) only [pT, pS, aA]
    refine ⟨⟨ov, rfl, ?_⟩, x03.seq x4⟩
    rcases os.2 with h0 | ⟨b, c, rest, h1, h2, h3⟩
    .exact ⟨os.1, .inl h0⟩
    .exact ⟨os.1, .inr ⟨b, c, rest, h1, by omega, h3⟩⟩
theorem aDi {n q : Nat} (hn : n <= 131072) (hq : q = (n + 3) / 4) (w : aNX) :
 aS pg FY #[.int .i64 n] w (fun r w' => r = .tuple #[.agg #[.int .i64 (q : Nat), .int .i64 (q : Nat), .int .i64 (q : Nat), .int .i64 ((n : Int) - 3 * (q : Int))], .bool (decide (3 * (q : Int) <= (n : Int)))] /\ aW w w' eS) := by
 refine auM ?_
 unfold ayL R1
 have e1 : (n : Int) + 4 - 1 = ((n + 3 : Nat) : Int) := by omega
 have e2 : ((n + 3 : Nat) : Int).tdiv 4 = (q : Int) := by rw [aLK (by omega)]; omega
 have e3 : IntKind.i64.wrap (q : Int) = (q : Int) := aQ (by omega) (by omega)
 generalize hK : (fun (t2 : aNY) (w : aNX) => _) = K
 refine Ul fun w1 o1 x1 s1 => ?_
 simp (disch := omega) only [hK.symm, aD, bJ, aQ, aA, fF, e1, oY, e2, e3, oS, nJ, dG]
 refine XK o1 rfl (by simp [one]) (by simp) fun w2 o2 x2 s2 => ?_
 refine aDy o2 (by simp [bM]) ?_
 simp only [bM, aLw, aLv, aLy, aLx, aLB]
 exact ⟨trivial, x1.new x2 (aLF _)⟩
def EM (C : List (Nat × Nat)) : List UInt8 -> List (Nat × Nat) -> Except Int (List Nat)
 | _, [] => .ok []
 | l, (k, n) :: r => match rU C (l.take k) n with
   | .error e => .error e
   | .ok m => (match EM C (l.drop k) r with
     | .error e => .error e
     | .ok m' => .ok (m ++ m'))
def XL (acc : List Nat) (x : Except Int (List Nat)) : Except Int (List Nat) := match x with
 | .error e => .error e
 | .ok m => .ok (acc ++ m)
theorem aqZ {C : List (Nat × Nat)} {l : List UInt8} {k n : Nat} {r : List (Nat × Nat)} (acc : List Nat) : XL acc (EM C l ((k, n) :: r)) = match rU C (l.take k) n with
 | .error e => .error e
 | .ok m => XL (acc ++ m) (EM C (l.drop k) r) := by
 rw [EM]
 cases rU C (l.take k) n with
 | error e => rfl
 | ok m =>
   simp only
   cases EM C (l.drop k) r with
   | error e => rfl
   | ok m' => simp [XL]
def nA (l : List UInt8) : Nat := sD (l.take 2)
def nB (l : List UInt8) : Nat := sD ((l.drop 2).take 2)
def nC (l : List UInt8) : Nat := sD ((l.drop 4).take 2)
def Jw (wl l : List UInt8) (n : Nat) : Except Int (List Nat) :=
 if jF (cF wl) = 0 then .error 1
 else if n < 3 * ((n + 3) / 4) then .error 11
 else if l.length < 6 then .error 10
 else if (l.drop 6).length < nA l + nB l + nC l then .error 10
 else EM (wC wl) (l.drop 6) [(nA l, (n + 3) / 4), (nB l, (n + 3) / 4), (nC l, (n + 3) / 4), ((l.drop 6).length - (nA l + nB l + nC l), n - 3 * ((n + 3) / 4))]
def nx (l : List UInt8) : Nat -> List UInt8 × Int
 | 0 => (l, 0)
 | i + 1 => ((Aw (nx l i).1 (nx l i).2 2).2.1, (Aw (nx l i).1 (nx l i).2 2).2.2)
def nv (l : List UInt8) (i : Nat) : Nat := sD (Aw (nx l i).1 (nx l i).2 2).1
theorem aEn (l : List UInt8) : ∀ i, (nx l i).1.length <= l.length
 | 0 => aLF _
 | i + 1 => by
   have := aEn l i
   rw [nx]
   unfold Aw
   split
   .exact this
   .split
    .exact this
    .simp only [aLM]; omega
theorem aJn {l : List UInt8} (h : 6 <= l.length) : nx l 1 = (l.drop 2, 0) /\ nx l 2 = (l.drop 4, 0) /\ nx l 3 = (l.drop 6, 0) /\ nv l 0 = nA l /\ nv l 1 = nB l /\ nv l 2 = nC l := by
 have t : ∀ m : List UInt8, 2 <= m.length -> Aw m 0 2 = (m.take 2, m.drop 2, 0) := fun m hm => by
  unfold Aw; rw [if_neg (by simp), if_neg (by omega)]
 have h1 : nx l 1 = (l.drop 2, 0) := by rw [nx, nx, t l (by omega)]
 have h2 : nx l 2 = (l.drop 4, 0) := by rw [nx, h1, t _ (by rw [aLM]; omega), aNo]
 have h3 : nx l 3 = (l.drop 6, 0) := by rw [nx, h2, t _ (by rw [aLM]; omega), aNo]
 refine ⟨h1, h2, h3, ?_, ?_, ?_⟩
 .unfold nv nA; rw [nx, t l (by omega)]
 .unfold nv nB; rw [h1, t _ (by rw [aLM]; omega)]
 .unfold nv nC; rw [h2, t _ (by rw [aLM]; omega)]
theorem aHh {l : List UInt8} (h : l.length < 6) : (nx l 3).2 = 10 := by
 have e : ∀ (m : List UInt8), Aw m 10 2 = ([], m, 10) := fun m => rfl
 have t : ∀ m : List UInt8, 2 <= m.length -> Aw m 0 2 = (m.take 2, m.drop 2, 0) := fun m hm => by
  unfold Aw; rw [if_neg (by simp), if_neg (by omega)]
 have b : ∀ m : List UInt8, m.length < 2 -> Aw m 0 2 = ([], m, 10) := fun m hm => by
  unfold Aw; rw [if_neg (by simp), if_pos hm]
 rcases aLO l.length 2 with h1 | h1
 .rw [nx, nx, nx, nx, b l h1] <;> rfl
 .rcases aLO l.length 4 with h2 | h2
  .rw [nx, nx, nx, nx, t l h1]; simp only; rw [b _ (by rw [aLM]; omega)] <;> rfl
  .rw [nx, nx, nx, nx, t l h1]; simp only; rw [t _ (by rw [aLM]; omega)]; simp only; rw [b _ (by rw [aLM, aLM]; omega)]
theorem ayC {l : List UInt8} {e : Int} : sD (Aw l e 2).1 < 65536 := by
 have h : ∀ m : List UInt8, m.length <= 2 -> sD m < 65536 := fun m hm => by
  match m, hm with
  | [], _ => decide
  | [a], _ => have := aL9 a; simp [sD]; omega
  | [a, b], _ => have := aL9 a; have := aL9 b; simp [sD]; omega
 apply h
 unfold Aw
 split
 .simp
 .split
  .simp
  .simp only [aLG]; omega
def l4 (l : List UInt8) (i : Nat) (d : Int) : List aNY := [.int .i64 (if 0 < i then nv l 0 else 0 : Nat), .int .i64 (if 1 < i then nv l 1 else 0 : Nat), .int .i64 (if 2 < i then nv l 2 else 0 : Nat), .int .i64 d]
theorem aJT (l : List UInt8) {i : Nat} (h : i < 3) : (l4 l i 0).set i (.int .i64 (nv l i : Nat)) = l4 l (i + 1) 0 := by
 rcases (show i = 0 ∨ i = 1 ∨ i = 2 by omega) with rfl | rfl | rfl <;> rfl
theorem Ax {w : aNX} {base base' sz n : Nat} {v : aNY} {l : List aNY} (h : tE w base sz v n l) (hb : base' <= base) : tE w base' sz v n l := by
 rcases h.2 with h0 | ⟨b, c, rest, h1, h2, h3⟩
 .exact ⟨h.1, .inl h0⟩
 .exact ⟨h.1, .inr ⟨b, c, rest, h1, by omega, h3⟩⟩
theorem XZ {C : List (Nat × Nat)} {l : List UInt8} {n : Nat} {e : Int} (h : rU C l n = .error e) : e = 11 ∨ e = 15 := by
 unfold rU at h
 split at h
 .cases h; exact .inl rfl
 .split at h
  .cases h; exact .inl rfl
  .split at h
   .cases h; exact .inr rfl
   .cases h
theorem aqI {C : List (Nat × Nat)} {l : List UInt8} {n : Nat} {m : List Nat} (h : rU C l n = .ok m) : m.length = n := by
 unfold rU at h
 split at h
 .cases h
 .split at h
  .cases h
  .split at h
   .cases h
   .cases h; exact V1
theorem aBv {lv v : aNY} {wl l : List UInt8} {n : Nat} {w : aNX} (hw : Bs w lv wl) (hwl : wl.length <= 100000) (h : Bs w v l) (hl : l.length <= 1000000) (hn : n <= 131072) :
 aS pg FC #[lv, v, .int .i64 n] w (fun r w' => TT w' w.heap.size (Jw wl l n) r /\ aW w w' eS) := by
 refine aiZ ?_
 obtain ⟨RR, hRR⟩ : ∃ RR : aNY -> aNX -> Prop, RR = fun r w' => TT w' w.heap.size (Jw wl l n) r /\ aW w w' eS := ⟨_, rfl⟩
 rw [<- hRR]
 have err : ∀ {e : Int} {w' : aNX}, Jw wl l n = .error e -> aW w w' eS -> RR (.tuple #[.slice none 0 0, .int .i64 e]) w' := fun h x => by
  rw [hRR, h]; exact ⟨rfl, x⟩
 unfold amE Ih HJ
 by_cases hd : jF (cF wl) = 0
 .refine (azP hw hwl hd).mono ?_
  rintro r w1 ⟨rfl, x1⟩
  have n0 : ((1 : Int) != 0) = true := rfl
  simp (disch := omega) only [aD, pT, pS, aR, aA, bF, cY]
  refine xH fun w2 o2 x2 s2 => ?_
  refine uZ o2 rfl (by simp [one]) (by simp) fun w3 o3 x3 s3 => ?_
  simp (disch := omega) only [n0, aG]
  exact err (by unfold Jw; rw [if_pos hd]) (x1.seq (x2.new x3 (aLF _)))
 .obtain ⟨hF, hm, hC⟩ := WOk.full hd
  refine (aCI hw rfl hd).mono ?_
  rintro r w1 ⟨t, rfl, ht, x1⟩
  have n0 : ((0 : Int) != 0) = false := rfl
  obtain ⟨b, rfl, hb, ob⟩ := ht
  simp (disch := omega) only [aD, pT, pS, aR, aA, bF, cY]
  refine xH fun w2 o2 x2 s2 => ?_
  refine uZ o2 rfl (by simp [one]) (by simp) fun w3 o3 x3 s3 => ?_
  simp only [bM, aLw, aLv] at o3
  have x13 : aW w1 w3 eS := x2.new x3 (aLF _)
  have x03 := x1.seq x13
  have z1 := x1.size
  have z13 := x13.size
  have lb := ob.lt
  have ob3 := ob.ext x13 (fun h => h)
  obtain ⟨p8, hp8⟩ : ∃ p, p = w1.heap.size := ⟨_, rfl⟩
  rw [<- hp8] at o3 ⊢
  have l3 := o3.lt
  have d1 : decide ((n : Int) < 0) = false := decide_eq_false (by omega)
  have d2 : decide (131072 < (n : Int)) = false := decide_eq_false (by omega)
  obtain ⟨q, hq⟩ : ∃ q, q = (n + 3) / 4 := ⟨_, rfl⟩
  simp (disch := omega) only [n0, d1, cW, aLu, if_false, bL, cX, d2, aA, aE]
  refine (aDi hn hq w3).mono ?_
  rintro r w4 ⟨rfl, x4⟩
  simp (disch := omega) only [pT, pS, aA, pL]
  refine Ul fun w5 o5 x5 s5 => ?_
  refine XK o5 rfl (by simp [one]) (by simp) fun w6 o6 x6 s6 => ?_
  simp only [bM, aLw, aLv] at o6
  have x46 : aW w4 w6 eS := x5.new x6 (aLF _)
  have x36 := x4.seq x46
  have x06 := x03.seq x36
  obtain ⟨p10, hp10⟩ : ∃ p, p = w4.heap.size := ⟨_, rfl⟩
  rw [<- hp10] at o6 ⊢
  have l6 := o6.lt
  by_cases h3 : n < 3 * q
  .have d3 : decide (3 * (q : Int) <= (n : Int)) = false := decide_eq_false (by omega)
   simp (disch := omega) only [d3, aLX, aG]
   exact err (by unfold Jw; rw [if_neg hd, <- hq, if_pos h3]) x06
  have d3 : decide (3 * (q : Int) <= (n : Int)) = true := decide_eq_true (by omega)
  simp (disch := omega) only [d3, aLL, aE]
  refine (asE (h.ext x06 (bY _)) (by omega)).mono ?_
  rintro r w7 ⟨p, rfl, hr7, x7⟩
  refine Ul fun w8 o8 x8 s8 => ?_
  have z7 := x7.size
  have z36 := x36.size
  have hp := hr7.1
  have hp2 := hr7.2.1
  have hr8 := hr7.ext x8 (fun _ _ _ h => h)
  obtain ⟨p13, hp13⟩ : ∃ p, p = w7.heap.size := ⟨_, rfl⟩
  rw [<- hp13] at o8 ⊢
  have z8 := x8.size
  have x08 := (x06.seq x7).seq x8
  have o38 := ((o3.ext x36 (fun h => h)).ext x7 (fun h => h)).ext x8 (fun h => h)
  have o68 := (o6.ext x7 (fun h => h)).ext x8 (fun h => h)
  have ob8 := ((ob3.ext x36 (fun h => h)).ext x7 (fun h => h)).ext x8 (fun h => h)
  unfold Ig HZ HB
  simp (disch := omega) only [true_and]
  unfold Ib HC
  refine cR.rule (fun m (t : aNY) w' => ∃ i : Nat, m = 3 - i /\ t = .int .i64 i /\ i <= 3 /\ eM w' p13 (l4 l i 0) /\ Rdr w' w6.heap.size w7.heap.size p (nx l i).1 (nx l i).2 /\ aW w8 w' (fun y => y = p ∨ y = p13)) 3
   ⟨0, rfl, rfl, by omega, o8, hr8, aW.refl _ _⟩ ?_
  rintro m t w9 ⟨i, rfl, rfl, hi, o9, hr9, x9⟩
  have z9 := x9.size
  unfold Cs
  by_cases hlt : i < 3
  .have d4 : decide ((i : Int) < 3) = true := by simp; omega
   have hnl := aEn l i
   simp (disch := omega) only [aD, aR, d4, nT, aLs, aLt, bJ, aQ, aA, aG]
   refine (awO (n := 2) hr9 (by omega) ⟨by omega, by omega⟩).mono ?_
   rintro r wa ⟨rfl, hra, xa⟩
   have hnv : sD (Aw (nx l i).1 (nx l i).2 2).1 = nv l i := rfl
   rw [hnv]
   have hn2 := ayC (l := (nx l i).1) (e := (nx l i).2)
   rw [hnv] at hn2
   have e1 : IntKind.i64.wrap ((nv l i : Nat) : Int) = ((nv l i : Nat) : Int) := aQ (by omega) (by omega)
   have e2 : (i : Int) + 1 = ((i + 1 : Nat) : Int) := by omega
   simp (disch := omega) only [bX, e1, e2, aA]
   refine pH (o9.ext xa (by omega)) rfl (by simp [l4]; omega) fun wb o_b xb sb => ?_
   rw [aJT l hlt] at o_b
   try simp (disch := omega) only [true_and]
   exact ⟨3 - (i + 1), by omega, i + 1, rfl, rfl, by omega, o_b, hra.ext xb (fun y _ hy => by omega), (x9.seq (xa.mono fun _ _ h => .inl h)).seq (xb.mono fun _ _ h => .inr h)⟩
  .have d4 : decide ((i : Int) < 3) = false := by simp; omega
   obtain rfl : i = 3 := by omega
   simp (disch := omega) only [aD, aR, d4, nT, aLs, aLt, bJ, aQ, aA, aE]
   unfold Ly KD
   have b0 : nv l 0 < 65536 := ayC
   have b1 : nv l 1 < 65536 := ayC
   have b2 : nv l 2 < 65536 := ayC
   have hnl := aEn l 3
   have od := kB o9
   have k0 := od.cell (off := 0)
   have k1 := od.cell (off := 1)
   have k2 := od.cell (off := 2)
   simp only [l4, aLq, aLr] at k0 k1 k2
   have i0 : (if 0 < 3 then nv l 0 else 0) = nv l 0 := rfl
   have i1 : (if 1 < 3 then nv l 1 else 0) = nv l 1 := rfl
   have i2 : (if 2 < 3 then nv l 2 else 0) = nv l 2 := rfl
   rw [i0] at k0
   rw [i1] at k1
   rw [i2] at k2
   have t0 : (0 : Int).toNat = 0 := rfl
   have t1 : (1 : Int).toNat = 1 := rfl
   have t2 : (2 : Int).toNat = 2 := rfl
   have t3 : (3 : Int).toNat = 3 := rfl
   obtain ⟨N3, hN3⟩ : ∃ N, N = (nx l 3).1.length := ⟨_, rfl⟩
   obtain ⟨D, hD⟩ : ∃ D : Int, D = (N3 : Int) - nv l 0 - nv l 1 - nv l 2 := ⟨_, rfl⟩
   have hrd := hr9.ext (aW.dr w9 eS) (fun _ _ _ h => h)
   simp (disch := omega) only [aD, nT, aLt, jH, Result.ok.injEq, Next.value.injEq, and_true, aA, true_and, bO]
   refine (aH3 hrd).mono ?_
   rintro r wa ⟨rfl, rfl⟩
   rw [<- hN3]
   simp (disch := omega) only [t0, k0, aH, Result.ok.injEq, Next.value.injEq, and_true, t1, k1, t2, k2, t3, aA, true_and, fF, aQ]
   rw [<- hD]
   refine pH od rfl (by simp [l4]) fun wb o_b xb sb => ?_
   have o_b : eM wb p13 (l4 l 3 D) := o_b
   have zd : (dr w9).heap.size = w9.heap.size := rfl
   have hrb := hrd.ext xb (fun y _ hy => by omega)
   have x9b : aW w8 wb (fun y => y = p ∨ y = p13) := (x9.seq (aW.dr _ _)).seq (xb.mono fun _ _ h => .inr h)
   have x0b : aW w wb eS := x08.trans x9b fun y hy h => by omega
   refine (avZ hrb).mono ?_
   rintro r wc ⟨rfl, rfl⟩
   rcases aLO l.length 6 with h6 | h6
   .have he := aHh h6
    rw [he]
    have n1 : ((10 : Int) != 0) = true := rfl
    simp (disch := omega) only [cY, n1, aA, iT, bF, if_true, aG, cV]
    exact err (by unfold Jw; rw [if_neg hd, <- hq, if_neg h3, if_pos h6]) x0b
   .obtain ⟨_, _, e3, g0, g1, g2⟩ := aJn h6
    rw [e3] at hrb hN3 ⊢
    simp only at hrb hN3
    have n1 : ((0 : Int) != 0) = false := rfl
    have k3 := o_b.cell (off := 3)
    simp only [l4, aLq, aLr] at k3
    by_cases hneg : N3 < nA l + nB l + nC l
    .have d5 : decide (D < 0) = true := decide_eq_true (by omega)
     simp (disch := omega) only [cY, n1, aA, cW, bF, aLu, if_false, bL, bO, k3, aH, aR, d5, aG]
     exact err (by unfold Jw; rw [if_neg hd, <- hq, if_neg h3, if_neg (by omega), <- hN3, if_pos hneg]) x0b
    .have d5 : decide (D < 0) = false := decide_eq_false (by omega)
     simp (disch := omega) only [cY, n1, aA, cW, bF, aLu, if_false, bL, bO, k3, aH, aR, d5, aE]
     obtain ⟨L4, hL4⟩ : ∃ L, L = [(nA l, q), (nB l, q), (nC l, q), (N3 - (nA l + nB l + nC l), n - 3 * q)] := ⟨_, rfl⟩
     have hH : Jw wl l n = EM (wC wl) (l.drop 6) L4 := by
      unfold Jw
      rw [if_neg hd, <- hq, if_neg h3, if_neg (by omega), <- hN3, if_neg hneg, hL4]
     have cells : ∀ i, i < 4 -> ∃ (k m : Nat), L4[i]? = some (k, m) /\ (l4 l 3 D)[i]? = some (.int .i64 (k : Nat)) /\ [Value.int .i64 (q : Nat), .int .i64 (q : Nat), .int .i64 (q : Nat), .int .i64 ((n : Int) - 3 * (q : Int))][i]? = some (.int .i64 (m : Nat)) /\ m <= n := fun i hi => by
      rcases (show i = 0 ∨ i = 1 ∨ i = 2 ∨ i = 3 by omega) with rfl | rfl | rfl | rfl
      .exact ⟨nA l, q, by rw [hL4] <;> rfl, by rw [<- g0] <;> rfl, rfl, by omega⟩
      .exact ⟨nB l, q, by rw [hL4] <;> rfl, by rw [<- g1] <;> rfl, rfl, by omega⟩
      .exact ⟨nC l, q, by rw [hL4] <;> rfl, by rw [<- g2] <;> rfl, rfl, by omega⟩
      .refine ⟨N3 - (nA l + nB l + nC l), n - 3 * q, by rw [hL4] <;> rfl, ?_, ?_, by omega⟩
       .show some (Value.int .i64 D) = _
        rw [show D = ((N3 - (nA l + nB l + nC l) : Nat) : Int) from by omega]
       .show some (Value.int .i64 ((n : Int) - 3 * (q : Int))) = _
        rw [show (n : Int) - 3 * (q : Int) = ((n - 3 * q : Nat) : Int) from by omega]
     have hsum : (L4.map (·.1)).sum = (l.drop 6).length := by rw [hL4, <- hN3]; simp; omega
     have z0b := x0b.size
     have z9b := x9b.size
     have o8b := o38.ext x9b (by omega)
     have o10b := o68.ext x9b (by omega)
     have obb := ob8.ext x9b (by omega)
     unfold KZ Kb KL
     try simp (disch := omega) only [true_and]
     unfold Lp Kh
     refine cR.rule (fun z (t : aNY × aNY) w' => ∃ (i : Nat) (acc : List Nat) (li : List UInt8) (ov : aNY), z = 4 - i /\ t = (ov, .int .i64 i) /\ i <= 4 /\ tE w' wc.heap.size 1 ov acc.length (u8n acc) /\ Rdr w' w6.heap.size w7.heap.size p li 0 /\
      EM (wC wl) (l.drop 6) L4 = XL acc (EM (wC wl) li (L4.drop i)) /\ li.length = ((L4.drop i).map (·.1)).sum /\ li.length <= l.length /\ acc.length <= i * 131072 /\ aW wc w' (fun y => y = p)) 4
      ⟨0, [], l.drop 6, _, rfl, rfl, by omega, tE.nil _ _ _, hrb, ?_, by rw [aLy, hsum], by rw [aLM]; omega, by simp, aW.refl _ _⟩ ?_
     .rw [aLy]
      cases EM (wC wl) (l.drop 6) L4 with
      | error e => rfl
      | ok m => simp [XL]
     rintro z t wd ⟨i, acc, li, ov, rfl, rfl, hi4, os, hrd4, hres, hls, hll, hal, xd⟩
     have zd4 := xd.size
     unfold C5
     by_cases hlt4 : i < 4
     .have d6 : decide ((i : Int) < 4) = true := by simp; omega
      obtain ⟨k, m, hLi, hc1, hc2, hmn⟩ := cells i hlt4
      have hdrop : L4.drop i = (k, m) :: L4.drop (i + 1) := by
       rw [aL2 (aMo.1 hLi).1, (aMo.1 hLi).2]
      rw [hdrop] at hres hls
      rw [aME, List.sum_cons] at hls
      simp only at hls
      have od13 := kB (o_b.ext xd (by omega))
      have m1 := od13.cell (off := i)
      rw [hc1] at m1
      have t8' : ∀ {w' : aNX}, aW wd w' (fun y => y = p) -> (aL 122 (.pointer (some ⟨p8, 0, none⟩))).run pg w' = .ok (.value (.agg #[.int .i64 (pM (wC wl) : Nat), .slice (some ⟨b, 0, none⟩) (2 ^ pM (wC wl)) (2 ^ pM (wC wl))])) w' := fun x => by
       have := PK (off := 0) ((o8b.ext xd (by omega)).ext x (by omega)) (by simp)
       simp only [aLy, aLx, aLB] at this
       exact this
      have q1 := t8' (aW.dr wd _)
      have m2d := (kB (o10b.ext xd (by omega))).cell (off := i)
      rw [hc2] at m2d
      simp (disch := omega) only [aD, aR, d6, nT, aLs, aLt, jH, and_true, Result.ok.injEq, Next.value.injEq, bJ, aQ, aA, true_and, bO, q1, m1, aH, aG]
      refine (aF4 (n := k) (hrd4.ext (aW.dr wd eS) (fun _ _ _ h => h)) (by omega) (by omega)).mono ?_
      rintro r we ⟨hbs, _, hre, xe⟩
      have htk : Aw li 0 k = (li.take k, li.drop k, 0) := by unfold Aw; rw [if_neg (by simp), if_neg (by omega)]
      rw [htk] at hbs hre
      simp only at hbs hre
      have xde : aW wd we (fun y => y = p) := (aW.dr wd _).seq xe
      have zde := xde.size
      have q2 := t8' xde
      have m2 := ((o10b.ext xd (by omega)).ext xde (by omega)).cell (off := i)
      rw [hc2] at m2
      simp (disch := omega) only [q2, m2, aH, m2d, Result.ok.injEq, Next.value.injEq, and_true, aA, true_and]
      have hbs2 := hbs
      obtain ⟨sa, sn, sc, rfl, _, _⟩ := hbs2
      refine (aDh (base := 0) hF hm hC ⟨b, rfl, aNn _, (obb.ext xd (by omega)).ext xde (by omega)⟩ hbs (by rw [aLG]; omega) (by omega)).mono ?_
      rintro r wf ⟨hr, xf⟩
      have zf := xf.size
      have x0f : aW w wf eS := ((x0b.trans xd fun y hy h => by omega).trans xde fun y hy h => by omega).seq xf
      cases hs : rU (wC wl) (li.take k) m with
      | error e =>
        rw [hs] at hr
        obtain rfl : r = .tuple #[.slice none 0 0, .int .i64 e] := hr
        have n2 : (e != 0) = true := by have := XZ hs; simp; omega
        simp (disch := omega) only [pT, pS, aA, cY, n2, aG, true_and]
        exact err (by rw [hH, hres, aqZ, hs]) x0f
      | ok mm =>
        rw [hs] at hr
        obtain ⟨sv, rfl, osv⟩ := hr
        have hml := aqI hs
        have e2 : (i : Int) + 1 = ((i + 1 : Nat) : Int) := by omega
        simp (disch := omega) only [pT, pS, aA, cY, n1, aE, true_and]
        have osf := (os.ext xde (fun y hy h => by omega)).ext xf (fun _ _ h => h)
        refine mJ (m := mm.length) (news := u8n mm) osf osv.cl (fun y hy => by obtain ⟨z, _, rfl⟩ := aMD.1 hy; rfl) (by omega) (by omega) fun vg wg og xg => ?_
        have e3 : u8n acc ++ u8n mm = u8n (acc ++ mm) := by unfold u8n; rw [aLS]
        rw [e3, <- aLz] at og
        try simp (disch := omega) only [e2]
        refine ⟨4 - (i + 1), by omega, i + 1, acc ++ mm, li.drop k, vg, rfl, rfl, by omega, og, ?_, ?_, ?_, ?_, ?_, ?_⟩
        .exact (hre.ext xf (fun _ _ _ h => h)).ext xg (fun y _ hy h => by omega)
        .rw [hres, aqZ, hs]
        .rw [aLM]; omega
        .rw [aLM]; omega
        .rw [aLz]; omega
        .exact ((xd.seq xde).more xf).trans xg fun y hy h => by omega
     .have d6 : decide ((i : Int) < 4) = false := by simp; omega
      obtain rfl : i = 4 := by omega
      unfold DF
      simp (disch := omega) only [aD, aR, d6, jH, and_true, bJ, aQ, aA, true_and, aE]
      have hnil : L4.drop 4 = [] := by rw [hL4] <;> rfl
      rw [hnil] at hres
      have hfin : Jw wl l n = .ok acc := by rw [hH, hres]; simp [EM, XL]
      rw [hRR, hfin]
      exact ⟨⟨ov, rfl, Ax os (by omega)⟩, x0b.trans xd fun y hy h => by omega⟩
def Cw (w : aNX) (p : Nat) (S : Nat -> Prop) (l : List UInt8) : Prop := ¬ S p /\ ∃ v, eM w p [v] /\ OSS w S 1 v l.length (l.map tJ)
theorem Cw.ext {w w' : aNX} {p : Nat} {S M : Nat -> Prop} {l : List UInt8} (h : Cw w p S l) (x : aW w w' M) (hp : ¬ M p) (hM : ∀ b, S b -> ¬ M b) : Cw w' p S l := by
 obtain ⟨h0, v, h1, h2⟩ := h
 exact ⟨h0, v, h1.ext x hp, LV h2 x hM⟩
theorem Cw.lt {w : aNX} {p : Nat} {S : Nat -> Prop} {l : List UInt8} (h : Cw w p S l) : p < w.heap.size := by
 obtain ⟨_, v, h1, _⟩ := h; exact h1.lt
theorem Cw.turn {w : aNX} {p : Nat} {S T : Nat -> Prop} {l : List UInt8} (h : Cw w p S l) (hT : ∀ b, S b -> b < w.heap.size -> T b) (hp : ¬ T p) : Cw w p T l := by
 obtain ⟨h0, v, h1, h2, h3⟩ := h
 refine ⟨hp, v, h1, h2, ?_⟩
 rcases h3 with h3 | ⟨b, c, rest, g1, g2, g3, g4, g5⟩
 .exact .inl h3
 .exact .inr ⟨b, c, rest, g1, hT b g2 g3.lt, g3, g4, g5⟩
theorem St {w : aNX} {S : Nat -> Prop} {sz n : Nat} {v : aNY} {l : List aNY} (o3 : OSS w S sz v n l) : ∃ a c, v = .slice a n c := by
 rcases o3.2 with ⟨rfl, rfl⟩ | ⟨b, c, rest, rfl, _⟩
 .exact ⟨_, _, rfl⟩
 .exact ⟨_, _, rfl⟩
theorem aG5 {w : aNX} {S : Nat -> Prop} {n : Nat} {v : aNY} {l : List aNY} (o3 : OSS w S 1 v n l) : Sl w v l := by
 have : tE w 0 1 v n l := ⟨o3.1, by
  rcases o3.2 with h | ⟨b, c, rest, g1, g2, g3⟩
  .exact .inl h
  .exact .inr ⟨b, c, rest, g1, by omega, g3⟩⟩
 exact this.sl
theorem abW (w : aNX) : aS pg sQ #[] w (fun r w' => r = .pointer (some ⟨w.heap.size, 0, none⟩) /\ w.heap.size < w'.heap.size /\ Cw w' w.heap.size (fun b => w.heap.size < b) [] /\ aW w w' eS) := by
 refine VJ ?_
 unfold S3 CC
 simp (disch := omega) only [aD, iW, aA]
 refine nR fun w1 o1 x1 s1 => ?_
 simp only [Value.cells] at o1
 exact ⟨rfl, by omega, ⟨by omega, _, o1, ⟨rfl, .inl ⟨rfl, rfl⟩⟩⟩, x1⟩
theorem ayD {p : Nat} {S : Nat -> Prop} {l m : List UInt8} {v : aNY} {w : aNX} (h : Cw w p S l) (hS : ∀ b, w.heap.size <= b -> S b) (hv : Bs w v m) (hl : l.length + m.length <= 1000000000) :
 aS pg sF #[.pointer (some ⟨p, 0, none⟩), v] w (fun r w' => r = .tuple #[] /\ Cw w' p S (l ++ m) /\ aW w w' (fun y => y = p ∨ S y)) := by
 refine Q3 ?_
 unfold Mb zV
 obtain ⟨h0, v0, o, os⟩ := h
 obtain ⟨va, vc, rfl⟩ := St os
 have c0 := o.cell (off := 0)
 simp only [aLq, aLr] at c0
 have lp := o.lt
 simp (disch := omega) only [aD, gI, aLN, aLX, qW, true_and, aA, fS, eP, c0, aH, aG]
 have hcl := hv.cl
 rw [aLD] at hcl
 refine yY (m := m.length) (news := m.map tJ) (i := Tryz.t5) Tryz.underlying22 Tryz.underlying22 S0 rfl rfl rfl os hcl (azG _) (fun b hb => hS b hb) (by omega) (by rw [show Tryz.t5.bytes = 1 from rfl]; omega) (by decide) fun v3 w3 o3 x3 => ?_
 have op3 := o.ext x3 h0
 obtain ⟨a3, c3, rfl⟩ := St o3
 refine yX op3 rfl (by simp) fun w4 o4 x4 s4 => ?_
 simp only [aLw, aLv] at o4
 refine ⟨⟨h0, _, o4, ?_⟩, (x3.mono fun y _ h => .inr h).seq (x4.mono fun y _ h => .inl h)⟩
 have := LV o3 x4 (fun b hb h => h0 (h ▸ hb))
 rw [aLz, aLS]
 exact this
theorem Xm {p x n : Nat} {S : Nat -> Prop} {l : List UInt8} {w : aNX} (h : Cw w p S l) (hS : ∀ b, w.heap.size <= b -> S b) (hx : x < 2 ^ 64) (hn : 1 <= n /\ n <= 8) (hl : l.length <= 100000000) :
 aS pg lJ #[.pointer (some ⟨p, 0, none⟩), .int .u64 x, .int .i64 n] w (fun r w' => r = .tuple #[] /\ Cw w' p S (l ++ oR x n) /\ aW w w' (fun y => y = p ∨ S y)) := by
 refine P6 ?_
 unfold Jx yS yJ
 have d1 : decide ((n : Int) < 1) = false := by simp; omega
 have d2 : decide ((8 : Int) < (n : Int)) = false := by simp; omega
 simp (disch := omega) only [aD, fK, aLN, true_and, aA, cW, bF, aLu, if_false, bL, aR, d1, cX, d2, aE]
 unfold xS yO
 refine cR.rule (fun m (t : aNY) w' => ∃ i : Nat, m = n - i /\ t = .int .i64 i /\ i <= n /\ Cw w' p S (l ++ oR x i) /\ aW w w' (fun y => y = p ∨ S y)) n
  ⟨0, rfl, rfl, by omega, by rw [oR, aMd]; exact h, aW.refl _ _⟩ ?_
 rintro m t w1 ⟨i, rfl, rfl, hi, hw, x1⟩
 unfold tL
 by_cases hlt : i < n
 .have d3 : decide ((i : Int) < (n : Int)) = true := by simp; omega
  have e0 : ((8 : Int) * (i : Int)) = ((8 * i : Nat) : Int) := by omega
  have e1 : (x : Int).fdiv (2 ^ (min (8 * i) IntKind.u64.bits)) = ((x / 256 ^ i : Nat) : Int) := by
   rw [aEB]; exact X8 x (8 * i) (by omega)
  have e2 : IntKind.u8.wrap ((x / 256 ^ i : Nat) : Int) = (((UInt8.ofNat (x / 256 ^ i % 256)).toNat : Nat) : Int) := by
   rw [UInt8.toNat_ofNat']
   generalize x / 256 ^ i = y
   rw [show IntKind.u8.wrap (y : Int) = (y : Int) % 256 from rfl]
   omega
  obtain ⟨c, hc⟩ : ∃ c, c = UInt8.ofNat (x / 256 ^ i % 256) := ⟨_, rfl⟩
  rw [<- hc] at e2
  obtain ⟨h0, v0, o, os⟩ := hw
  obtain ⟨va, vc, rfl⟩ := St os
  have c0 := o.cell (off := 0)
  simp only [aLq, aLr] at c0
  have lp := o.lt
  have hsz := x1.size
  have hpl := jK i x
  rw [aLz, hpl] at os
  rw [aLz, hpl] at c0
  simp (disch := omega) only [aD, aR, d3, qW, oS, e0, aQ, bJ, aA, fS, fY, kV, sT, aLs, e1, iA, e2, eP, c0, aH, aG]
  refine pD (cells := #[.int .u8 c.toNat]) (by decide) (by decide) (by kernel_rfl) fun w2 o2 x2 s2 => ?_
  refine yY (m := 1) (news := [tJ c]) (i := Tryz.t5) Tryz.underlying22 Tryz.underlying22 S0 rfl rfl rfl (LV os x2 (fun _ _ h => h)) (o2.cl (off := 0) (l := [tJ c]) (n := 1) rfl (fun i hi => by rw [aLt] <;> rfl)) (by simp [one, tJ]) (fun b hb => hS b (by omega)) (by omega) (by rw [show Tryz.t5.bytes = 1 from rfl]; omega) (by decide) fun v3 w3 o3 x3 => ?_
  have x13 : aW w1 w3 S := (x2.mono fun _ _ h => h.elim).seq x3
  have op3 := o.ext x13 h0
  obtain ⟨a3, c3, rfl⟩ := St o3
  refine yX op3 rfl (by simp) fun w4 o4 x4 s4 => ?_
  simp only [aLw, aLv] at o4
  have x14 : aW w1 w4 (fun y => y = p ∨ S y) := (x13.mono fun y _ h => .inr h).seq (x4.mono fun y _ h => .inl h)
  refine ⟨n - (i + 1), by omega, i + 1, rfl, rfl, by omega, ⟨h0, _, o4, ?_⟩, x1.seq x14⟩
  have := LV o3 x4 (fun b hb h => h0 (h ▸ hb))
  rw [aA1, <- hc, <- aLV, aLS, aLz, aLz, jK]
  exact this
 .have d3 : decide ((i : Int) < (n : Int)) = false := by simp; omega
  obtain rfl : i = n := by omega
  simp (disch := omega) only [aD, aR, d3, qW, oS, aQ, bJ, aA, fS, fY, kV, sT, iA, eP, aE]
  exact ⟨hw, x1⟩
theorem axW {p : Nat} {S : Nat -> Prop} {l : List UInt8} {w : aNX} (h : Cw w p S l) (hl : l.length <= 1000000000) :
 aS pg rQ #[.pointer (some ⟨p, 0, none⟩)] w (fun r w' => tE w' w.heap.size 1 r l.length (l.map tJ) /\ aW w w' eS) := by
 refine Uh ?_
 unfold Qp BK
 obtain ⟨h0, v0, o, os⟩ := h
 obtain ⟨va, vc, rfl⟩ := St os
 have c0 := o.cell (off := 0)
 simp only [aLq, aLr] at c0
 simp (disch := omega) only [aD, fK, aLN, qW, aA, fS, eP, c0, aH, aE]
 exact I3 (aG5 os) hl
theorem aId {wl : List UInt8} (h : jF (cF wl) ≠ 0) : WrC (wC wl) := by
 obtain ⟨hF, hm, hC⟩ := WOk.full h
 refine ⟨hC, fun s e he => ?_⟩
 obtain ⟨h1, h2⟩ := hF.le s e.1 e.2 he
 exact ⟨by omega, fun h0 => aM4 (h2 h0) (aLC (by omega) (by omega))⟩
theorem aBT {wl : List UInt8} (h : jF (cF wl) ≠ 0) (s : Nat) : bitsOf (wC wl) s <= 11 := by
 unfold bitsOf
 rw [aLE]
 cases he : (wC wl)[s]? with
 | none => simp
 | some e => exact ((aId h).2 s e he).1
theorem aBg {wl l bytes : List UInt8} (h : jF (cF wl) ≠ 0) (hall : ∀ s ∈ cF l, 0 < bitsOf (wC wl) s) (hb : auB (SR (wC wl) (cF l) ++ [true]) bytes) : rU (wC wl) bytes l.length = .ok (cF l) := by
 obtain ⟨hF, hm, hC⟩ := WOk.full h
 obtain ⟨h1, h2⟩ := aHw hb
 have h3 := aFD hF (T := aZ bytes) hall h2
 rw [kC] at h3
 unfold rU
 rw [h1]
 simp only
 rw [h3]
 simp
theorem aG4 {wl l bytes : List UInt8} (h : jF (cF wl) ≠ 0) (hb : auB (SR (wC wl) (cF l) ++ [true]) bytes) : bytes.length <= (11 * l.length + 8) / 8 := by
 have h1 := tG (aBT h) (cF l)
 rw [kC] at h1
 rw [hb.len, aLz, aMj]
 omega
def aJ0 (w : aNX) (base : Nat) (wl l : List UInt8) (back : List UInt8 -> Except Int (List Nat)) (lim : Nat) (bad : Prop) (r : aNY) : Prop :=
 ((jF (cF wl) = 0 ∨ bad ∨ ∃ s ∈ cF l, bitsOf (wC wl) s = 0) /\ r = .tuple #[.slice none 0 0, .int .i64 1]) ∨
 (jF (cF wl) ≠ 0 /\ (∀ s ∈ cF l, 0 < bitsOf (wC wl) s) /\ ∃ v bytes, r = .tuple #[v, .int .i64 0] /\ Bs w v bytes /\ AtI v base w.heap.size /\ bytes.length <= lim /\ back bytes = .ok (cF l))
theorem aDn {lv sv : aNY} {wl l : List UInt8} {w : aNX} (hw : Bs w lv wl) (hwl : wl.length <= 100000) (h : Bs w sv l) (hl : l.length <= 131072) :
 aS pg Jb #[lv, sv] w (fun r w' => aJ0 w' w.heap.size wl l (fun b => Vk wl b l.length) ((11 * l.length + 8) / 8) False r /\ aW w w' eS) := by
 refine anG ?_
 unfold asF O6
 by_cases hd : jF (cF wl) = 0
 .refine (anA hw hwl hd).mono ?_
  rintro r w1 ⟨rfl, rfl⟩
  have n0 : ((1 : Int) != 0) = true := rfl
  simp (disch := omega) only [aD, pT, pS, aA, cY, n0, aG]
  exact ⟨.inl ⟨.inl hd, rfl⟩, aW.refl _ _⟩
 .refine (aCf hw rfl hd).mono ?_
  rintro r w1 ⟨b, rfl, hb, ob, x1⟩
  have n0 : ((0 : Int) != 0) = false := rfl
  have h1 := h.ext x1 (bY _)
  have hv := h1
  obtain ⟨a, c, rfl, hc⟩ := h1.len
  rw [aLD] at hv ⊢
  have d1 : decide ((l.length : Int) > 131072) = false := decide_eq_false (by omega)
  have d2 : decide ((131072 : Int) < (l.length : Int)) = false := decide_eq_false (by omega)
  simp (disch := omega) only [aD, pT, pS, aP, aA, cX, d1, aE, cY, n0]
  have hcl : wl.length = (wC wl).length := by rw [uO, kC]
  rw [hcl]
  refine (aCA ob hv (aId hd) (by omega)).mono ?_
  rintro r w2 ⟨he, x2⟩
  have z1 := x1.size
  rcases he with ⟨hbad, rfl⟩ | ⟨hall, v, bytes, rfl, hbs, hheld, hat⟩
  .simp (disch := omega) only [pT, pS, aA]
   exact ⟨.inl ⟨.inr (.inr hbad), rfl⟩, x1.seq x2⟩
  .simp (disch := omega) only [pT, pS, aA]
   refine ⟨.inr ⟨hd, hall, _, bytes, rfl, hbs, fun M hM => hat M fun y h1 h2 => hM y (by omega) h2, aG4 hd hheld, ?_⟩, x1.seq x2⟩
   show Vk wl bytes l.length = _
   unfold Vk
   rw [if_neg hd]
   exact aBg hd hall hheld
def sg (l : List UInt8) (q i : Nat) : List UInt8 := if i < 3 then (l.drop (i * q)).take q else l.drop (3 * q)
theorem Xd {l : List UInt8} {q i : Nat} (h : 3 * q <= l.length) : (sg l q i).length = if i < 3 then q else l.length - 3 * q := by
 unfold sg
 split
 .rename_i hi
  have : i * q <= 2 * q := aLY q (by omega)
  rw [aLG, aLM]; omega
 .rw [aLM]
theorem aH7 {l : List UInt8} {q : Nat} : sg l q 0 ++ (sg l q 1 ++ (sg l q 2 ++ sg l q 3)) = l := by
 unfold sg
 simp only [show (0 : Nat) < 3 from by omega, show (1 : Nat) < 3 from by omega, show (2 : Nat) < 3 from by omega, if_true, Nat.lt_irrefl, if_false, aNU, aNF, aLy]
 have e2 : l.drop (3 * q) = (l.drop (2 * q)).drop q := by rw [aNo]; congr 1; omega
 have e1 : l.drop (2 * q) = (l.drop q).drop q := by rw [aNo]; congr 1; omega
 rw [e2, aNa, e1, aNa, aNa]
def szs (P : List (List UInt8)) : List UInt8 := (P.take 3).flatMap fun s => oR s.length 2
theorem XV {x n : Nat} {r : List UInt8} : (oR x n ++ r).drop n = r := aNK (jK n x)
theorem aoC {x n : Nat} {r : List UInt8} : (oR x n ++ r).take n = oR x n := aNu (jK n x)
theorem aFH {wl l a b c d : List UInt8} (h : jF (cF wl) ≠ 0) (hq : 3 * ((l.length + 3) / 4) <= l.length) (hl : l.length <= 131072)
 (ha : rU (wC wl) a (sg l ((l.length + 3) / 4) 0).length = .ok (cF (sg l ((l.length + 3) / 4) 0))) (hb : rU (wC wl) b (sg l ((l.length + 3) / 4) 1).length = .ok (cF (sg l ((l.length + 3) / 4) 1)))
 (hc : rU (wC wl) c (sg l ((l.length + 3) / 4) 2).length = .ok (cF (sg l ((l.length + 3) / 4) 2))) (hd : rU (wC wl) d (sg l ((l.length + 3) / 4) 3).length = .ok (cF (sg l ((l.length + 3) / 4) 3)))
 (la : a.length < 65536) (lb : b.length < 65536) (lc : c.length < 65536) :
 Jw wl (szs [a, b, c, d] ++ (a ++ (b ++ (c ++ d)))) l.length = .ok (cF l) := by
 have hs : szs [a, b, c, d] = oR a.length 2 ++ (oR b.length 2 ++ oR c.length 2) := by unfold szs; simp
 generalize hq' : (l.length + 3) / 4 = q at *
 have l0 := Xd (i := 0) hq
 have l1 := Xd (i := 1) hq
 have l2 := Xd (i := 2) hq
 have l3 := Xd (i := 3) hq
 simp only [show (0 : Nat) < 3 from by omega, show (1 : Nat) < 3 from by omega, show (2 : Nat) < 3 from by omega, if_true, Nat.lt_irrefl, if_false] at l0 l1 l2 l3
 rw [l0] at ha
 rw [l1] at hb
 rw [l2] at hc
 rw [l3] at hd
 rw [hs, aLV, aLV]
 generalize hY : a ++ (b ++ (c ++ d)) = Y
 have hYl : Y.length = a.length + (b.length + (c.length + d.length)) := by rw [<- hY]; simp
 have d2 : (oR a.length 2 ++ (oR b.length 2 ++ (oR c.length 2 ++ Y))).drop 2 = oR b.length 2 ++ (oR c.length 2 ++ Y) := XV
 have d4 : (oR a.length 2 ++ (oR b.length 2 ++ (oR c.length 2 ++ Y))).drop 4 = oR c.length 2 ++ Y := by
  rw [show 4 = 2 + 2 from rfl, <- aNo, d2]; exact XV
 have d6 : (oR a.length 2 ++ (oR b.length 2 ++ (oR c.length 2 ++ Y))).drop 6 = Y := by
  rw [show 6 = 4 + 2 from rfl, <- aNo, d4]; exact XV
 have hlen : (oR a.length 2 ++ (oR b.length 2 ++ (oR c.length 2 ++ Y))).length = 6 + Y.length := by simp [jK]; omega
 have nm : ∀ x, x < 65536 -> sD (oR x 2) = x := fun x hx => by rw [X1]; exact aL5 hx
 have eA : nA (oR a.length 2 ++ (oR b.length 2 ++ (oR c.length 2 ++ Y))) = a.length := by unfold nA; rw [aoC, nm _ la]
 have eB : nB (oR a.length 2 ++ (oR b.length 2 ++ (oR c.length 2 ++ Y))) = b.length := by unfold nB; rw [d2, aoC, nm _ lb]
 have eC : nC (oR a.length 2 ++ (oR b.length 2 ++ (oR c.length 2 ++ Y))) = c.length := by unfold nC; rw [d4, aoC, nm _ lc]
 unfold Jw
 rw [if_neg h, hq', if_neg (by omega), if_neg (by rw [hlen]; omega), d6, eA, eB, eC, if_neg (by omega)]
 have ed : Y.length - (a.length + b.length + c.length) = d.length := by omega
 rw [ed, <- hY, EM, aNu rfl, ha]
 simp only
 rw [aNK rfl, EM, aNu rfl, hb]
 simp only
 rw [aNK rfl, EM, aNu rfl, hc]
 simp only
 rw [aNK rfl, EM, aL0 (aLF _), hd]
 simp only [EM, aMd]
 have := aH7 (l := l) (q := q)
 conv => rhs; rw [<- this]
 simp only [cF, aLS]
theorem aIy {l : List UInt8} {q i : Nat} (hi : i < 4) (hq : 3 * q <= l.length) : (l.drop (i * q)).take (if i < 3 then q else l.length - 3 * q) = sg l q i /\
 (l.drop (i * q)).drop (if i < 3 then q else l.length - 3 * q) = if i < 3 then l.drop ((i + 1) * q) else [] := by
 unfold sg
 by_cases h : i < 3
 .simp only [if_pos h]
  refine ⟨trivial, ?_⟩
  rw [aNo]; congr 1; rw [aMi]; omega
 .simp only [if_neg h]
  obtain rfl : i = 3 := by omega
  refine ⟨aL0 (by rw [aLM]; omega), aNS (by rw [aLM]; omega)⟩
structure aIj (W : aNX) (p n0 : Nat) (C : List (Nat × Nat)) (l : List UInt8) (q : Nat) (av : aNY) (P : List (List UInt8)) (SA SW : Nat -> Prop) : Prop where
 a0 : ∀ b, SA b -> n0 <= b /\ b ≠ p /\ ¬ SW b
 aw : ∀ b, SA b -> b < W.heap.size
 s0 : ∀ b, SW b -> n0 <= b /\ b < W.heap.size
 al : OSS W SA 1 av P.flatten.length (P.flatten.map tJ)
 wr : Cw W p SW (szs P)
 held : ∀ j s, P[j]? = some s -> auB (SR C (cF (sg l q j)) ++ [true]) s
 all : ∀ j, j < P.length -> ∀ s ∈ cF (sg l q j), 0 < bitsOf C s
theorem aCp {P : List (List UInt8)} {s : List UInt8} : szs (P ++ [s]) = if P.length < 3 then szs P ++ oR s.length 2 else szs P := by
 unfold szs
 by_cases h : P.length < 3
 .rw [if_pos h, aL0 (by simp; omega), aL0 (by omega), List.flatMap_append]; simp
 .rw [if_neg h, aMN (by omega)]
theorem aBI (P : List (List UInt8)) : (szs P).length <= 6 := by
 have : ∀ Q : List (List UInt8), (Q.flatMap fun s => oR s.length 2).length = 2 * Q.length := by
  intro Q
  induction Q with
  | nil => rfl
  | cons s Q ih => rw [List.flatMap_cons, aLz, ih, jK, aLP]; omega
 unfold szs
 rw [this, aLG]; omega
theorem aFl {w : aNX} {S T : Nat -> Prop} {sz n : Nat} {v : aNY} {l : List aNY} (h : OSS w S sz v n l) (hT : ∀ b, S b -> b < w.heap.size -> T b) : OSS w T sz v n l := by
 refine ⟨h.1, ?_⟩
 rcases h.2 with h2 | ⟨b, c, rest, e, hb, o, hc, hn⟩
 .exact .inl h2
 .exact .inr ⟨b, c, rest, e, hT b hb o.lt, o, hc, hn⟩
theorem aqU {a : Option Addr} {n c m c' k : Nat} {M : Nat -> Prop} (h : ¬ inB (.slice a n c) M) (hm : m <= n) : ¬ inB (.slice (mZ a c k 1) m c') M := by
 have := AtS.sub (a := a) (n := n) (c := c) (m := m) (c' := c') (k := k) (mx := c) (sz := 1) (S := fun y => ¬ M y) (fun N hN hh => h (amC hh fun b hb => Classical.byContradiction fun hm => hN b hm hb)) hm
 exact this M fun b hb => hb
theorem aGs {RR : aNY -> aNX -> Prop} {l : List UInt8} {q b p n0 : Nat} {C : List (Nat × Nat)} {sv : aNY} {w0 : aNX} (hC : WrC C) (ho : eM w0 b (cc C)) (hs : Bs w0 sv l) (hq : 3 * q <= l.length) (hq2 : l.length <= 4 * q) (hq3 : q <= 32768) (hl : l.length <= 131072)
 (hn0 : n0 <= w0.heap.size) (hp : n0 <= p) (hb : b < n0) (hsv : ¬ inB sv (fun y => n0 <= y)) {SW0 : Nat -> Prop} (hw : Cw w0 p SW0 []) (hSW : ∀ y, SW0 y -> n0 <= y /\ y < w0.heap.size)
 (hbad : ∀ W, (∃ s ∈ cF l, bitsOf C s = 0) -> aW w0 W (fun y => n0 <= y) -> RR (.tuple #[.slice none 0 0, .int .i64 1]) W)
 (hok : ∀ W v P, P.length = 4 -> (∀ j s, P[j]? = some s -> auB (SR C (cF (sg l q j)) ++ [true]) s) -> (∀ s ∈ cF l, 0 < bitsOf C s) -> Bs W v (szs P ++ P.flatten) -> AtI v w0.heap.size W.heap.size -> aW w0 W (fun y => n0 <= y) -> RR (.tuple #[v, .int .i64 0]) W) :
 Cd (fun sC jI w => Ab RR sC jI w) RR sv (.slice (some ⟨b, 0, none⟩) C.length C.length) (.pointer (some ⟨p, 0, none⟩)) (.slice none 0 0)
  (.agg #[.int .i64 (q : Nat), .int .i64 (q : Nat), .int .i64 (q : Nat), .int .i64 ((l.length : Int) - 3 * (q : Int))]) (.int .i64 0) w0 := by
 unfold Cd HD
 have hbits : ∀ s, bitsOf C s <= 11 := fun s => by
  unfold bitsOf
  rw [aLE]
  cases h : C[s]? with
  | none => simp
  | some e => exact (hC.2 s e h).1
 refine cR.rule (fun m (t : aNY × aNY × aNY) W => ∃ (i : Nat) (sv' av : aNY) (P : List (List UInt8)) (SA SW : Nat -> Prop), m = 4 - i /\ t = (sv', av, .int .i64 i) /\ i <= 4 /\ P.length = i /\ (i < 4 -> Bs W sv' (l.drop (i * q)) /\ ¬ inB sv' (fun y => n0 <= y)) /\
  aIj W p n0 C l q av P SA SW /\ aW w0 W (fun y => n0 <= y)) 4
  ⟨0, sv, .slice none 0 0, [], fun _ => False, SW0, rfl, rfl, by omega, rfl, fun _ => ⟨by rw [aNU]; exact hs, hsv⟩, ⟨fun _ h => h.elim, fun _ h => h.elim, hSW, ⟨rfl, .inl ⟨rfl, rfl⟩⟩, hw, fun j s h => by simp at h, fun j h => by simp at h⟩, aW.refl _ _⟩ ?_
 rintro m t W ⟨i, sv', av, P, SA, SW, rfl, rfl, hi, hPl, hsv', hE, hx⟩
 obtain ⟨hA0, hAw, hS0, hal, hwr, hheld, hall⟩ := hE
 have zW := hx.size
 unfold Dy KA
 have hpW := hwr.lt
 have hal2 := hal
 obtain ⟨aa, ac, rfl⟩ := St hal
 have hfl : P.flatten.length <= 262144 := by
  have key : ∀ (Q : List (List UInt8)), (∀ s ∈ Q, s.length <= 65536) -> Q.flatten.length <= 65536 * Q.length := by
   intro Q
   induction Q with
   | nil => intro _; simp
   | cons s Q ih =>
     intro h
     have h1 := h s (aM5 ..)
     have h2 := ih fun t ht => h t (aLQ _ ht)
     rw [aNj, aLz, aLP]; omega
  have := key P fun s hs => by
   obtain ⟨j, hj⟩ := List.getElem?_of_mem hs
   have h1 := hheld j s hj
   have h2 := tG hbits (cF (sg l q j))
   have h3 : (sg l q j).length <= 32768 := by rw [Xd hq]; split <;> omega
   rw [kC] at h2
   rw [h1.len, aLz, aMj]
   omega
  omega
 by_cases hlt : i < 4
 .have d1 : decide ((i : Int) < 4) = true := decide_eq_true (by omega)
  obtain ⟨hsb, hin⟩ := hsv' hlt
  obtain ⟨z, hz⟩ : ∃ z, z = if i < 3 then q else l.length - 3 * q := ⟨_, rfl⟩
  obtain ⟨hsg, hsd⟩ := aIy hlt hq
  rw [<- hz] at hsg hsd
  have hsl := Xd (i := i) hq
  rw [<- hz] at hsl
  have hzq : z <= 32768 := by rw [hz]; split <;> omega
  have hiq : i * q <= 3 * q := aLY q (by omega)
  have hzl : z <= (l.drop (i * q)).length := by
   rw [aLM, hz]
   split
   .have : i * q <= 2 * q := aLY q (by omega)
    omega
   .omega
  have hix : (#[.int .i64 (q : Nat), .int .i64 (q : Nat), .int .i64 (q : Nat), .int .i64 ((l.length : Int) - 3 * (q : Int))] : Array aNY)[i]? = some (.int .i64 (z : Nat)) := by
   rcases (show i = 0 ∨ i = 1 ∨ i = 2 ∨ i = 3 by omega) with rfl | rfl | rfl | rfl
   .rw [hz] <;> rfl
   .rw [hz] <;> rfl
   .rw [hz] <;> rfl
   .rw [hz]
    have : ((l.length : Int) - 3 * (q : Int)) = ((l.length - 3 * q : Nat) : Int) := by omega
    simp [this]
  have hv := hsb
  obtain ⟨a, c, rfl, hc⟩ := hsb.len
  rw [aLD] at hv hc hin
  generalize hn : (l.drop (i * q)).length = n at *
  unfold JT LF UR LI
  simp (disch := omega) only [aD, aR, d1, jX, aLs, hix, aH, aLD, hn, aA, jD, eF, aG]
  have hseg : Bs W (.slice (mZ a c 0 1) (z - 0) (c - 0)) (sg l q i) := by
   have := Sl.take' hv (k := z) hzl
   rw [<- aNi, hsg] at this
   exact this
  refine (aCA (ho.ext hx (by omega)) hseg hC (by rw [hsl]; omega)).mono ?_
  rintro r W1 ⟨he, x1⟩
  have z1 := x1.size
  have y1 : aW w0 W1 (fun y => n0 <= y) := hx.trans x1 fun _ _ h => h.elim
  rcases he with ⟨⟨s, hs1, hs2⟩, rfl⟩ | ⟨hal1, v, bytes, rfl, hbs, hheld1, hat⟩
  .have n1 : ((1 : Int) != 0) = true := rfl
   simp (disch := omega) only [pT, pS, aA, cY, n1, aG]
   refine hbad W1 ⟨s, ?_, hs2⟩ y1
   have hsub : ∀ x ∈ sg l q i, x ∈ l := fun x hx => by
    unfold sg at hx
    split at hx
    .exact aND (aMS hx)
    .exact aND hx
   obtain ⟨x, hx1, hx2⟩ := aMD.1 hs1
   exact aMD.2 ⟨x, hsub x hx1, hx2⟩
  .have n1 : ((0 : Int) != 0) = false := rfl
   have hbl : bytes.length < 65536 := by
    have h1 := tG hbits (cF (sg l q i))
    rw [kC, hsl] at h1
    rw [hheld1.len, aLz, aMj]
    omega
   have hbv := hbs
   obtain ⟨a2, c2, rfl, hc2⟩ := hbs.len
   rw [aLD] at hbv hat
   have e1 : (i : Int) + 1 = ((i + 1 : Nat) : Int) := by omega
   have hszl := aBI P
   have fin : ∀ (W2 : aNX) (SW2 : Nat -> Prop), Cw W2 p SW2 (szs (P ++ [bytes])) -> aW W1 W2 (fun y => y = p ∨ SW y ∨ W1.heap.size <= y) -> (∀ y, SW2 y -> (SW y ∨ W1.heap.size <= y) /\ y < W2.heap.size) →
       aD pg (lI .append #[22, 22] 22 [.slice aa P.flatten.length ac, .slice a2 bytes.length c2]) W2 fun t69 w =>
        aD pg (aI .add 3 aM aM (.int .i64 i) (.int .i64 1)) w fun t70 w =>
         ∃ m, m < 4 - i /\ ∃ (i' : Nat) (sv' av : aNY) (P : List (List UInt8)) (SA SW : Nat -> Prop), m = 4 - i' /\ ((.slice (mZ a c z 1) (n - z) (c - z) : aNY), t69, t70) = (sv', av, .int .i64 i') /\ i' <= 4 /\ P.length = i' /\ (i' < 4 -> Bs w sv' (l.drop (i' * q)) /\ ¬ inB sv' (fun y => n0 <= y)) /\
           aIj w p n0 C l q av P SA SW /\ aW w0 w (fun y => n0 <= y) := by
    intro W2 SW2 hw2 x2 hS2
    have z2 := x2.size
    have hbs2 : Bs W2 (.slice a2 bytes.length c2) bytes := hbv.ext x2 (hat _ fun y h1 h2 h3 => by
     rcases h3 with h3 | h3 | h3
     .omega
     .have := (hS0 y h3).2; omega
     .omega)
    have hcl := hbs2.cl
    rw [aLD] at hcl
    have hal3 : OSS W2 (fun y => SA y ∨ W2.heap.size <= y) 1 (.slice aa P.flatten.length ac) P.flatten.length (P.flatten.map tJ) := by
     refine aFl (LV (LV hal2 x1 (fun _ _ h => h)) x2 fun y hy h3 => ?_) fun y hy _ => .inl hy
     have h4 := hA0 y hy
     have h5 := hAw y hy
     rcases h3 with h3 | h3 | h3
     .exact h4.2.1 h3
     .exact h4.2.2 h3
     .omega
    refine yY (m := bytes.length) (news := bytes.map tJ) (i := Tryz.t5) Tryz.underlying22 Tryz.underlying22 S0 rfl rfl rfl hal3 hcl (azG _) (fun y hy => .inr hy) (by omega) (by rw [show Tryz.t5.bytes = 1 from rfl]; omega) (by decide) fun v3 W3 o3 x3 => ?_
    have z3 := x3.size
    simp (disch := omega) only [aD, bJ, e1, aQ, aA]
    have y3 : aW w0 W3 (fun y => n0 <= y) := (y1.trans x2 fun y _ h => by
     rcases h with h | h | h
     .omega
     .exact (hS0 y h).1
     .omega).trans x3 fun y _ h => by
     rcases h with h | h
     .exact (hA0 y h).1
     .omega
    refine ⟨4 - (i + 1), by omega, i + 1, _, v3, P ++ [bytes], fun y => (SA y ∨ W2.heap.size <= y) /\ y < W3.heap.size, SW2, rfl, rfl, by omega, by rw [aLz, aMj, hPl], ?_, ⟨?_, fun y hy => hy.2, fun y hy => ?_, ?_, ?_, ?_, ?_⟩, y3⟩
    .intro hi4
     have hlt3 : i < 3 := by omega
     rw [if_pos hlt3] at hsd
     refine ⟨?_, aqU hin (by omega)⟩
     have := Sl.drop' hv (k := z) hzl
     rw [<- aNc, hsd] at this
     refine Sl.ext (Sl.ext (Sl.ext this x1 (bY _)) x2 ?_) x3 ?_
     .exact fun h => aqU hin (by omega) (amC h fun y hy => by
       rcases hy with hy | hy | hy
       .omega
       .exact (hS0 y hy).1
       .omega)
     .exact fun h => aqU hin (by omega) (amC h fun y hy => by
       rcases hy with hy | hy
       .exact (hA0 y hy).1
       .omega)
    .rintro y ⟨hy | hy, hy2⟩
     .have h4 := hA0 y hy
      refine ⟨h4.1, h4.2.1, fun h => ?_⟩
      have h5 := hAw y hy
      rcases (hS2 y h).1 with h6 | h6
      .exact h4.2.2 h6
      .omega
     .refine ⟨by omega, fun h => ?_, fun h => ?_⟩
      .have := hw2.lt; omega
      .have := (hS2 y h).2; omega
    .obtain ⟨h1, h2⟩ := hS2 y hy
     refine ⟨?_, by omega⟩
     rcases h1 with h1 | h1
     .exact (hS0 y h1).1
     .omega
    .rw [List.flatten_append, List.flatten_singleton, aLz, aLS]
     exact aFl o3 fun y hy h => ⟨hy, h⟩
    .refine hw2.ext x3 (fun h => ?_) fun y hy h => ?_
     .rcases h with h | h
      .exact (hA0 p h).2.1 rfl
      .have := hw2.lt; omega
     .obtain ⟨h1, h2⟩ := hS2 y hy
      rcases h with h | h
      .rcases h1 with h1 | h1
       .exact (hA0 y h).2.2 h1
       .have := hAw y h; omega
      .omega
    .intro j s hj
     rcases aLO j P.length with hjl | hjl
     .rw [aLR hjl] at hj; exact hheld j s hj
     .rw [aMx hjl] at hj
      have : j - P.length = 0 := by
       rcases aMO (j - P.length) with h | h
       .exact h
       .rw [aLH (by simp; omega)] at hj; cases hj
      rw [this] at hj
      obtain rfl : bytes = s := by simpa using hj
      obtain rfl : j = i := by omega
      exact hheld1
    .intro j hj s hs
     rw [aLz, aMj] at hj
     rcases aLO j P.length with hjl | hjl
     .exact hall j hjl s hs
     .obtain rfl : j = i := by omega
      exact hal1 s hs
   have hwr1 : Cw W1 p (fun y => SW y ∨ W1.heap.size <= y) (szs P) := (hwr.ext x1 (fun h => h) (fun _ _ h => h)).turn (fun y hy _ => .inl hy) (fun h => by
    rcases h with h | h
    .exact hwr.1 h
    .omega)
   by_cases hi3 : i < 3
   .have d3 : decide ((i : Int) < 3) = true := decide_eq_true (by omega)
    have d4 : decide ((65536 : Int) <= (bytes.length : Int)) = false := decide_eq_false (by omega)
    have d5 : decide ((bytes.length : Int) ≥ 65536) = false := decide_eq_false (by omega)
    simp (disch := omega) only [aLD, pT, pS, d3, aG, aA, cY, n1, aE, aP, fT, kV, nJ, d4]
    refine (Xm (x := bytes.length) (n := 2) hwr1 (fun y hy => .inr hy) (by omega) (by omega) (by omega)).mono ?_
    rintro r W2 ⟨rfl, hw2, x2⟩
    unfold Ad Al
    have hsz : szs (P ++ [bytes]) = szs P ++ oR bytes.length 2 := by rw [aCp, if_pos (by omega)]
    rw [<- hsz] at hw2
    exact fin W2 (fun y => (SW y ∨ W1.heap.size <= y) /\ y < W2.heap.size) (hw2.turn (fun y hy h => ⟨hy, h⟩) (fun h => hw2.1 h.1)) x2 (fun y hy => hy)
   .have d3 : decide ((i : Int) < 3) = false := decide_eq_false (by omega)
    simp (disch := omega) only [aLD, pT, pS, d3, aE, aA, cY, n1]
    unfold Ad Al
    have hsz : szs (P ++ [bytes]) = szs P := by rw [aCp, if_neg (by omega)]
    rw [<- hsz] at hwr1
    exact fin W1 (fun y => (SW y ∨ W1.heap.size <= y) /\ y < W1.heap.size) (hwr1.turn (fun y hy h => ⟨hy, h⟩) (fun h => hwr1.1 h.1)) (aW.refl _ _) (fun y hy => hy)
 .have d1 : decide ((i : Int) < 4) = false := decide_eq_false (by omega)
  obtain rfl : i = 4 := by omega
  simp (disch := omega) only [aD, aR, d1, aA, aE]
  unfold Ab
  have hwr1 : Cw W p (fun y => SW y ∨ W.heap.size <= y) (szs P) := hwr.turn (fun y hy _ => .inl hy) (fun h => by
   rcases h with h | h
   .exact hwr.1 h
   .omega)
  have hszl := aBI P
  refine (ayD hwr1 (fun y hy => .inr hy) (aG5 hal2) (by omega)).mono ?_
  rintro r W2 ⟨rfl, hw2, x2⟩
  refine (axW hw2 (by rw [aLz]; omega)).mono ?_
  rintro r W3 ⟨o3, x3⟩
  have z2 := x2.size
  have hat := tE.atI o3
  obtain ⟨a3, c3, rfl⟩ := o3.len
  refine hok W3 _ P hPl hheld ?_ o3.sl (fun M hM => hat M fun y h1 h2 => hM y (by omega) h2) ((hx.trans x2 fun y _ h => ?_).trans x3 fun _ _ h => h.elim)
  .intro s hs
   have hall' : ∀ j, j < 4 -> ∀ s ∈ cF (sg l q j), 0 < bitsOf C s := fun j hj => hall j (by omega)
   have := aH7 (l := l) (q := q)
   rw [<- this] at hs
   simp only [cF, aLS, aMb] at hs
   rcases hs with hs | hs | hs | hs
   .exact hall' 0 (by omega) s hs
   .exact hall' 1 (by omega) s hs
   .exact hall' 2 (by omega) s hs
   .exact hall' 3 (by omega) s hs
  .rcases h with h | h | h
   .omega
   .exact (hS0 y h).1
   .omega
theorem aB8 {lv sv : aNY} {wl l : List UInt8} {w : aNX} (hw : Bs w lv wl) (hwl : wl.length <= 100000) (h : Bs w sv l) (hl : l.length <= 131072) :
 aS pg FV #[lv, sv] w (fun r w' => aJ0 w' w.heap.size wl l (fun b => Jw wl b l.length) (11 * l.length / 8 + 12) (l.length < 3 * ((l.length + 3) / 4)) r /\ aW w w' eS) := by
 refine afW ?_
 unfold aiL H0 HU
 by_cases hd : jF (cF wl) = 0
 .refine (anA hw hwl hd).mono ?_
  rintro r w1 ⟨rfl, rfl⟩
  have n0 : ((1 : Int) != 0) = true := rfl
  simp (disch := omega) only [aD, pT, pS, aA, cY, n0, aG]
  exact ⟨.inl ⟨.inl hd, rfl⟩, aW.refl _ _⟩
 .refine (aCf hw rfl hd).mono ?_
  rintro r w1 ⟨b, rfl, hb, ob, x1⟩
  have n0 : ((0 : Int) != 0) = false := rfl
  have h1 := h.ext x1 (bY _)
  have hv := h1
  obtain ⟨a, c, rfl, hc⟩ := h1.len
  rw [aLD] at hv ⊢
  obtain ⟨q, hq⟩ : ∃ q, q = (l.length + 3) / 4 := ⟨_, rfl⟩
  simp (disch := omega) only [aD, pT, pS, aP, aA, cY, n0, aE]
  refine (aDi hl hq w1).mono ?_
  rintro r w2 ⟨rfl, x2⟩
  simp (disch := omega) only [pT, pS, aA, pL, bF]
  refine Ul fun w3 o3 x3 s3 => ?_
  refine XK o3 rfl (by simp [one]) (by simp) fun w4 o4 x4 s4 => ?_
  simp only [bM, aLw, aLv] at o4
  have x14 : aW w1 w4 eS := (x2.seq x3).trans x4 fun y hy h => by have := x2.size; omega
  have z1 := x1.size
  have z2 := x2.size
  have z14 := x14.size
  by_cases hbad : l.length < 3 * q
  .have d1 : decide (3 * (q : Int) <= (l.length : Int)) = false := decide_eq_false (by omega)
   simp (disch := omega) only [d1, aLX, iT, if_true, aG, cV]
   exact ⟨.inl ⟨.inr (.inl (by rw [<- hq]; exact hbad)), rfl⟩, x1.seq x14⟩
  .have d1 : decide (3 * (q : Int) <= (l.length : Int)) = true := decide_eq_true (by omega)
   have d2 : decide ((l.length : Int) > 131072) = false := decide_eq_false (by omega)
   have d3 : decide ((131072 : Int) < (l.length : Int)) = false := decide_eq_false (by omega)
   simp (disch := omega) only [d1, aLL, cW, aLu, if_false, bL, aP, aA, cX, d2, aE]
   refine (abW w4).mono ?_
   rintro r w5 ⟨rfl, hlt5, hw5, x5⟩
   have z5 := x5.size
   unfold Ie Il Ii
   have q1 := aDH (off := 0) (o4.ext x5 (fun h => h)) (by simp)
   simp only [aLy, aLx, aLB] at q1
   simp (disch := omega) only [aD, q1, aA]
   have x15 : aW w1 w5 eS := x14.seq x5
   have hlc : wl.length = (wC wl).length := by rw [uO, kC]
   rw [hlc]
   have hb1 := ob.lt
   refine aGs (b := b) (n0 := w4.heap.size) (q := q) (aId hd) (ob.ext x15 (fun h => h)) (hv.ext x15 (bY _)) (by omega) (by omega) (by omega) hl z5 (aLF _) (by omega) ?_ (SW0 := fun y => w4.heap.size < y /\ y < w5.heap.size) ?_ (fun y hy => ⟨by omega, hy.2⟩) ?_ ?_
   .exact fun hh => (hv.ext x14 (bY _)).old hh
   .exact hw5.turn (fun y hy h => ⟨hy, h⟩) (fun h => by omega)
   .intro W hbd x6
    exact ⟨.inl ⟨.inr (.inr hbd), rfl⟩, ((x1.seq x15).trans x6 fun y hy h => by omega)⟩
   .intro W v P hP hheld hall hbs hat x6
    have z6 := x6.size
    refine ⟨.inr ⟨hd, hall, v, _, rfl, hbs, fun M hM => hat M fun y h1 h2 => hM y (by omega) h2, ?_, ?_⟩, (x1.seq x15).trans x6 fun y hy h => by omega⟩
    .have hP4 : ∀ (j : Nat) (s : List UInt8), P[j]? = some s -> 8 * s.length <= 11 * (if j < 3 then q else l.length - 3 * q) + 8 := fun j s hj => by
      have h1 := hheld j s hj
      have h2 := tG (aBT hd) (cF (sg l q j))
      have h3 := Xd (l := l) (q := q) (i := j) (by omega)
      rw [kC, h3] at h2
      rw [h1.len, aLz, aMj]
      omega
     have hs6 := aBI P
     match P, hP with
     | [a, b, c, d], _ =>
       have h1 := hP4 0 a rfl
       have h2 := hP4 1 b rfl
       have h3 := hP4 2 c rfl
       have h4 := hP4 3 d rfl
       simp only [show (0 : Nat) < 3 from by omega, show (1 : Nat) < 3 from by omega, show (2 : Nat) < 3 from by omega, if_true, Nat.lt_irrefl, if_false] at h1 h2 h3 h4
       simp only [aLz, aNj, List.flatten_nil, List.length_nil]
       omega
    .show Jw wl (szs P ++ P.flatten) l.length = _
     match P, hP with
     | [a, b, c, d], _ =>
       have e : [a, b, c, d].flatten = a ++ (b ++ (c ++ d)) := by simp
       rw [e]
       have hlen : ∀ (j : Nat) (s : List UInt8), [a, b, c, d][j]? = some s -> s.length < 65536 /\ rU (wC wl) s (sg l q j).length = .ok (cF (sg l q j)) := fun j s hj => by
        have hj4 : j < 4 := by
         rcases aLO j 4 with h | h
         .exact h
         .rw [aLH (by simpa using h)] at hj; cases hj
        have h1 := hheld j s hj
        have h2 := tG (aBT hd) (cF (sg l q j))
        have h3 : (sg l q j).length <= 32768 := by rw [Xd (by omega)]; split <;> omega
        rw [kC] at h2
        refine ⟨by rw [h1.len, aLz, aMj]; omega, aBg hd (fun x hx => hall x ?_) h1⟩
        have hsub : ∀ x ∈ sg l q j, x ∈ l := fun x hx => by
         unfold sg at hx
         split at hx
         .exact aND (aMS hx)
         .exact aND hx
        obtain ⟨y, hy1, hy2⟩ := aMD.1 hx
        exact aMD.2 ⟨y, hsub y hy1, hy2⟩
       obtain ⟨la, ha⟩ := hlen 0 a rfl
       obtain ⟨lb, hb⟩ := hlen 1 b rfl
       obtain ⟨lc, hc⟩ := hlen 2 c rfl
       obtain ⟨-, hdd⟩ := hlen 3 d rfl
       rw [hq] at ha hb hc hdd hbad
       exact aFH hd (by omega) hl ha hb hc hdd la lb lc
end Go.Proofs.YtgpimhlgaokobaaGreat
namespace Go.Pu
open Go Go.En
structure LH where
 kind : Nat
 form : Nat
 size : Nat
 count : Nat
 bytes : Nat
def lU (kind form : Nat) : Nat := if kind < 2 then (if form = 1 then 2 else if form = 3 then 3 else 1) else (if form = 2 then 4 else if form = 3 then 5 else 3)
def Qi (form : Nat) : Nat := if form = 2 then 14 else if form = 3 then 18 else 10
def qF (kind form : Nat) : Nat := if kind < 2 /\ lU kind form = 1 then 3 else 4
def sS (kind form : Nat) : Nat := if kind < 2 then 20 else Qi form
def pW : List UInt8 -> LH × Int
 | [] => (⟨0, 0, 0, 0, 0⟩, 10)
 | c :: r =>
   if (c :: r).length < lU (c.toNat % 4) (c.toNat / 4 % 4) then (⟨c.toNat % 4, c.toNat / 4 % 4, lU (c.toNat % 4) (c.toNat / 4 % 4), 0, 0⟩, 10)
   else
    (⟨c.toNat % 4, c.toNat / 4 % 4, lU (c.toNat % 4) (c.toNat / 4 % 4),
      sD ((c :: r).take (lU (c.toNat % 4) (c.toNat / 4 % 4))) / 2 ^ qF (c.toNat % 4) (c.toNat / 4 % 4) % 2 ^ sS (c.toNat % 4) (c.toNat / 4 % 4),
      sD ((c :: r).take (lU (c.toNat % 4) (c.toNat / 4 % 4))) / 2 ^ qF (c.toNat % 4) (c.toNat / 4 % 4) / 2 ^ sS (c.toNat % 4) (c.toNat / 4 % 4)⟩,
      if 131072 < sD ((c :: r).take (lU (c.toNat % 4) (c.toNat / 4 % 4))) / 2 ^ qF (c.toNat % 4) (c.toNat / 4 % 4) % 2 ^ sS (c.toNat % 4) (c.toNat / 4 % 4) then 12 else 0)
theorem Tc (k f : Nat) : 1 <= lU k f /\ lU k f <= 5 := by
 unfold lU; split <;> (try split) <;> (try split) <;> omega
theorem ayU (f : Nat) : 10 <= Qi f /\ Qi f <= 18 := by
 unfold Qi; split <;> (try split) <;> omega
theorem aIc (k f : Nat) : 3 <= qF k f /\ qF k f <= 4 := by
 unfold qF; split <;> omega
theorem aHv (k f : Nat) : 10 <= sS k f /\ sS k f <= 20 := by
 have := ayU f
 unfold sS; split <;> omega
theorem aeD {l : List UInt8} {n : Nat} (h : n <= 5) : sD (l.take n) < 2 ^ 40 := by
 have h1 := Qm (l.take n)
 have h2 : (l.take n).length <= 5 := by rw [aLG]; omega
 have h3 : 256 ^ (l.take n).length <= 256 ^ 5 := aLC (by omega) h2
 have : (256 : Nat) ^ 5 = 2 ^ 40 := by decide
 omega
theorem aCT {k f : Nat} {l : List UInt8} (hk : k < 2) : sD (l.take (lU k f)) / 2 ^ qF k f < 2 ^ 20 := by
 have h1 := Qm (l.take (lU k f))
 have h2 : (l.take (lU k f)).length <= lU k f := by rw [aLG]; omega
 have h3 : 256 ^ (l.take (lU k f)).length <= 256 ^ lU k f := aLC (by omega) h2
 rw [aNh (aLW _)]
 have h4 : 256 ^ lU k f <= 2 ^ 20 * 2 ^ qF k f := by
  unfold qF lU
  rw [if_pos hk]
  by_cases h1 : f = 1
  .subst h1; simp
  .by_cases h3 : f = 3
   .subst h3; simp
   .rw [if_neg h1, if_neg h3]; simp [hk]
 omega
end Go.Pu
namespace Go.Proofs.YtgpimhlgaokobaaGreat
open Go Go.En Go.Pu
set_option maxRecDepth 4000
theorem aCU {x n m : Nat} (h : m = n) : (x : Int).fdiv (2 ^ m) = ((x / 2 ^ n : Nat) : Int) := by
 subst h
 rw [aM2 _ (by exact_mod_cast aNn _)]
 push_cast
 rfl
theorem aBo {x n : Nat} (h : n <= 64) : (x : Int).fdiv (2 ^ min n IntKind.u64.bits) = ((x / 2 ^ n : Nat) : Int) := aCU (by have : IntKind.u64.bits = 64 := rfl; omega)
theorem aKD {x n : Nat} (h : n <= 8) : (x : Int).fdiv (2 ^ min n IntKind.u8.bits) = ((x / 2 ^ n : Nat) : Int) := aCU (by have : IntKind.u8.bits = 8 := rfl; omega)
theorem axE {x n : Nat} (hx : x < 2 ^ 63) (hn : n <= 62) : VE .u64 (x : Int) ((2 ^ n - 1 : Nat) : Int) = ((x % 2 ^ n : Nat) : Int) := by
 have hp : 2 ^ n <= 2 ^ 62 := aLC (by omega) hn
 unfold VE
 have e : IntKind.u64.bits = 64 := rfl
 rw [e, BitVec.ofInt_natCast, BitVec.ofInt_natCast, BitVec.toNat_and, BitVec.toNat_ofNat, BitVec.toNat_ofNat, aL5 (by omega), aL5 (by omega), Nat.and_two_pow_sub_one_eq_mod]
 have := Nat.mod_le x (2 ^ n)
 exact kV (by omega) (by omega)
theorem aFa {x : Nat} (h : x < 256) : VE .u8 (x : Int) 3 = ((x % 4 : Nat) : Int) := by
 have : ∀ k : Fin 256, VE .u8 (k.val : Int) 3 = ((k.val % 4 : Nat) : Int) := by decide +kernel
 exact this ⟨x, h⟩
def lhV (H : LH) : aNY := .agg #[.int .i64 (H.kind : Nat), .int .i64 (H.form : Nat), .int .i64 (H.size : Nat), .int .i64 (H.count : Nat), .int .i64 (H.bytes : Nat)]
def lh0 : aNY := .agg #[.int .i64 0, .int .i64 0, .int .i64 0, .int .i64 0, .int .i64 0]
theorem aCn {R : K1} {v : aNY} {l : List UInt8} {p2 p4 kd fm sz d b : Nat} {c : List aNY} {w : aNX} (hb : Bs w v l) (hl : l.length <= 1000000) (o2 : eM w p2 c) (hc : c.length = 5) (o4 : eM w p4 [.int .i64 (kd : Nat), .int .i64 (fm : Nat), .int .i64 (sz : Nat), .int .i64 0, .int .i64 0])
 (hne : p2 ≠ p4) (h1 : 1 <= sz) (h5 : sz <= 5) (hd : 3 <= d /\ d <= 4) (hbt : 10 <= b /\ b <= 20)
 (hk : ∀ w' r, (r = if l.length < sz then .tuple #[lh0, .int .i64 10] else if 131072 < sD (l.take sz) / 2 ^ d % 2 ^ b then .tuple #[lh0, .int .i64 12] else .tuple #[lhV ⟨kd, fm, sz, sD (l.take sz) / 2 ^ d % 2 ^ b, sD (l.take sz) / 2 ^ d / 2 ^ b⟩, .int .i64 0]) -> aW w w' (fun y => y = p2 ∨ y = p4) -> R r w') :
 qN R v (.pointer (some ⟨p2, 0, none⟩)) (.pointer (some ⟨p4, 0, none⟩)) (.int .i64 (d : Nat)) (.int .i64 (b : Nat)) w := by
 have hne' : p4 ≠ p2 := fun h => hne h.symm
 unfold qN
 refine (asE hb (by omega)).mono ?_
 rintro r w1 ⟨p, rfl, hr1, x1⟩
 have z1 := x1.size
 have hp := hr1.1
 have hp2 := hr1.2.1
 have l2 := o2.lt
 have l4 := o4.lt
 have o41 := o4.ext x1 (fun h => h)
 have o21 := o2.ext x1 (fun h => h)
 have k2 := o41.cell (off := 2)
 simp only [aLq, aLr] at k2
 simp (disch := omega) only [aD, bH, aLt, gX, aA, pG, aLs, bQ, cD, bO, fF, k2, aH]
 refine (awO (n := sz) hr1 (by omega) ⟨h1, by omega⟩).mono ?_
 rintro r w2 ⟨rfl, hr2, x2⟩
 have o22 := o21.ext x2 (by omega)
 have o42 := o41.ext x2 (by omega)
 have x02 : aW w w2 eS := x1.trans x2 fun y hy h => by omega
 rcases aLO l.length sz with hs | hs
 .have ht : Aw l 0 sz = ([], l, 10) := by unfold Aw; rw [if_neg (by simp), if_pos hs]
  rw [ht] at hr2 ⊢
  simp only at hr2 ⊢
  have e1 := aBo (x := sD []) (n := d) (by omega)
  simp (disch := omega) only [sT, aLs, e1, aA, xK, bX]
  refine (avZ hr2).mono ?_
  rintro r w3 ⟨rfl, rfl⟩
  have n1 : ((10 : Int) != 0) = true := rfl
  simp (disch := omega) only [cY, n1, aA, aG]
  refine (avZ hr2).mono ?_
  rintro r w4 ⟨rfl, rfl⟩
  match c, hc with
  | [c0, c1, c2, c3, c4], _ =>
    refine rE o22 rfl (by simp [one]) (by simp) fun w5 o5 x5 s5 => ?_
    refine A5 o5 (by simp [bM]) ?_
    simp only [bM, aLw, aLv, aLy, aLx, aLB]
    exact hk w5 _ (by rw [if_pos hs] <;> rfl) ((x02.mono fun _ _ h => h.elim).seq (x5.mono fun _ _ h => .inl h))
 .have ht : Aw l 0 sz = (l.take sz, l.drop sz, 0) := by unfold Aw; rw [if_neg (by simp), if_neg (by omega)]
  rw [ht] at hr2 ⊢
  simp only at hr2 ⊢
  have hx := aeD (l := l) h5
  have e1 := aBo (x := sD (l.take sz)) (n := d) (by omega)
  have hy : sD (l.take sz) / 2 ^ d <= sD (l.take sz) := aMu _ _
  obtain ⟨Y, hY⟩ : ∃ Y, Y = sD (l.take sz) / 2 ^ d := ⟨_, rfl⟩
  rw [<- hY] at e1 hy hk
  have hpb : 2 ^ b <= 2 ^ 20 := aLC (by omega) hbt.2
  have hpb0 := aLW b
  simp (disch := omega) only [sT, aLs, e1, aA, xK, bX]
  refine (avZ hr2).mono ?_
  rintro r w3 ⟨rfl, rfl⟩
  have n1 : ((0 : Int) != 0) = false := rfl
  have e2 : IntKind.u64.wrap (1 * 2 ^ min b IntKind.u64.bits) = ((2 ^ b : Nat) : Int) := by
   have h64 : IntKind.u64.bits = 64 := rfl
   rw [h64, aMm (by omega), Int.one_mul]
   have : (2 : Int) ^ b = ((2 ^ b : Nat) : Int) := by push_cast; rfl
   rw [this]
   exact kV (by omega) (by omega)
  have e3 : IntKind.u64.wrap (((2 ^ b : Nat) : Int) - 1) = ((2 ^ b - 1 : Nat) : Int) := by rw [kV (by omega) (by omega)]; omega
  have e4 := axE (x := Y) (n := b) (by omega) (by omega)
  have e5 := aBo (x := Y) (n := b) (by omega)
  have hm1 := Nat.mod_le Y (2 ^ b)
  have hm2 := aMu Y (2 ^ b)
  have ew : ∀ z : Nat, z < 2 ^ 62 -> IntKind.i64.wrap (z : Int) = z := fun z hz => aQ (by omega) (by omega)
  have e6 := ew (Y % 2 ^ b) (by omega)
  have e7 := ew (Y / 2 ^ b) (by omega)
  simp (disch := omega) only [cY, n1, e2, e3, e4, e6, e5, e7, aA, aE]
  refine pH o42 rfl (by simp) fun w4 o44 x4 s4 => ?_
  simp only [aLw, aLv] at o44
  try simp (disch := omega) only [true_and]
  refine pH o44 rfl (by simp) fun w5 o45 x5 s5 => ?_
  simp only [aLw, aLv] at o45
  have k3 := o45.cell (off := 3)
  simp only [aLq, aLr] at k3
  have x25 := x4.seq x5
  have o25 := o22.ext x25 hne
  have x05 : aW w w5 (fun y => y = p2 ∨ y = p4) := (x02.mono fun _ _ h => h.elim).seq (x25.mono fun _ _ h => .inr h)
  match c, hc with
  | [c0, c1, c2, c3, c4], _ =>
    by_cases hbig : 131072 < Y % 2 ^ b
    .have d1 : decide (131072 < ((Y % 2 ^ b : Nat) : Int)) = true := decide_eq_true (by omega)
     simp (disch := omega) only [k3, aH, aA, cX, d1, aG]
     refine rE o25 rfl (by simp [one]) (by simp) fun w6 o6 x6 s6 => ?_
     refine A5 o6 (by simp [bM]) ?_
     simp only [bM, aLw, aLv, aLy, aLx, aLB]
     exact hk w6 _ (by rw [if_neg (by omega), if_pos hbig] <;> rfl) (x05.seq (x6.mono fun _ _ h => .inl h))
    .have d1 : decide (131072 < ((Y % 2 ^ b : Nat) : Int)) = false := decide_eq_false (by omega)
     have q1 := Qs (off := 0) o45 (by simp)
     simp only [aLy, aLx, aLB] at q1
     simp (disch := omega) only [k3, aH, aA, cX, d1, q1, aE]
     refine rE o25 rfl (by simp [one]) (by simp) fun w6 o6 x6 s6 => ?_
     refine A5 o6 (by simp [bM]) ?_
     simp only [bM, aLw, aLv, aLy, aLx, aLB]
     exact hk w6 _ (by rw [if_neg (by omega), if_neg hbig] <;> rfl) (x05.seq (x6.mono fun _ _ h => .inl h))
def OpR (l : List UInt8) (r : aNY) : Prop := r = if (pW l).2 = 0 then .tuple #[lhV (pW l).1, .int .i64 0] else .tuple #[lh0, .int .i64 (pW l).2]
theorem aJP {x0 : UInt8} {rs : List UInt8} {kd fm : Nat} {r : aNY} (hk : kd = x0.toNat % 4) (hf : fm = x0.toNat / 4 % 4)
 (hr : r = if (x0 :: rs).length < lU kd fm then .tuple #[lh0, .int .i64 10] else if 131072 < sD ((x0 :: rs).take (lU kd fm)) / 2 ^ qF kd fm % 2 ^ sS kd fm then .tuple #[lh0, .int .i64 12] else .tuple #[lhV ⟨kd, fm, lU kd fm, sD ((x0 :: rs).take (lU kd fm)) / 2 ^ qF kd fm % 2 ^ sS kd fm, sD ((x0 :: rs).take (lU kd fm)) / 2 ^ qF kd fm / 2 ^ sS kd fm⟩, .int .i64 0]) : OpR (x0 :: rs) r := by
 subst hk hf
 by_cases h1 : (x0 :: rs).length < lU (x0.toNat % 4) (x0.toNat / 4 % 4)
 .rw [if_pos h1] at hr
  simp only [OpR, pW, if_pos h1]
  rw [hr] <;> rfl
 .rw [if_neg h1] at hr
  simp only [OpR, pW, if_neg h1]
  by_cases h2 : 131072 < sD ((x0 :: rs).take (lU (x0.toNat % 4) (x0.toNat / 4 % 4))) / 2 ^ qF (x0.toNat % 4) (x0.toNat / 4 % 4) % 2 ^ sS (x0.toNat % 4) (x0.toNat / 4 % 4)
  .rw [if_pos h2] at hr
   simp only [if_pos h2]
   rw [hr] <;> rfl
  .rw [if_neg h2] at hr
   simp only [if_neg h2]
   rw [hr] <;> rfl
theorem aIp {v : aNY} {l : List UInt8} {w : aNX} (h : Bs w v l) (hl : l.length <= 1000000) :
 aS pg AT #[v] w (fun r w' => OpR l r /\ aW w w' eS) := by
 refine VV ?_
 obtain ⟨RR, hRR⟩ : ∃ RR : aNY -> aNX -> Prop, RR = fun r w' => OpR l r /\ aW w w' eS := ⟨_, rfl⟩
 rw [<- hRR]
 unfold UE CB D1
 refine B7 fun w1 o1 x1 s1 => ?_
 have z1 := x1.size
 rcases aMO l.length with h0 | h0
 .have hnil := aL4.1 h0
  obtain ⟨va, vn, vc, rfl, hvn, _⟩ := h
  rw [aLD, h0] at hvn
  subst hvn
  have n1 : (((0 : Nat) : Int) == 0) = true := rfl
  simp (disch := omega) only [aD, aP, gX, aA, jH, and_true, true_and, dV, n1, aG]
  refine rE o1 rfl (by simp [one]) (by simp) fun w2 o2 x2 s2 => ?_
  refine A5 o2 (by simp [bM]) ?_
  simp only [bM, aLw, aLv, aLy, aLx, aLB]
  rw [hRR]
  refine ⟨?_, x1.new x2 (aLF _)⟩
  rw [hnil] <;> rfl
 .have hb := h
  obtain ⟨b, off, c, rfl, hc, hcell⟩ := O9 h h0
  obtain ⟨x0, rs, rfl⟩ : ∃ x0 rs, l = x0 :: rs := by
   cases l with
   | nil => simp at h0
   | cons x rs => exact ⟨x, rs, rfl⟩
  have hx0 : x0.toNat < 256 := aL9 x0
  have g0 := hcell 0 h0
  rw [aMA] at g0
  have g0 : w.cell? ⟨b, off, none⟩ = some (.int .u8 (x0.toNat : Nat)) := g0
  have g1 := akL g0 x1 (fun h => h)
  have gd : (dr w1).cell? ⟨b, off, none⟩ = some (.int .u8 (x0.toNat : Nat)) := g1
  have n1 : ((((x0 :: rs).length : Nat) : Int) == 0) = false := by simp; omega
  have t0 : (0 : Int).toNat = 0 := rfl
  have t2 : (2 : Int).toNat = 2 := rfl
  have e1 := aFa hx0
  have e2 := aKD (x := x0.toNat) (n := 2) (by omega)
  have e3 := aFa (x := x0.toNat / 2 ^ 2) (by have : x0.toNat / 2 ^ 2 <= x0.toNat := aMu _ _; omega)
  have ew : ∀ z : Nat, z < 2 ^ 62 -> IntKind.i64.wrap (z : Int) = z := fun z hz => aQ (by omega) (by omega)
  obtain ⟨kd, hkd⟩ : ∃ kd, kd = x0.toNat % 4 := ⟨_, rfl⟩
  obtain ⟨fm, hfm⟩ : ∃ fm, fm = x0.toNat / 4 % 4 := ⟨_, rfl⟩
  have hfm2 : x0.toNat / 2 ^ 2 % 4 = fm := by rw [hfm]
  rw [<- hkd] at e1
  rw [hfm2] at e3
  have hkd4 : kd < 4 := by omega
  have hfm4 : fm < 4 := by omega
  have e4 := ew kd (by omega)
  have e5 := ew fm (by omega)
  have hpos : 0 < (x0 :: rs).length := h0
  simp (disch := omega) only [aD, aP, gX, aA, dO, t0, aMA, jH, Result.ok.injEq, Next.value.injEq, and_true, iJ, true_and, dV, n1, gd, aH, sT, t2, e2, xK, e3, dT, e5, e1, e4, gG, aE]
  refine B7 fun w2 o2 x2 s2 => ?_
  have g2 := akL gd x2 (fun h => h)
  simp (disch := omega) only [g2, aH, and_true, true_and]
  refine rE o2 rfl (by simp [one]) (by simp) fun w3 o3 x3 s3 => ?_
  simp only [bM, aLw, aLv] at o3
  have zd : (dr w1).heap.size = w1.heap.size := rfl
  rw [zd] at o3 x3 ⊢
  have x13 : aW w1 w3 eS := ((aW.dr w1 eS).seq x2).new x3 (by omega)
  have o13 := o1.ext x13 (fun h => h)
  have x03 := x1.seq x13
  have hb3 := h.ext x03 (bY _)
  obtain ⟨p4, hp4⟩ : ∃ p, p = w1.heap.size := ⟨_, rfl⟩
  obtain ⟨p2, hp2⟩ : ∃ p, p = w.heap.size := ⟨_, rfl⟩
  have l1 := o1.lt
  rw [<- hp4] at o3 ⊢
  rw [<- hp2] at o13 ⊢
  have hne : p2 ≠ p4 := by omega
  have k0 := o3.cell (off := 0)
  simp only [aLq, aLr] at k0
  have fin : ∀ (w4 : aNX) (sz d bt : Nat), sz = lU kd fm -> d = qF kd fm -> bt = sS kd fm -> eM w4 p4 [.int .i64 (kd : Nat), .int .i64 (fm : Nat), .int .i64 (sz : Nat), .int .i64 0, .int .i64 0] -> aW w3 w4 (fun y => y = p4) →
      qN RR (.slice (some ⟨b, off, none⟩) (x0 :: rs).length c) (.pointer (some ⟨p2, 0, none⟩)) (.pointer (some ⟨p4, 0, none⟩)) (.int .i64 (d : Nat)) (.int .i64 (bt : Nat)) w4 := by
   intro w4 sz d bt h1 h2 h3 o4 x4
   subst h1 h2 h3
   have x04 : aW w w4 eS := x03.trans x4 fun y hy h => by omega
   refine aCn (h.ext x04 (bY _)) hl (o13.ext x4 hne) rfl o4 hne (Tc _ _).1 (Tc _ _).2 (aIc _ _) (aHv _ _) fun w5 r hr x5 => ?_
   rw [hRR]
   exact ⟨aJP hkd hfm hr, x04.trans x5 fun y hy h => by omega⟩
  unfold D0 Ei El
  simp (disch := omega) only [aD, cO, aA, bO, k0, aH]
  unfold DW M4 Er
  have k1 := o3.cell (off := 1)
  simp only [aLq, aLr] at k1
  have t1 : (1 : Int).toNat = 1 := rfl
  have t3 : (3 : Int).toNat = 3 := rfl
  have c0 : (((0 : Nat) : Int)).toNat = 0 := rfl
  have c1 : (((1 : Nat) : Int)).toNat = 1 := rfl
  have c2 : (((2 : Nat) : Int)).toNat = 2 := rfl
  have c3 : (((3 : Nat) : Int)).toNat = 3 := rfl
  by_cases hk2 : kd < 2
  .have P2 : lE (fun eX t2 wP pA oQ w => qN RR eX t2 wP pA oQ w) (.slice (some ⟨b, off, none⟩) (x0 :: rs).length c) (.pointer (some ⟨p2, 0, none⟩)) (.pointer (some ⟨p4, 0, none⟩)) (.int .i64 4) (.int .i64 20) (.bool true) w3 := by
    rcases (show fm = 0 ∨ fm = 1 ∨ fm = 2 ∨ fm = 3 by omega) with rfl | rfl | rfl | rfl
    .unfold lE
     simp (disch := omega) only [aD, dG, cA, aLt, bH, aA, bO, k1, aH, jX, c0, aG]
     refine pH o3 rfl (by simp) fun w4 o4 x4 s4 => ?_
     simp only [aLw, aLv] at o4
     have k2 := o4.cell (off := 2)
     have k1' := o4.cell (off := 1)
     simp only [aLq, aLr] at k2 k1'
     have n5 : ((1 : Int) == 1) = true := rfl
     simp (disch := omega) only [k2, aH, aA]
     exact fin w4 1 3 20 (by unfold lU; rw [if_pos hk2] <;> rfl) (by unfold qF lU; simp [hk2]) (by unfold sS; rw [if_pos hk2]) o4 x4
    .unfold lE
     simp (disch := omega) only [aD, dG, cA, aLt, bH, aA, bO, k1, aH, jX, c1, aG]
     refine pH o3 rfl (by simp) fun w4 o4 x4 s4 => ?_
     simp only [aLw, aLv] at o4
     have k2 := o4.cell (off := 2)
     have k1' := o4.cell (off := 1)
     simp only [aLq, aLr] at k2 k1'
     have n5 : ((2 : Int) == 1) = false := rfl
     simp (disch := omega) only [k2, aH, aA]
     exact fin w4 2 4 20 (by unfold lU; rw [if_pos hk2] <;> rfl) (by unfold qF lU; simp [hk2]) (by unfold sS; rw [if_pos hk2]) o4 x4
    .unfold lE
     simp (disch := omega) only [aD, dG, cA, aLt, bH, aA, bO, k1, aH, jX, c2, aG]
     refine pH o3 rfl (by simp) fun w4 o4 x4 s4 => ?_
     simp only [aLw, aLv] at o4
     have k2 := o4.cell (off := 2)
     have k1' := o4.cell (off := 1)
     simp only [aLq, aLr] at k2 k1'
     have n5 : ((1 : Int) == 1) = true := rfl
     simp (disch := omega) only [k2, aH, aA]
     exact fin w4 1 3 20 (by unfold lU; rw [if_pos hk2] <;> rfl) (by unfold qF lU; simp [hk2]) (by unfold sS; rw [if_pos hk2]) o4 x4
    .unfold lE
     simp (disch := omega) only [aD, dG, cA, aLt, bH, aA, bO, k1, aH, jX, c3, aG]
     refine pH o3 rfl (by simp) fun w4 o4 x4 s4 => ?_
     simp only [aLw, aLv] at o4
     have k2 := o4.cell (off := 2)
     have k1' := o4.cell (off := 1)
     simp only [aLq, aLr] at k2 k1'
     have n5 : ((3 : Int) == 1) = false := rfl
     simp (disch := omega) only [k2, aH, aA]
     exact fin w4 3 4 20 (by unfold lU; rw [if_pos hk2] <;> rfl) (by unfold qF lU; simp [hk2]) (by unfold sS; rw [if_pos hk2]) o4 x4
   rcases (show kd = 0 ∨ kd = 1 by omega) with rfl | rfl
   .have n2 : (((0 : Nat) : Int) == 0) = true := rfl
    simp (disch := omega) only [aD, dV, n2, aA, aG]
    exact P2
   .have n2 : (((1 : Nat) : Int) == 0) = false := rfl
    have n3 : (((1 : Nat) : Int) == 1) = true := rfl
    simp (disch := omega) only [aD, dV, n2, n3, aA, aE]
    exact P2
  .have n2 : ((kd : Int) == 0) = false := by simp; omega
   have n3 : ((kd : Int) == 1) = false := by simp; omega
   simp (disch := omega) only [aD, dV, n2, n3, aA, aE]
   rcases (show fm = 0 ∨ fm = 1 ∨ fm = 2 ∨ fm = 3 by omega) with rfl | rfl | rfl | rfl
   .unfold lE
    simp (disch := omega) only [aD, dG, cA, aLt, bH, aA, bO, k1, aH, jX, c0, aE]
    refine pH o3 rfl (by simp) fun w4 o4 x4 s4 => ?_
    simp only [aLw, aLv] at o4
    have k2 := o4.cell (off := 2)
    have k1' := o4.cell (off := 1)
    simp only [aLq, aLr] at k2 k1'
    simp (disch := omega) only [k1', aH, aA, jX, c0]
    exact fin w4 3 4 10 (by unfold lU; rw [if_neg hk2] <;> rfl) (by unfold qF; rw [if_neg (fun h => hk2 h.1)]) (by unfold sS; rw [if_neg hk2] <;> rfl) o4 x4
   .unfold lE
    simp (disch := omega) only [aD, dG, cA, aLt, bH, aA, bO, k1, aH, jX, c1, aE]
    refine pH o3 rfl (by simp) fun w4 o4 x4 s4 => ?_
    simp only [aLw, aLv] at o4
    have k2 := o4.cell (off := 2)
    have k1' := o4.cell (off := 1)
    simp only [aLq, aLr] at k2 k1'
    simp (disch := omega) only [k1', aH, aA, jX, c1]
    exact fin w4 3 4 10 (by unfold lU; rw [if_neg hk2] <;> rfl) (by unfold qF; rw [if_neg (fun h => hk2 h.1)]) (by unfold sS; rw [if_neg hk2] <;> rfl) o4 x4
   .unfold lE
    simp (disch := omega) only [aD, dG, cA, aLt, bH, aA, bO, k1, aH, jX, c2, aE]
    refine pH o3 rfl (by simp) fun w4 o4 x4 s4 => ?_
    simp only [aLw, aLv] at o4
    have k2 := o4.cell (off := 2)
    have k1' := o4.cell (off := 1)
    simp only [aLq, aLr] at k2 k1'
    simp (disch := omega) only [k1', aH, aA, jX, c2]
    exact fin w4 4 4 14 (by unfold lU; rw [if_neg hk2] <;> rfl) (by unfold qF; rw [if_neg (fun h => hk2 h.1)]) (by unfold sS; rw [if_neg hk2] <;> rfl) o4 x4
   .unfold lE
    simp (disch := omega) only [aD, dG, cA, aLt, bH, aA, bO, k1, aH, jX, c3, aE]
    refine pH o3 rfl (by simp) fun w4 o4 x4 s4 => ?_
    simp only [aLw, aLv] at o4
    have k2 := o4.cell (off := 2)
    have k1' := o4.cell (off := 1)
    simp only [aLq, aLr] at k2 k1'
    simp (disch := omega) only [k1', aH, aA, jX, c3]
    exact fin w4 5 4 18 (by unfold lU; rw [if_neg hk2] <;> rfl) (by unfold qF; rw [if_neg (fun h => hk2 h.1)]) (by unfold sS; rw [if_neg hk2] <;> rfl) o4 x4
theorem aIv {n : Nat} {w : aNX} (hn : n <= 131072) :
 aS pg A4 #[.int .u64 1, .int .u64 n] w (fun r w' => r = .tuple #[.int .u64 0, .int .u64 n] /\ aW w w' eS) := by
 refine Wi ?_
 unfold UF D6
 have a1 : VE .u64 1 4294967295 = 1 := by decide
 have a2 : VE .u64 (n : Int) 4294967295 = n := by
  have := axE (x := n) (n := 32) (by omega) (by omega)
  rw [aL5 (by omega)] at this
  exact this
 have a0 : VE .u64 0 4294967295 = 0 := by decide
 have s1 : (1 : Int).fdiv (2 ^ min 32 IntKind.u64.bits) = 0 := by decide
 have s0 : (0 : Int).fdiv (2 ^ min 32 IntKind.u64.bits) = 0 := by decide
 have s2 : (n : Int).fdiv (2 ^ min 32 IntKind.u64.bits) = 0 := by
  rw [aBo (by omega), aNC (by omega)] <;> rfl
 have t32 : (32 : Int).toNat = 32 := rfl
 have w0 : IntKind.u64.wrap 0 = 0 := rfl
 have w1 : IntKind.u64.wrap (n : Int) = n := kV (by omega) (by omega)
 simp (disch := omega) only [aD, xK, a1, sT, t32, s1, a2, s2, oS, Int.one_mul, w1, aA, Int.zero_mul, w0, Int.mul_zero, bJ, Int.add_zero, a0, s0, true_and]
 exact aW.refl _ _
theorem aKw {n : Nat} {w : aNX} (hn : n <= 131072) :
 aS pg Du #[.int .u64 1, .int .u64 n] w (fun r w' => r = .tuple #[.int .u64 0, .int .u64 n] /\ aW w w' eS) := by
 refine abO ?_
 unfold ZJ Ip
 simp (disch := omega) only [aD, kO, L3, aA, aE]
 refine (aIv hn).mono ?_
 rintro r w1 ⟨rfl, x1⟩
 simp (disch := omega) only [pT, pS, aA, true_and]
 exact x1
theorem aJ7 {z v : aNY} {i n : Nat} (hi : i <= n) : bM (List.replicate i v ++ List.replicate (n - i) z) i ((List.replicate i v).take (min i (n - i))) = List.replicate (i + min i (n - i)) v ++ List.replicate (n - (i + min i (n - i))) z := by
 have e : (List.replicate i v).take (min i (n - i)) = List.replicate (min i (n - i)) v := by
  rw [List.take_replicate]; congr 1; omega
 rw [e]
 generalize hm : min i (n - i) = m
 have hm2 : i + m <= n := by omega
 clear hm e
 induction m generalizing i with
 | zero => simp [bM]
 | succ m ih =>
   rw [aMc]
   simp only [bM]
   rw [show (List.replicate i v ++ List.replicate (n - i) z).set i v = List.replicate (i + 1) v ++ List.replicate (n - (i + 1)) z from ?_]
   .rw [ih (i := i + 1) (by omega) (by omega), show i + 1 + m = i + (m + 1) from by omega]
   .rw [aM8 _ _ (by simp), aMk, aNb, show n - i = (n - (i + 1)) + 1 from by omega, aMc, aLw, aNm, aLV]
    rfl
theorem aFR {c : UInt8} {n p : Nat} {w3 : aNX} {RR : aNY -> aNX -> Prop} (hn : n <= 131072) (o3 : eM w3 p (List.replicate (min 1 n) (tJ c) ++ List.replicate (n - min 1 n) (.int .u8 0)))
 (hk : ∀ w4, eM w4 p (List.replicate n (tJ c)) -> aW w3 w4 (fun y => y = p) -> RR (.slice (some ⟨p, 0, none⟩) n n) w4) :
 vV RR (.slice (some ⟨p, 0, none⟩) n n) (.int .i64 (min 1 n : Nat)) w3 := by
 unfold vV AL AI
 refine cR.rule (fun m (t : aNY) w' => ∃ i : Nat, m = n - i /\ t = .int .i64 i /\ i <= n /\ (1 <= i ∨ n = 0) /\ eM w' p (List.replicate i (tJ c) ++ List.replicate (n - i) (.int .u8 0)) /\ aW w3 w' (fun y => y = p)) (n - min 1 n)
  ⟨min 1 n, rfl, rfl, by omega, by omega, o3, aW.refl _ _⟩ ?_
 rintro m t w4 ⟨i, rfl, rfl, hi, h0, o4, x4⟩
 unfold vW
 by_cases hlt : i < n
 .have d5 : decide ((i : Int) < (n : Int)) = true := by simp; omega
  have q1 : (i : Int).toNat = i := aLs _
  have s1 : mZ (some (⟨p, 0, none⟩ : Addr)) n i 1 = some ⟨p, 0 + i, none⟩ := azF (by omega)
  have s2 : mZ (some (⟨p, 0, none⟩ : Addr)) n 0 1 = some ⟨p, 0 + 0, none⟩ := azF (by omega)
  simp (disch := omega) only [aD, aP, eF, q1, s1, aLt, jD, s2, Nat.sub_zero, true_and, aA, aR, d5, aG]
  have hs : Bs (dr w4) (.slice (some ⟨p, 0, none⟩) i n) (List.replicate i c) := by
   have := (kB o4).bs (off := 0) (c := n) (l := List.replicate i c) (by simp; omega) (fun j hj => by
    rw [aMk] at hj
    rw [aLt, aLR (by simp; omega)]
    simp [aMT, hj])
   rw [aMk] at this
   exact this
  refine asP (off := i) (dl := n - i) (kB o4) (by simp) hs (by simp [one, tJ]) fun w5 o5 x5 s5 => ?_
  have hm5 : (List.map tJ (List.replicate i c)).length = i := by simp
  rw [hm5, aNO, aJ7 hi] at o5
  rw [hm5]
  have e5 : (i : Int) + ((min i (n - i) : Nat) : Int) = ((i + min i (n - i) : Nat) : Int) := by omega
  have wi5 : IntKind.i64.wrap ((i + min i (n - i) : Nat) : Int) = ((i + min i (n - i) : Nat) : Int) := aQ (by omega) (by omega)
  simp (disch := omega) only [bJ, e5, wi5, aA, true_and]
  exact ⟨n - (i + min i (n - i)), by omega, i + min i (n - i), rfl, rfl, by omega, by omega, o5, x4.seq ((aW.dr w4 _).seq x5)⟩
 .have d5 : decide ((i : Int) < (n : Int)) = false := by simp; omega
  have hin : i = n := by omega
  rw [hin, aNb, List.replicate_zero, aMd] at o4
  simp (disch := omega) only [aD, aP, eF, aLs, jD, true_and, aA, aR, d5, aE]
  unfold vR
  exact hk w4 o4 x4
theorem aHS {v : aNY} {c : UInt8} {n : Nat} {w : aNX} (h : Bs w v [c]) (hn : n <= 131072) :
 aS pg wV #[v, .int .i64 n] w (fun r w' => tE w' w.heap.size 1 r n (List.replicate n (tJ c)) /\ aW w w' eS) := by
 refine SG ?_
 obtain ⟨RR, hRR⟩ : ∃ RR : aNY -> aNX -> Prop, RR = fun r w' => tE w' w.heap.size 1 r n (List.replicate n (tJ c)) /\ aW w w' eS := ⟨_, rfl⟩
 rw [<- hRR]
 obtain ⟨b, off, cap, rfl, hc, hcell⟩ := O9 h (by simp)
 have hl1 : ([c] : List UInt8).length = 1 := rfl
 rw [hl1] at *
 have d0 : decide ((n : Int) < 0) = false := decide_eq_false (by omega)
 have e1 : ((1 : Nat) : Int) = 1 := rfl
 have wn : IntKind.u64.wrap (n : Int) = n := kV (by omega) (by omega)
 have w1 : IntKind.u64.wrap 1 = 1 := rfl
 unfold PQ zG zL
 simp (disch := omega) only [aD, aR, d0, aA, aE]
 unfold AH AE
 simp (disch := omega) only [aD, aP, e1, fY, wn, aA, w1]
 refine (aKw hn).mono ?_
 rintro r w1 ⟨rfl, x1⟩
 have d1 : decide ((0 : Int) > 0) = false := rfl
 have d2 : decide ((n : Int) > 9223372036854775807) = false := decide_eq_false (by omega)
 have d3 : decide ((9223372036854775807 : Int) < (n : Int)) = false := decide_eq_false (by omega)
 have d4 : decide ((0 : Int) < 0) = false := rfl
 simp (disch := omega) only [pT, pS, aA, cX, d1, cW, bF, aLu, if_false, bL, d2, aE]
 unfold AD AB
 have wi : IntKind.i64.wrap (n : Int) = n := aQ (by omega) (by omega)
 simp (disch := omega) only [aD, oK, wi, aA]
 refine asZ (by omega) (by omega) fun w2 o2 x2 s2 => ?_
 simp only [aLs] at o2 ⊢
 have z1 := x1.size
 have z2 := x2.size
 have x02 := x1.seq x2
 have h2 := h.ext x02 (bY _)
 obtain ⟨p, hp⟩ : ∃ p, p = w1.heap.size := ⟨_, rfl⟩
 rw [<- hp] at o2 ⊢
 refine asP (off := 0) o2 (by simp) h2 (by simp [one, tJ]) fun w3 o3 x3 s3 => ?_
 have hmn : min (List.map tJ [c]).length n = min 1 n := rfl
 rw [hmn] at o3 ⊢
 have hs3 : bM (List.replicate n (Value.int .u8 0)) 0 ((List.map tJ [c]).take (min 1 n)) = List.replicate (min 1 n) (tJ c) ++ List.replicate (n - min 1 n) (.int .u8 0) := by
  rcases aMO n with rfl | hp
  .rfl
  .rw [show min 1 n = 1 from by omega]
   obtain ⟨m, rfl⟩ : ∃ m, n = m + 1 := ⟨n - 1, by omega⟩
   rfl
 rw [hs3] at o3
 have x13 : aW w1 w3 eS := x2.new x3 (by omega)
 have x03 := x1.seq x13
 refine aFR hn o3 fun w4 o4 x4 => ?_
 have z4 := x4.size
 have x04 : aW w w4 eS := x03.trans x4 fun y hy h => by omega
 rw [hRR]
 exact ⟨⟨by rw [aMk, aMR], .inr ⟨p, n, [], rfl, by omega, by rw [aMd]; exact o4, by rw [aMd, aMk, aMR], aLF _⟩⟩, x04⟩
def m3 (L : List Int) : List T3 := L.map fun x => (x, 0, 0)
theorem aKf (L : List Int) (i : Nat) (h : i < L.length) (x : Int) : (m3 L).set i (x, ((m3 L)[i]'(by simpa [m3] using h)).2) = m3 (L.set i x) := by
 unfold m3; rw [aNN]; simp
theorem ayQ {k : IntKind} {L : List Int} {i : Nat} (h : i < L.length) (x : Int) : (fe k (m3 L)).set (i * 3) (.int k x) = fe k (m3 (L.set i x)) := by
 rw [(aoH k (m3 L) i (by simpa [m3] using h) x).1, aKf L i h x]
theorem azR (n high s : Nat) (r : List Nat) (a : Nat) (arr : List Int) : place n high (s :: r) a arr = place n high r (amI n high n (adv n a)) (arr.set a s) := rfl
theorem aAM {ps : List Int} {i : Nat} (h : i < ps.length) : tI (ps.drop i) i = List.replicate ps[i].toNat i ++ tI (ps.drop (i + 1)) (i + 1) := by
 rw [aL2 h, tI]
theorem aJ2 {w0 w : aNX} {N high j : Nat} (hN : 0 < N) (hN2 : N <= 32768) (hh : 0 < high) (hhN : high <= N) (hx : aW w0 w eS)
 {ov sv a b c d e : aNY} {k : aNY -> aNY -> aNY -> aNY -> aNY -> aNY -> aNY -> aNY -> aNY -> aNY -> aNX -> Prop}
 (hk : ∃ j', amI N high N (adv N (pos N j)) = pos N j' /\ k (.int .i64 N) ov (.int .i64 high) (.int .i64 (pos N j' : Nat)) sv a b c d e w) :
 IP k (.int .i64 N) ov (.int .i64 high) (.int .i64 (pos N j : Nat)) sv a b c d e w := by
 obtain ⟨dd, h1, h2, h3⟩ := XY hN hh (j + 1)
 obtain ⟨j', hj', hk⟩ := hk
 rw [ME, h3] at hj'
 rw [<- hj'] at hk
 unfold IP
 refine cR.rule (fun m t w' => ∃ q : Nat, m = dd - q /\ t = .int .i64 (pos N (j + q) : Nat) /\ q <= dd /\ w' = w) dd ⟨0, rfl, rfl, by omega, rfl⟩ ?_
 rintro m t w' ⟨q, rfl, rfl, hq, rfl⟩
 have hp := axH hN (j + q)
 have e1 : ((N : Int)).fdiv (2 ^ (min 1 IntKind.i64.bits)) = ((N / 2 : Nat) : Int) := by
  have : (2 : Int) ^ (min 1 IntKind.i64.bits) = ((2 : Nat) : Int) := by decide
  rw [this, azU]
 have e3 : ((N : Int)).fdiv (2 ^ (min 3 IntKind.i64.bits)) = ((N / 8 : Nat) : Int) := by
  have : (2 : Int) ^ (min 3 IntKind.i64.bits) = ((8 : Nat) : Int) := by decide
  rw [this, azU]
 have t1 : (1 : Int).toNat = 1 := rfl
 have t3 : (3 : Int).toNat = 3 := rfl
 have e4 : (((pos N (j + q) : Nat) : Int) + ((N / 2 : Nat) : Int) + ((N / 8 : Nat) : Int) + 3).tmod (N : Int) = ((pos N (j + q + 1) : Nat) : Int) := by
  rw [aLU (by omega), <- ME]
  unfold adv
  simp
 unfold IU
 by_cases hd : q = dd
 .subst hd
  have d1 : decide (((pos N (j + q + 1) : Nat) : Int) < (high : Int)) = true := by
   simp only [decide_eq_true_eq]
   rw [show j + 1 + q = j + q + 1 from by omega] at h2
   omega
  simp (disch := omega) only [aD, sT, t1, e1, t3, e3, aA, bJ, aQ, rL, e4, aR, d1, and_true, aG]
  rw [show j + 1 + q = j + q + 1 from by omega] at hk
  exact hk
 .have d1 : decide (((pos N (j + q + 1) : Nat) : Int) < (high : Int)) = false := by
   have := h1 q (by omega)
   rw [show j + 1 + q = j + q + 1 from by omega] at this
   simp only [decide_eq_false_iff_not]
   omega
  simp (disch := omega) only [aD, sT, t1, e1, t3, e3, aA, bJ, aQ, rL, e4, aR, d1, and_true, aE]
  exact ⟨dd - (q + 1), by omega, q + 1, rfl, rfl, by omega⟩
theorem aDr {log : Nat} {sv : aNY} {ps : List Int} {w : aNX} (hm : May log ps) (hs : Sl w sv (ps.map (Value.int .i64))) :
 aS pg G0 #[.agg #[.int .i64 log, sv]] w (fun r w' => ∃ b, r = .slice (some ⟨b, 0, none⟩) (2 ^ log) (2 ^ log) /\ w.heap.size <= b /\ eM w' b (fe .u8 (m3 (rM 0 log ps))) /\ aW w w' eS) := by
 refine atP ?_
 have h5 := hm.log5
 have h15 := hm.log15
 have hlen := hm.len256
 obtain ⟨arr0, ht, hal, hsum, hfin⟩ := atM hm 0
 rw [hfin]
 have hN1 : 2 ^ 5 <= 2 ^ log := aLC (by omega) h5
 have hN2 : 2 ^ log <= 2 ^ 15 := aLC (by omega) h15
 have hsh : IntKind.i64.wrap (1 * 2 ^ (min log IntKind.i64.bits)) = ((2 ^ log : Nat) : Int) := by
  have : ∀ k : Fin 16, IntKind.i64.wrap (1 * 2 ^ (min k.val IntKind.i64.bits)) = ((2 ^ k.val : Nat) : Int) := by decide
  exact this ⟨log, by omega⟩
 clear hfin
 generalize hN : 2 ^ log = N at *
 generalize hhigh : (tI ps 0).length = high at *
 unfold axV MS Oh
 refine nR fun w1 o1 x1 s1 => ?_
 have hs1 := hs.ext x1 (bY _)
 have c0 := o1.cell (off := 0)
 have c1 := o1.cell (off := 1)
 simp only [Value.cells, aLq, aLr] at c0 c1
 obtain ⟨a, c, rfl, hc⟩ := hs.lenI
 simp (disch := omega) only [aD, bV, aA, bO, c0, aH, pG, aLs, hsh]
 refine arH (by omega) (by omega) fun w2 o2 x2 s2 => ?_
 rw [aLs, aFx] at o2
 rw [aLs]
 have o2 : eM w2 w1.heap.size (fe .u8 (m3 (List.replicate N 0))) := by unfold m3; rw [aNO]; exact o2
 have x02 : aW w w2 eS := x1.seq x2
 have ob2 := o1.ext x2 (fun h => h)
 have c1 := ob2.cell (off := 1)
 simp only [Value.cells, aLq, aLr] at c1
 unfold Ox Pt O4 Nr NI
 simp (disch := omega) only [aD, bK, aLt, aA, dS, c1, aH, gC]
 have hw1 : w.heap.size <= w1.heap.size := x1.size
 refine cR.rule (fun m t w' => ∃ (i hg : Nat) (arr : List Int), m = ps.length - i /\ t = (.int .i64 hg, .int .i64 i) /\ i <= ps.length /\ (xD (ps.drop i) i).length <= hg /\ hg <= N /\ arr.length = N /\ aeA (ps.drop i) i hg arr = (high, arr0) /\ eM w' w1.heap.size (fe .u8 (m3 arr)) /\ aW w w' eS /\ eM w' w.heap.size (Value.cells (.agg #[.int .i64 log, .slice a ps.length c])).toList) ps.length
  ⟨0, N, _, rfl, rfl, by omega, by rw [aLy]; omega, by omega, by simp, by rw [aLy]; exact ht, o2, x02, ob2⟩ ?_
 rintro m t w3 ⟨i, hg, arr, rfl, rfl, hi, hng, hgN, harr, htop, o3, x3, ob3⟩
 by_cases hlt : i < ps.length
 .have d1 : decide ((i : Int) < (ps.length : Int)) = true := by simp; omega
  obtain ⟨b', off', c', e, _, hcell⟩ := (hs.ext x3 (bY _)).openI (by omega)
  cases e
  have g1 := hcell i hlt
  have hd : ps.drop i = ps[i] :: ps.drop (i + 1) := aL2 hlt
  rw [hd, xD] at hng
  rw [hd, aeA] at htop
  unfold Bz F2 Fz
  by_cases hp : ps[i] = -1
  .have d2 : (ps[i] == -1) = true := by simpa using hp
   rw [if_pos hp] at hng htop
   simp only [aLP] at hng
   have e1 : (hg : Int) - 1 = ((hg - 1 : Nat) : Int) := by omega
   simp (disch := omega) only [aD, aR, d1, hZ, aLs, fF, e1, aQ, eQ, xL, bJ, aA, gV, aLt, eJ, bO, g1, aH, dV, d2, aG]
   refine Xq o3 rfl (by rw [qC]; simp [m3]; omega) fun w4 o4 x4 s4 => ?_
   rw [ayQ (by omega)] at o4
   exact ⟨ps.length - (i + 1), by omega, i + 1, hg - 1, _, rfl, rfl, by omega, by omega, by omega, by simp [harr], htop, o4, x3.new x4 hw1, ob3.ext x4 (by omega)⟩
  .have d2 : (ps[i] == -1) = false := by simpa using hp
   rw [if_neg hp] at hng htop
   simp (disch := omega) only [aD, aR, d1, hZ, aLs, fF, aQ, eQ, xL, bJ, aA, bO, g1, aH, dV, d2, aE, aG]
   exact ⟨ps.length - (i + 1), by omega, i + 1, hg, arr, rfl, rfl, by omega, by omega, by omega, harr, htop, o3, x3, ob3⟩
 .have d1 : decide ((i : Int) < (ps.length : Int)) = false := by simp; omega
  rw [aNf (by omega), aeA] at htop
  obtain ⟨rfl, rfl⟩ : hg = high /\ arr = arr0 := by simpa using htop
  have c1 := ob3.cell (off := 1)
  simp only [Value.cells, aLq, aLr] at c1
  unfold Bz F2 Nq NY PA OG Ov M6 OZ
  simp (disch := omega) only [aD, aR, d1, fF, aQ, eQ, aA, bK, aLt, dS, c1, aH, gC, aE]
  clear d1 hlt hi hng htop
  have hbig : eM w3 w1.heap.size (fe .u8 (m3 arr)) := o3
  refine cR.rule (fun m t w' => ∃ (s j : Nat) (ar : List Int), m = ps.length - s /\ t = (.int .i64 (pos N j : Nat), .int .i64 s) /\ s <= ps.length /\ ar.length = N /\ place N hg (tI (ps.drop s) s) (pos N j) ar = place N hg (tI ps 0) 0 arr /\ (tI (ps.drop s) s).length <= hg /\ eM w' w1.heap.size (fe .u8 (m3 ar)) /\ aW w w' eS) ps.length
   ⟨0, 0, arr, rfl, by rw [V3] <;> rfl, by omega, harr, by rw [V3, aLy], by rw [aLy, hhigh]; exact aLF _, o3, x3⟩ ?_
  rintro m t w4 ⟨s, j, ar, rfl, rfl, hs4, har, hpl, hrl, o4, x4⟩
  by_cases hlt : s < ps.length
  .have d1 : decide ((s : Int) < (ps.length : Int)) = true := by simp; omega
   obtain ⟨b', off', c', e, _, hcell⟩ := (hs.ext x4 (bY _)).openI (by omega)
   cases e
   have g1 := hcell s hlt
   obtain ⟨q, hq⟩ : ∃ q, q = ps[s].toNat := ⟨_, rfl⟩
   have emax : (if (0 : Int) > ps[s] then (0 : Int) else ps[s]) = (q : Int) := by rw [hq]; split <;> omega
   rw [aAM hlt, <- hq] at hpl hrl
   have hqN : q <= N := by simp at hrl; omega
   unfold BR GO MT Pp We OJ NX WQ Ns
   simp (disch := omega) only [aD, aR, d1, hZ, aLs, aA, bO, g1, aH, A2, emax, aG]
   unfold OI Pb
   refine cR.rule (fun m t w' => ∃ (k j : Nat) (ar : List Int), m = q - k /\ t = (.int .i64 (pos N j : Nat), .int .i64 k) /\ k <= q /\ ar.length = N /\ place N hg (List.replicate (q - k) s ++ tI (ps.drop (s + 1)) (s + 1)) (pos N j) ar = place N hg (tI ps 0) 0 arr /\ eM w' w1.heap.size (fe .u8 (m3 ar)) /\ aW w w' eS) q
    ⟨0, j, ar, rfl, rfl, by omega, har, hpl, o4, x4⟩ ?_
   rintro m t w5 ⟨k, j5, ar5, rfl, rfl, hk, har5, hpl5, o5, x5⟩
   by_cases hkq : k < q
   .have d2 : decide ((k : Int) < (q : Int)) = true := by simp; omega
    have hp := axH (n := N) (by omega) j5
    have hhg : 0 < hg := by simp at hrl; omega
    unfold BS FL NN RZ ZT Se
    simp (disch := omega) only [aD, aR, d2, eQ, xL, gV, aLs, aLt, aA, eJ, aG]
    refine Xq o5 rfl (by rw [qC]; simp [m3]; omega) fun w6 o6 x6 s6 => ?_
    rw [ayQ (by omega)] at o6
    unfold RM
    rw [show q - k = (q - (k + 1)) + 1 from by omega, aMc, aMp, azR] at hpl5
    obtain ⟨d, _, hd2, hd3⟩ := XY (n := N) (high := hg) (by omega) hhg (j5 + 1)
    have hsk : amI N hg N (adv N (pos N j5)) = pos N (j5 + 1 + d) := by rw [ME]; exact hd3
    refine aJ2 (w0 := w) (by omega) hN2 hhg hgN (x5.new x6 hw1) ⟨j5 + 1 + d, hsk, ?_⟩
    rw [hsk] at hpl5
    unfold IN
    simp (disch := omega) only [aD, bJ, aQ, aA]
    exact ⟨q - (k + 1), by omega, k + 1, j5 + 1 + d, _, rfl, rfl, by omega, by simp [har5], hpl5, o6, x5.new x6 hw1⟩
   .have d2 : decide ((k : Int) < (q : Int)) = false := by simp; omega
    rw [show q - k = 0 from by omega, List.replicate_zero, aMM] at hpl5
    unfold BS FL I4
    simp (disch := omega) only [aD, aR, d2, bJ, aQ, aA, aE]
    exact ⟨ps.length - (s + 1), by omega, s + 1, j5, ar5, rfl, rfl, by omega, har5, hpl5, by simp at hrl; omega, o5, x5⟩
  .have d1 : decide ((s : Int) < (ps.length : Int)) = false := by simp; omega
   rw [aNf (by omega), tI, place] at hpl
   unfold BR GO I7
   simp (disch := omega) only [aD, aR, d1, aA, aE]
   exact ⟨_, rfl, hw1, by rw [<- hpl]; exact o4, x4⟩
def Es (log : Nat) (ps S : List Int) (i : Nat) : List T3 := (List.range (2 ^ log)).map fun j => if j < i then UZ log ps S j else (S.getD j 0, 0, 0)
def nxt (ps S : List Int) (i : Nat) : List Int := (List.range ps.length).map fun s => iU (ps.getD s 0) + ((S.take i).count (s : Int) : Nat)
theorem aFe {log : Nat} {ps S : List Int} (h : S.length = 2 ^ log) : Es log ps S 0 = m3 S := by
 unfold Es m3
 apply aMP
 .simp [h]
 .intro i h1 h2
  simp only [aLD, aNR] at h1
  simp only [aMH, aM9, Nat.not_lt_zero, if_false, aLE]
  rw [aLA (by omega)] <;> rfl
theorem aG1 (log : Nat) (ps : List Int) : Es log ps (rM 0 log ps) (2 ^ log) = xF log ps := by
 unfold Es xF
 refine aL7 fun j hj => ?_
 rw [if_pos (aL8.1 hj)]
theorem Ic (log : Nat) (ps S : List Int) (i : Nat) : (Es log ps S i).length = 2 ^ log := by simp [Es]
theorem aHX {log : Nat} {ps S : List Int} {i : Nat} (h : i < 2 ^ log) : (Es log ps S i)[i]'(by rw [Ic]; exact h) = (S.getD i 0, 0, 0) := by
 unfold Es; simp
theorem aHZ {log : Nat} {ps S : List Int} {i : Nat} (_ : i < 2 ^ log) : (Es log ps S i).set i (UZ log ps S i) = Es log ps S (i + 1) := by
 unfold Es
 apply aMP
 .simp
 .intro j h1 h2
  rw [List.getElem_set]
  simp only [aMH, aM9]
  by_cases hij : i = j
  .subst hij; simp
  .rw [if_neg hij]
   by_cases hj : j < i
   .rw [if_pos hj, if_pos (by omega)]
   .rw [if_neg hj, if_neg (by omega)]
theorem ZY (ps S : List Int) (i : Nat) : (nxt ps S i).length = ps.length := by simp [nxt]
theorem aHL (ps S : List Int) : nxt ps S 0 = ps.map iU := by
 unfold nxt
 apply aMP
 .simp
 .intro i h1 h2
  simp only [aLD, aNR] at h1
  simp only [aMH, aM9, aLB, List.count_nil, aLE]
  rw [aLA h1]; simp
theorem aBy {ps S : List Int} {i s : Nat} (h : s < ps.length) : (nxt ps S i)[s]'(by rw [ZY]; exact h) = iU ps[s] + ((S.take i).count (s : Int) : Nat) := by
 unfold nxt
 simp only [aMH, aM9, aLE]
 rw [aLA h] <;> rfl
theorem aII {ps S : List Int} {i s : Nat} (h : i < S.length) (hs : s < ps.length) (e : S[i] = (s : Int)) : (nxt ps S i).set s (iU ps[s] + ((S.take i).count (s : Int) : Nat) + 1) = nxt ps S (i + 1) := by
 apply aMP
 .simp [nxt]
 .intro j h1 h2
  have hj : j < ps.length := by simpa [nxt] using h2
  rw [List.getElem_set, aBy hj, aBy hj, aMq, aLA h, aMV]
  simp only [Option.toList, e, aNW]
  by_cases hij : s = j
  .subst hij; simp; omega
  .have : ((s : Int) == (j : Int)) = false := by simp; omega
   rw [if_neg hij, this]; simp
theorem aI8 {k b : Nat} (hb : b <= 64) (h : k * 2 ^ b <= 9223372036854775807) : IntKind.i64.wrap ((k : Int) * 2 ^ (min b IntKind.i64.bits)) = ((k * 2 ^ b : Nat) : Int) := by
 have e : min b IntKind.i64.bits = b := by simp only [IntKind.bits]; omega
 rw [e]
 have : (k : Int) * 2 ^ b = ((k * 2 ^ b : Nat) : Int) := by simp
 rw [this]
 exact aQ (by omega) (by omega)
section
variable {log : Nat} {ps S : List Int} {w0 w1 : aNX} {p1 p2 p4 b nb N : Nat} {sv : aNY}
theorem aD8 (hm : May log ps) (L : Lay log ps S) (hN : 2 ^ log = N) {i : Nat} (hlt : i < N) {w3 : aNX}
 (on3 : eM w3 nb ((nxt ps S i).map (Value.int .i64))) (ob3 : eM w3 b (fe .u8 (Es log ps S i)))
 (o13 : eM w3 p1 [.int .i64 log, sv]) (o43 : eM w3 p4 [.int .i64 log, .slice (some ⟨b, 0, none⟩) N N])
 (hne : p1 ≠ b /\ p4 ≠ b /\ nb ≠ b /\ p1 ≠ nb /\ p4 ≠ nb) {t2 : aNY} {kn : aNY -> aNY -> aNY -> aNY -> aNY -> aNY -> aNX -> Prop}
 (hk : ∀ w', eM w' nb ((nxt ps S (i + 1)).map (Value.int .i64)) -> eM w' b (fe .u8 (Es log ps S (i + 1))) -> aW w3 w' (fun y => y = nb ∨ y = b) →
  kn (.pointer (some ⟨p1, 0, none⟩)) t2 (.pointer (some ⟨p4, 0, none⟩)) (.slice (some ⟨nb, 0, none⟩) ps.length ps.length) (.int .i64 N) (.int .i64 ((i + 1 : Nat) : Int)) w') :
 Mj kn (.pointer (some ⟨p1, 0, none⟩)) t2 (.pointer (some ⟨p4, 0, none⟩)) (.slice (some ⟨nb, 0, none⟩) ps.length ps.length) (.int .i64 N) (.int .i64 i) w3 := by
 have h5 := hm.log5
 have h15 := hm.log15
 have hlen := hm.len256
 have hN2 : 2 ^ log <= 2 ^ 15 := aLC (by omega) h15
 have hSl : S.length = 2 ^ log := L.len
 have c40 := o43.cell (off := 0)
 have c41 := o43.cell (off := 1)
 have c10 := o13.cell (off := 0)
 simp only [aLq, aLr] at c40 c41 c10
 have hltN : i < 2 ^ log := by omega
 obtain ⟨s, hsl, hsS, hp1, hp2, hk', hcnt⟩ := axI hm L hltN
 obtain ⟨k, hkk⟩ : ∃ k, k = kAt ps S i := ⟨_, rfl⟩
 rw [<- hkk] at hk'
 have hk2 : k < 2 ^ (log + 1) := by rw [aL6]; omega
 obtain ⟨eb1, eb2, eb3, eb4⟩ := aBD (log := log) (k := k) (by omega) hk2
 have hel : i < (Es log ps S i).length := by rw [Ic]; exact hltN
 obtain ⟨f0, f1, f2⟩ := W6 .u8 (Es log ps S i) i hel
 rw [aHX hltN] at f0
 simp only at f0
 rw [hsS] at f0
 have g0 := ob3.cell (off := i * 3)
 rw [f0] at g0
 have hnx : ((nxt ps S i).map (Value.int .i64))[s]? = some (.int .i64 k) := by
  rw [aLZ, aLA (by rw [ZY]; exact hsl), aBy hsl, hk']
  simp; omega
 have gn := on3.cell (off := s)
 rw [hnx] at gn
 have hkb : k < 131072 := by
  have : 2 ^ (log + 1) <= 2 ^ 16 := aLC (by omega) (by omega)
  omega
 have hpn := sU (hm.low _ (aMf hsl))
 have hSi : S[i]'(by omega) = (s : Int) := by rw [<- hsS, aLE, aLA (by omega)] <;> rfl
 have hns := aII (ps := ps) (S := S) (i := i) (s := s) (by omega) hsl hSi
 have hkv : iU ps[s] + ((S.take i).count (s : Int) : Nat) + 1 = (k : Int) + 1 := by rw [hk']; omega
 rw [hkv] at hns
 have hent : UZ log ps S i = EW log (s : Int) k := by unfold UZ; rw [hsS, <- hkk]
 have hes := aHZ (log := log) (ps := ps) (S := S) (i := i) hltN
 rw [hent] at hes
 have hE0 : (Es log ps S i)[i]'hel = ((s : Int), 0, 0) := by rw [aHX hltN, hsS]
 clear hkk hcnt
 unfold Mj TR afS Um
 simp (disch := omega) only [aD, cT, aLt, aA, gB, c41, aH, gV, aLs, qW, eJ, iJ, g0, hZ, bO, gn, bJ, aQ]
 refine pH on3 rfl (by simp [ZY]; omega) fun w4 on4 x4 s4 => ?_
 rw [<- aNN, hns] at on4
 unfold TD TK
 have o14 := kB (o13.ext x4 (by omega))
 have o44 := o43.ext x4 (by omega)
 have ob4 := ob3.ext x4 (by omega)
 have c10 := o14.cell (off := 0)
 simp only [aLq] at c10
 simp (disch := omega) only [aD, bV, fY, kV, jH, Result.ok.injEq, Next.value.injEq, and_true, qW, aA, gP, true_and, bO, c10, aH]
 refine (aCB k (by omega) _).mono ?_
 rintro r w5 ⟨rfl, rfl⟩
 obtain ⟨nbits, hnbits⟩ : ∃ x, x = log + 1 - bl k := ⟨_, rfl⟩
 have e2 : (log : Int) - (bl k : Int) + 1 = (nbits : Int) := by omega
 have e3 : IntKind.i64.wrap ((log : Int) - (bl k : Int)) = (log : Int) - (bl k : Int) := aQ (by omega) (by omega)
 simp (disch := omega) only [c10, aH, fF, e3, aA, bJ, e2, aQ, true_and]
 have ob4 := kB ob4
 refine pH ob4 rfl (by rw [qC, Ic]; omega) fun w5 ob5 x5 s5 => ?_
 rw [(aoH .u8 (Es log ps S i) i hel _).2.1, hE0] at ob5
 unfold MC
 have o45 := kB ((kB o44).ext x5 (by omega))
 have ob5 := kB ob5
 have on5 := kB ((kB on4).ext x5 (by omega))
 have c41 := o45.cell (off := 1)
 simp only [aLq, aLr] at c41
 have hel5 : i < ((Es log ps S i).set i ((s : Int), (nbits : Int), 0)).length := by simpa using hel
 obtain ⟨-, f1, -⟩ := W6 .u8 _ i hel5
 simp only [aNy] at f1
 have g1 := ob5.cell (off := i * 3 + 1)
 rw [f1] at g1
 have hnb2 : k * 2 ^ nbits <= 2 ^ 16 := by
  rw [hnbits]
  have : 2 ^ (log + 1) <= 2 ^ 16 := aLC (by omega) (by omega)
  have := aLY (2 ^ (log + 1 - bl k)) (show k <= k + 1 by omega)
  omega
 have e4 := aI8 (k := k) (b := nbits) (by omega) (by omega)
 have e5 : (((k * 2 ^ nbits : Nat) : Int) - (N : Int)) = (EW log (s : Int) k).2.2 := by
  unfold EW
  simp only
  rw [<- hnbits, <- hN]
  simp
 have e6 : IntKind.i64.wrap (((k * 2 ^ nbits : Nat) : Int) - (N : Int)) = ((k * 2 ^ nbits : Nat) : Int) - (N : Int) := aQ (by omega) (by omega)
 rw [e5] at e6
 have e7 : (EW log (s : Int) k) = ((s : Int), (nbits : Int), (EW log (s : Int) k).2.2) := by unfold EW; rw [hnbits]
 generalize hq : k * 2 ^ nbits = q at *
 generalize hbase : (EW log (s : Int) k).2.2 = base at *
 simp (disch := omega) only [aD, qW, cT, aLt, aA, iK, true_and, gB, c41, aH, iP, gP, bO, g1, pG, aLs, e4, fF, e5, e6]
 refine pH ob5 rfl (by rw [qC]; simp [Ic]; omega) fun w6 ob6 x6 s6 => ?_
 rw [(aoH .u8 _ i hel5 _).2.2] at ob6
 simp only [aNy, List.set_set] at ob6
 rw [<- e7, hes] at ob6
 have xx : aW w3 w6 (fun y => y = nb ∨ y = b) :=
  ((((x4.mono fun _ _ h => .inl h : aW w3 w4 (fun y => y = nb ∨ y = b)).seq (aW.dr _ _)).seq (x5.mono fun _ _ h => .inr h)).seq (aW.dr _ _)).seq (x6.mono fun _ _ h => .inr h)
 unfold Mr
 simp (disch := omega) only [aD, bJ, aQ, aA]
 exact hk _ (on5.ext x6 (by omega)) ob6 xx
theorem aFP (hm : May log ps) (L : Lay log ps S) (hN : 2 ^ log = N) {w3 : aNX}
 (on3 : eM w3 nb ((nxt ps S 0).map (Value.int .i64))) (ob3 : eM w3 b (fe .u8 (m3 S)))
 (o13 : eM w3 p1 [.int .i64 log, sv]) (o23 : eM w3 p2 [.int .i64 0, .slice none 0 0]) (o43 : eM w3 p4 [.int .i64 log, .slice (some ⟨b, 0, none⟩) N N])
 (hne : p1 ≠ b /\ p4 ≠ b /\ nb ≠ b /\ p1 ≠ nb /\ p4 ≠ nb /\ p2 ≠ b /\ p2 ≠ nb) (hlo : w0.heap.size <= p2 /\ w0.heap.size <= b /\ w0.heap.size <= nb) (hx : aW w0 w3 eS) {R : aNY -> aNX -> Prop}
 (hR : ∀ w', eM w' b (fe .u8 (Es log ps S N)) -> aW w0 w' eS -> R (.tuple #[.agg #[.int .i64 log, .slice (some ⟨b, 0, none⟩) N N], .int .i64 0]) w') :
 IL R (.pointer (some ⟨p1, 0, none⟩)) (.pointer (some ⟨p2, 0, none⟩)) (.pointer (some ⟨p4, 0, none⟩)) (.slice (some ⟨nb, 0, none⟩) ps.length ps.length) w3 := by
 have hN2 : 2 ^ log <= 2 ^ 15 := aLC (by omega) hm.log15
 have c41 := o43.cell (off := 1)
 simp only [aLq, aLr] at c41
 unfold IL RH Sh Sd RD
 simp (disch := omega) only [aD, cT, aLt, aA, gB, c41, aH, iP]
 have ob0 : eM w3 b (fe .u8 (Es log ps S 0)) := by rw [aFe L.len]; exact ob3
 refine cR.rule (fun m t w' => ∃ i : Nat, m = N - i /\ t = .int .i64 i /\ i <= N /\ eM w' nb ((nxt ps S i).map (Value.int .i64)) /\ eM w' b (fe .u8 (Es log ps S i)) /\ aW w3 w' (fun y => y = nb ∨ y = b)) N
  ⟨0, rfl, rfl, by omega, on3, ob0, aW.refl _ _⟩ ?_
 rintro m t w4 ⟨i, rfl, rfl, hi, on4, ob4, x4⟩
 unfold IX QX
 have o44 := o43.ext x4 (by omega)
 have o24 := o23.ext x4 (by omega)
 by_cases hlt : i < N
 .have d1 : decide ((i : Int) < (N : Int)) = true := by simp only [decide_eq_true_eq]; omega
  simp (disch := omega) only [aD, aR, d1, aA, aG]
  refine aD8 hm L hN hlt on4 ob4 (o13.ext x4 (by omega)) o44 ⟨hne.1, hne.2.1, hne.2.2.1, hne.2.2.2.1, hne.2.2.2.2.1⟩ fun w5 on5 ob5 x5 => ?_
  exact ⟨N - (i + 1), by omega, i + 1, rfl, rfl, by omega, on5, ob5, x4.trans x5 (fun _ _ h => h)⟩
 .have d1 : decide ((i : Int) < (N : Int)) = false := by simp only [decide_eq_false_iff_not]; omega
  have : i = N := by omega
  subst this
  have l4 := Rp (off := 0) o44 (by simp)
  simp only [aLy, aLx, aLB] at l4
  simp (disch := omega) only [aD, aR, d1, aA, aE]
  unfold Mx
  simp (disch := omega) only [aD, l4, aA]
  refine I0 o24 rfl (by simp [one]) (by simp) fun w5 o25 x5 s5 => ?_
  refine aAr o25 (by simp [bM]) ?_
  simp only [bM, aLw, aLv, aLy, aLx, aLB]
  exact hR _ (ob4.ext x5 (by omega)) ((hx.trans x4 (fun y hy hh => by omega)).new x5 hlo.1)
theorem aDX (hm : May log ps) (L : Lay log ps S) (hN : 2 ^ log = N) {w : aNX} (hs : Sl w0 sv (ps.map (Value.int .i64)))
 (o1 : eM w p1 [.int .i64 log, sv]) (o2 : eM w p2 [.int .i64 0, .slice none 0 0]) (o4 : eM w p4 [.int .i64 log, .slice (some ⟨b, 0, none⟩) N N]) (ob : eM w b (fe .u8 (m3 S)))
 (hlo : w0.heap.size <= p2 /\ w0.heap.size <= b) (hne : p1 ≠ b /\ p2 ≠ b /\ p4 ≠ b) (hx : aW w0 w eS) {R : aNY -> aNX -> Prop}
 (hR : ∀ w', eM w' b (fe .u8 (Es log ps S N)) -> aW w0 w' eS -> R (.tuple #[.agg #[.int .i64 log, .slice (some ⟨b, 0, none⟩) N N], .int .i64 0]) w') :
 C0 R (.pointer (some ⟨p1, 0, none⟩)) (.pointer (some ⟨p2, 0, none⟩)) (.pointer (some ⟨p4, 0, none⟩)) w := by
 have hlen := hm.len256
 have hN2 : 2 ^ log <= 2 ^ 15 := aLC (by omega) hm.log15
 obtain ⟨a, c, rfl, hc⟩ := hs.lenI
 have c1 := o1.cell (off := 1)
 simp only [aLq, aLr] at c1
 unfold C0 Rj
 simp (disch := omega) only [aD, bK, aLt, aA, dS, c1, aH, gC]
 refine aGc (by omega) (by omega) fun w1 on x1 s1 => ?_
 rw [aLs] at on ⊢
 have l1 := o1.lt
 have l2 := o2.lt
 have l4 := o4.lt
 have lb := ob.lt
 have o1 := o1.ext x1 (fun h => h)
 have o2 := o2.ext x1 (fun h => h)
 have o4 := o4.ext x1 (fun h => h)
 have ob := ob.ext x1 (fun h => h)
 have x01 := hx.seq x1
 have c1 := o1.cell (off := 1)
 simp only [aLq, aLr] at c1
 have hwn : w0.heap.size <= w.heap.size := hx.size
 generalize w.heap.size = nb at *
 unfold Re R7 RS Q1 Rw
 simp (disch := omega) only [aD, bK, aLt, aA, dS, c1, aH, gC]
 refine cR.rule (fun m t w' => ∃ i : Nat, m = ps.length - i /\ t = .int .i64 i /\ i <= ps.length /\ eM w' nb (((ps.take i).map iU ++ List.replicate (ps.length - i) 0).map (Value.int .i64)) /\ aW w0 w' eS /\ aW w1 w' (fun y => y = nb)) ps.length
  ⟨0, rfl, rfl, by omega, by simpa using on, x01, aW.refl _ _⟩ ?_
 rintro m t w2 ⟨i, rfl, rfl, hi, on2, x2, y2⟩
 by_cases hlt : i < ps.length
 .have d1 : decide ((i : Int) < (ps.length : Int)) = true := by simp; omega
  obtain ⟨b', off', c', e, _, hcell⟩ := (hs.ext x2 (bY _)).openI (by omega)
  cases e
  have g1 := hcell i hlt
  have hp := hm.low _ (aMf hlt)
  have hple := awU hm hlt
  have hpv : iU ps[i] = ps[i] ∨ ps[i] = -1 := by unfold iU; split <;> omega
  have hpn := sU hp
  have emax : (if (0 - ps[i]) > ps[i] then (0 - ps[i]) else ps[i]) = iU ps[i] := by unfold iU; split <;> split <;> omega
  unfold C1
  simp (disch := omega) only [aD, aR, d1, hZ, aLs, aLt, bJ, aQ, aA, bO, g1, aH, LY, A2, emax, aG]
  refine pH on2 rfl (by simp; omega) fun w3 on3 x3 s3 => ?_
  refine ⟨ps.length - (i + 1), by omega, i + 1, rfl, rfl, by omega, ?_, x2.new x3 hwn, y2.trans x3 (fun _ _ h => h)⟩
  rw [<- aNN] at on3
  have e : ((ps.take i).map iU ++ List.replicate (ps.length - i) 0).set i (iU ps[i]) = (ps.take (i + 1)).map iU ++ List.replicate (ps.length - (i + 1)) 0 := by
   rw [show ps.length - i = (ps.length - (i + 1)) + 1 from by omega, aMc, aM8 _ _ (by rw [aLD, aLG]; omega)]
   have : i - ((ps.take i).map iU).length = 0 := by rw [aLD, aLG]; omega
   rw [this, aLw, aMq, aLA hlt, aLS, aLV]
   rfl
  rw [e] at on3
  exact on3
 .have d1 : decide ((i : Int) < (ps.length : Int)) = false := by simp; omega
  have : i = ps.length := by omega
  subst this
  have on2 : eM w2 nb ((nxt ps S 0).map (Value.int .i64)) := by rw [aHL]; simpa using on2
  unfold C1
  simp (disch := omega) only [aD, aR, d1, bJ, aQ, aA, aE]
  exact aFP hm L hN on2 (ob.ext y2 (by omega)) (o1.ext y2 (by omega)) (o2.ext y2 (by omega)) (o4.ext y2 (by omega)) (by omega) (by omega) x2 hR
def Tbl (w : aNX) (base b log : Nat) (L : List T3) (v : aNY) : Prop := v = .agg #[.int .i64 log, .slice (some ⟨b, 0, none⟩) L.length L.length] /\ base <= b /\ eM w b (fe .u8 L)
theorem aE1 {log most : Nat} {ps : List Int} (h : May log ps) (hl : log <= most) : aGD log ps most = 0 := by
 unfold aGD; rw [h.b]; simp; omega
theorem aIV {w : aNX} (hm : May log ps) (hs : Sl w sv (ps.map (Value.int .i64))) :
 aS pg Jz #[.agg #[.int .i64 log, sv]] w (fun r w' => ∃ b v, r = .tuple #[v, .int .i64 0] /\ Tbl w' w.heap.size b log (xF log ps) v /\ aW w w' eS) := by
 refine awM ?_
 have hlen := hm.len256
 unfold aAZ Sj Rv
 refine nR fun w1 o1 x1 s1 => ?_
 refine MG fun w2 o2 x2 s2 => ?_
 have o1 := o1.ext x2 (fun h => h)
 have l1 := rJ (off := 0) o1 (by simp [Value.cells])
 simp only [Value.cells, aLy, aLx, aLB] at l1
 simp (disch := omega) only [aD, l1, mE, aA, bV, jH, Result.ok.injEq, Next.value.injEq, and_true, bO, true_and]
 refine (aIB (most := 15) ((hs.ext x1 (bY _)).ext x2 (bY _)) (by omega)).mono ?_
 rintro r w3 ⟨rfl, x3⟩
 have hce := aE1 (most := 15) hm hm.log15
 rw [show (((15 : Nat) : Int)) = 15 from rfl] at hce
 rw [hce]
 have e0 : ((0 : Int) != 0) = false := rfl
 have x03 : aW w w3 eS := (x1.seq x2).seq x3
 have o1 := kB (o1.ext x3 (fun h => h))
 have o2 := kB (o2.ext x3 (fun h => h))
 have c0 := o1.cell (off := 0)
 simp only [Value.cells, aLq] at c0
 have l1 := rJ (off := 0) o1 (by simp [Value.cells])
 simp only [Value.cells, aLy, aLx, aLB] at l1
 have hz2 := o2.lt
 have fin : ∀ {b p4 : Nat} {w' : aNX}, eM w' w.heap.size [.int .i64 log, sv] -> eM w' w1.heap.size [.int .i64 0, .slice none 0 0] -> eM w' p4 [.int .i64 log, .slice (some ⟨b, 0, none⟩) (2 ^ log) (2 ^ log)] -> eM w' b (fe .u8 (m3 (rM 0 log ps))) -> w2.heap.size <= b -> p4 ≠ b -> aW w w' eS →
     C0 (fun r w' => ∃ b v, r = .tuple #[v, .int .i64 0] /\ Tbl w' w.heap.size b log (xF log ps) v /\ aW w w' eS) (.pointer (some ⟨w.heap.size, 0, none⟩)) (.pointer (some ⟨w1.heap.size, 0, none⟩)) (.pointer (some ⟨p4, 0, none⟩)) w' := by
  intro b p4 w' h1 h2 h3 h4 h5 h6 h7
  refine aDX hm (Ok hm 0) rfl hs h1 h2 h3 h4 (by omega) (by omega) h7 fun w'' ho hx => ?_
  rw [aG1] at ho
  exact ⟨b, _, rfl, ⟨by rw [xE], by omega, ho⟩, hx⟩
 simp (disch := omega) only [cY, e0, aA, aE]
 have hdr : (dr w3).heap.size = w3.heap.size := rfl
 have h23 := x3.size
 refine aHd ?_ ?_
 .simp (disch := omega) only [c0, aH, l1, aA, true_and]
  refine (aDr hm ((hs.ext x03 (bY _)).dr)).mono ?_
  rintro r w4 ⟨b, rfl, hb, ob, x4⟩
  have o1 := o1.ext x4 (fun h => h)
  have c0 := o1.cell (off := 0)
  simp only [Value.cells, aLq] at c0
  simp (disch := omega) only [c0, aH, jG, Result.ok.injEq, Next.value.injEq, and_true, aA, true_and]
  refine MG fun w5 o5 x5 s5 => ?_
  have o1 := o1.ext x5 (fun h => h)
  have c0 := o1.cell (off := 0)
  simp only [Value.cells, aLq] at c0
  simp (disch := omega) only [c0, aH, true_and]
  have hlb := ob.lt
  refine I0 o5 rfl (by simp [one]) (by simp) fun w6 o6 x6 s6 => ?_
  have h45 := x4.size
  refine fin (o1.ext x6 (by omega)) (((o2.ext x4 (fun h => h)).ext x5 (fun h => h)).ext x6 (by omega)) o6 ((ob.ext x5 (fun h => h)).ext x6 (by omega)) (by omega) (by omega) ?_
  exact (((x03.seq (aW.dr _ _)).seq x4).seq x5).new x6 (by omega)
 .simp (disch := omega) only [c0, aH, l1, aA, true_and]
  refine MG fun w4 o4 x4 s4 => ?_
  have o1 := o1.ext x4 (fun h => h)
  have c0 := o1.cell (off := 0)
  simp only [Value.cells, aLq] at c0
  have l1 := rJ (off := 0) o1 (by simp [Value.cells])
  simp only [Value.cells, aLy, aLx, aLB] at l1
  simp (disch := omega) only [l1, c0, aH, and_true, true_and]
  refine (aDr hm ((((hs.ext x03 (bY _)).dr).ext x4 (bY _)))).mono ?_
  rintro r w5 ⟨b, rfl, hb, ob, x5⟩
  have o1 := o1.ext x5 (fun h => h)
  have c0 := o1.cell (off := 0)
  simp only [Value.cells, aLq] at c0
  simp (disch := omega) only [c0, aH, jG, aA, true_and]
  refine I0 (o4.ext x5 (fun h => h)) rfl (by simp [one]) (by simp) fun w6 o6 x6 s6 => ?_
  refine fin (o1.ext x6 (by omega)) (((o2.ext x4 (fun h => h)).ext x5 (fun h => h)).ext x6 (by omega)) o6 (ob.ext x6 (by omega)) (by omega) (by omega) ?_
  exact (((x03.seq (aW.dr _ _)).seq x4).seq x5).new x6 (by omega)
end
theorem Tbl.ext {w w' : aNX} {base b log : Nat} {L : List T3} {v : aNY} {M : Nat -> Prop} (h : Tbl w base b log L v) (hx : aW w w' M) (hM : ¬ M b) : Tbl w' base b log L v := ⟨h.1, h.2.1, h.2.2.ext hx hM⟩
theorem aB5 {k : IntKind} {L : List T3} {i : Nat} (h : i < L.length) : ((fe k L).drop (i * 3)).take 3 = [.int k L[i].1, .int .i64 L[i].2.1, .int .i64 L[i].2.2] := by
 obtain ⟨h0, h1, h2⟩ := W6 k L i h
 apply aMC
 intro j
 match j with
 | 0 => rw [aMg (by omega), aM7]; exact h0
 | 1 => rw [aMg (by omega), aM7]; exact h1
 | 2 => rw [aMg (by omega), aM7]; exact h2
 | j + 3 => rw [aLH (by rw [aLG]; omega), aLH (by simp)]
theorem aEp (log : Nat) (ps : List Int) {i : Nat} (h : i < 2 ^ log) : ((xF log ps)[i]'(by rw [xE]; exact h)).1 = (rM 0 log ps).getD i 0 := by
 unfold xF UZ EW; simp
def cn (S : List Int) (i : Nat) : List Int := (List.range 256).map fun (s : Nat) => (((S.take i).count (s : Int) : Nat) : Int)
theorem aoM (S : List Int) (i : Nat) : (cn S i).length = 256 := by simp [cn]
theorem aIQ (S : List Int) : cn S 0 = List.replicate 256 0 := by
 unfold cn
 apply aMP
 .simp
 .intro i h1 h2
  simp only [aMH, aM9, aLB, List.count_nil, List.getElem_replicate]; rfl
theorem aEK {S : List Int} {i s : Nat} (h : s < 256) : (cn S i)[s]'(by rw [aoM]; exact h) = (((S.take i).count (s : Int) : Nat) : Int) := by simp [cn]
theorem aJF {S : List Int} {i s : Nat} (hi : i < S.length) (hs : s < 256) (e : S[i] = (s : Int)) : (cn S i).set s ((((S.take i).count (s : Int) : Nat) : Int) + 1) = cn S (i + 1) := by
 apply aMP
 .simp [cn]
 .intro j h1 h2
  have hj : j < 256 := by simpa [cn] using h2
  rw [List.getElem_set, aEK hj, aEK hj, aMq, aLA hi, aMV]
  simp only [Option.toList, e, aNW]
  by_cases hij : s = j
  .subst hij; simp
  .have : ((s : Int) == (j : Int)) = false := by simp; omega
   rw [if_neg hij, this]; simp
theorem aJg {k : IntKind} {L : List T3} {i : Nat} {e : T3} (h : L[i]? = some e) : (fe k L)[i * 3]? = some (.int k e.1) /\ (fe k L)[i * 3 + 1]? = some (.int .i64 e.2.1) /\ (fe k L)[i * 3 + 2]? = some (.int .i64 e.2.2) := by
 have hi : i < L.length := by
  rcases aLO i L.length with h' | h'
  .exact h'
  .rw [aLH h'] at h; cases h
 rw [aLA hi] at h
 have := W6 k L i hi
 rw [aLT h] at this
 exact this
def Low (L : List T3) : Prop := ∀ e ∈ L, ∃ n : Nat, e.2.1 = (n : Int) /\ n <= 20 /\ 0 <= e.2.2 /\ e.2.2 <= 100000
theorem aEz {log : Nat} {ps : List Int} (hm : May log ps) : Low (xF log ps) := by
 intro e he
 obtain ⟨i, hi', rfl⟩ := aMX he
 have hi := hi'
 rw [xE] at hi
 have hat := aA7 (ps := ps) hi
 rw [aLA hi'] at hat
 rw [aLT hat]
 have L := Ok hm 0
 obtain ⟨s, hs, hg, hp1, hp2, hk, hc⟩ := axI hm L hi
 have hk2 : kAt ps (rM 0 log ps) i < 2 ^ (log + 1) := by rw [aL6]; omega
 obtain ⟨e1, e2, e3, e4⟩ := aBD (log := log) (k := kAt ps (rM 0 log ps) i) (by omega) hk2
 have h15 := hm.log15
 have hb : 2 ^ (log + 1) <= 2 ^ 16 := aLC (by omega) (by omega)
 have hpow : ((2 ^ log : Nat) : Int) = (2 : Int) ^ log := by simp
 unfold UZ EW
 rw [<- hpow]
 rw [Nat.succ_mul] at e2
 have hA := aMy (aMy (Nat.le_add_right _ _) e2) hb
 generalize hX : kAt ps (rM 0 log ps) i * 2 ^ (log + 1 - bl (kAt ps (rM 0 log ps) i)) = X at *
 refine ⟨_, rfl, by omega, ?_, ?_⟩
 .show (0 : Int) <= (X : Int) - ((2 ^ log : Nat) : Int)
  omega
 .show (X : Int) - ((2 ^ log : Nat) : Int) <= 100000
  omega
theorem aGa {log k : Nat} (h15 : log <= 15) (hk1 : 1 <= k) (hk2 : k < 2 ^ (log + 1)) {w0 w : aNX} {p1 : Nat} {sv t2 n5 t6 seen i15 : aNY} (o1 : eM w p1 [.int .i64 log, sv])
 {k12 : aNY -> aNY -> aNY -> aNY -> aNY -> aNY -> aNY -> aNY -> aNX -> Prop}
 (hR : k12 (.pointer (some ⟨p1, 0, none⟩)) t2 n5 t6 seen i15 (.int .i64 k) (.int .i64 ((log + 1 - bl k : Nat) : Int)) w) :
 Gv k12 (.pointer (some ⟨p1, 0, none⟩)) t2 n5 t6 seen i15 (.int .i64 k) (.int .i64 log) w := by
 have hb1 := Ni (k := k) (by omega)
 have hb2 := xA hk2
 have hlt := XD k
 have hle := ZP (k := k) (by omega)
 have c0 := o1.cell (off := 0)
 simp only [aLq] at c0
 unfold Gv
 refine cR.rule (fun m t w' => ∃ q : Nat, m = log - q /\ t = .int .i64 ((log - q : Nat) : Int) /\ q + 1 <= bl k /\ w' = w) log ⟨0, rfl, rfl, by omega, rfl⟩ ?_
 rintro m t w' ⟨q, rfl, rfl, hq, rfl⟩
 have e1 : (log : Int) - ((log - q : Nat) : Int) + 1 = ((q + 1 : Nat) : Int) := by omega
 have hw : IntKind.i64.wrap ((log : Int) - ((log - q : Nat) : Int)) = (log : Int) - ((log - q : Nat) : Int) := aQ (by omega) (by omega)
 unfold GV
 simp (disch := omega) only [aD, bB, fF, aQ, aA, bO, c0, aH, hw, bJ, e1]
 refine (IG (q + 1) (by omega) _).mono ?_
 rintro r w1 ⟨rfl, rfl⟩
 have hpw : ((2 ^ (q + 1) : Nat) : Int) = (2 : Int) ^ (q + 1) := by simp
 rw [<- hpw]
 by_cases hc : 2 ^ (q + 1) <= k
 .have d1 : decide (((2 ^ (q + 1) : Nat) : Int) <= (k : Int)) = true := by simp only [decide_eq_true_eq]; omega
  have hq2 : q + 2 <= bl k := by
   rcases aLO (q + 1) (bl k) with h | h
   .exact h
   .have : bl k = q + 1 := by omega
    rw [this] at hlt; omega
  simp (disch := omega) only [Ah, d1, aA, and_true, aG]
  exact ⟨log - (q + 1), by omega, q + 1, rfl, by congr 1; omega, hq2⟩
 .have d1 : decide (((2 ^ (q + 1) : Nat) : Int) <= (k : Int)) = false := by simp only [decide_eq_false_iff_not]; omega
  have : bl k = q + 1 := by
   have := xA (k := k) (n := q + 1) (by omega)
   omega
  rw [this, show log + 1 - (q + 1) = log - q from by omega] at hR
  simp (disch := omega) only [Ah, d1, aA, and_true, aE]
  exact hR
theorem aGo {N high j : Nat} (hN : 0 < N) (hN2 : N <= 32768) (hh : 0 < high) (hhN : high <= N) {w : aNX} {c1 t2 t6 s k : aNY}
 {k8 : aNY -> aNY -> aNY -> aNY -> aNY -> aNY -> aNY -> aNY -> aNX -> Prop}
 (hR : k8 c1 t2 (.int .i64 N) t6 (.int .i64 ((high : Int) - 1)) (.int .i64 (amI N high N (pos N j) : Nat)) s k w) :
 Dt k8 c1 t2 (.int .i64 N) t6 (.int .i64 ((high : Int) - 1)) (.int .i64 (pos N j : Nat)) s k (.int .i64 0) w := by
 obtain ⟨d, h1, h2, h3⟩ := XY hN hh j
 have hd : d < N := by
  obtain ⟨D, hD, h0⟩ := aE6 N j hN
  rcases aLO d N with h | h
  .exact h
  .have := h1 D (by omega)
   omega
 rw [h3] at hR
 unfold Dt
 refine cR.rule (fun m t w' => ∃ q : Nat, m = d - q /\ t = (.int .i64 (pos N (j + q) : Nat), .int .i64 q) /\ q <= d /\ w' = w) d ⟨0, rfl, rfl, by omega, rfl⟩ ?_
 rintro m t w' ⟨q, rfl, rfl, hq, rfl⟩
 have hp := axH hN (j + q)
 have d1 : decide ((q : Int) < (N : Int)) = true := by simp only [decide_eq_true_eq]; omega
 have e1 : (N : Int).tdiv 2 = ((N / 2 : Nat) : Int) := by rw [aLK (by omega)]; omega
 have e3 : (N : Int).tdiv 8 = ((N / 8 : Nat) : Int) := by rw [aLK (by omega)]; omega
 have e4 : (((pos N (j + q) : Nat) : Int) + ((N / 2 : Nat) : Int) + ((N / 8 : Nat) : Int) + 3).tmod (N : Int) = ((pos N (j + q + 1) : Nat) : Int) := by
  rw [aLU (by omega), <- ME]
  unfold adv
  simp
 unfold Dv
 by_cases hqd : q < d
 .have := h1 q hqd
  have d2 : decide ((high : Int) - 1 < ((pos N (j + q) : Nat) : Int)) = true := by simp only [decide_eq_true_eq]; omega
  simp (disch := omega) only [aD, aR, d1, oY, e1, aQ, e3, bJ, aA, rL, e4, rC, bF, if_true, bL, cX, d2, and_true, aG]
  exact ⟨d - (q + 1), by omega, q + 1, rfl, rfl, by omega⟩
 .have : q = d := by omega
  subst this
  have d2 : decide ((high : Int) - 1 < ((pos N (j + q) : Nat) : Int)) = false := by simp only [decide_eq_false_iff_not]; omega
  simp (disch := omega) only [aD, aR, d1, oY, aQ, bJ, aA, rL, rC, bF, if_true, bL, cX, d2, and_true, aE]
  exact hR
theorem aAI {k : IntKind} {L : List Int} {rest : List aNY} {i : Nat} (h : i < L.length) (x : Int) : (fe k (m3 L) ++ rest).set (i * 3) (.int k x) = fe k (m3 (L.set i x)) ++ rest := by
 rw [aMI _ _ (by rw [qC]; simp [m3]; omega), ayQ h]
theorem aF1 {log N high cc p1 p6 b : Nat} {ps : List Int} {sv t2 : aNY} {arr arr' : List Int} {rest : List aNY} {w0 w : aNX} (hm : May log ps) (hs : Sl w0 sv (ps.map (Value.int .i64))) (hx : aW w0 w eS)
 (hN2 : N <= 32768) (hcc : N <= cc) (harr : arr.length = N) (hng : (xD ps 0).length <= N) (ht : aeA ps 0 N arr = (high, arr')) (hlo : w0.heap.size <= b) (hne : p1 ≠ b /\ p6 ≠ b)
 (o1 : eM w p1 [.int .i64 log, sv]) (o6 : eM w p6 [.int .i64 log, .slice (some ⟨b, 0, none⟩) N cc]) (ob : eM w b (fe .i64 (m3 arr) ++ rest))
 {k2 : aNY -> aNY -> aNY -> aNY -> aNY -> aNX -> Prop}
 (hR : ∀ w', eM w' b (fe .i64 (m3 arr') ++ rest) -> aW w w' (fun y => y = b) -> k2 (.pointer (some ⟨p1, 0, none⟩)) t2 (.int .i64 N) (.pointer (some ⟨p6, 0, none⟩)) (.int .i64 ((high : Int) - 1)) w') :
 DG k2 (.pointer (some ⟨p1, 0, none⟩)) t2 (.int .i64 N) (.pointer (some ⟨p6, 0, none⟩)) (.int .i64 ((N : Int) - 1)) (.int .i64 0) w := by
 have hlen := hm.len256
 obtain ⟨a, c, rfl, hc⟩ := hs.lenI
 unfold DG
 refine cR.rule (fun m t w' => ∃ (i hg : Nat) (ar : List Int), m = ps.length - i /\ t = (.int .i64 ((hg : Int) - 1), .int .i64 i) /\ i <= ps.length /\ (xD (ps.drop i) i).length <= hg /\ hg <= N /\ ar.length = N /\ aeA (ps.drop i) i hg ar = (high, arr') /\ eM w' b (fe .i64 (m3 ar) ++ rest) /\ aW w w' (fun y => y = b)) ps.length
  ⟨0, N, arr, rfl, rfl, by omega, by rw [aLy]; exact hng, by omega, harr, by rw [aLy]; exact ht, ob, aW.refl _ _⟩ ?_
 rintro m t w3 ⟨i, hg, ar, rfl, rfl, hi, hng, hgN, harr, htop, o3, x3⟩
 have c1 := (o1.ext x3 hne.1).cell (off := 1)
 have c6 := (o6.ext x3 hne.2).cell (off := 1)
 simp only [aLq, aLr] at c1 c6
 unfold Di La
 by_cases hlt : i < ps.length
 .have d1 : decide ((i : Int) < (ps.length : Int)) = true := by simp; omega
  obtain ⟨b', off', c', e, _, hcell⟩ := (hs.ext (hx.new x3 hlo) (bY _)).openI (by omega)
  cases e
  have g1 := hcell i hlt
  have hd : ps.drop i = ps[i] :: ps.drop (i + 1) := aL2 hlt
  have hlow := hm.low _ (aMf hlt)
  rw [hd, xD] at hng
  rw [hd, aeA] at htop
  by_cases hp : ps[i] = -1
  .have d2 : decide (ps[i] < 0) = true := by simp; omega
   rw [if_pos hp] at hng htop
   simp only [aLP] at hng
   have e1 : (hg : Int) - 1 = ((hg - 1 : Nat) : Int) := by omega
   have e2 : IntKind.i64.wrap (((hg - 1 : Nat) : Int) - 1) = ((hg - 1 : Nat) : Int) - 1 := aQ (by omega) (by omega)
   rw [e1]
   simp (disch := omega) only [aD, aN, aLt, bN, fF, aQ, aA, bG, dS, c1, aH, gC, aR, d1, hZ, aLs, bO, g1, d2, c6, bT, bU, aG]
   refine pH o3 rfl (by rw [aLz, qC]; simp [m3]; omega) fun w4 o4 x4 s4 => ?_
   rw [aAI (by omega)] at o4
   unfold Ae
   simp (disch := omega) only [aD, bJ, aQ, aA]
   exact ⟨ps.length - (i + 1), by omega, i + 1, hg - 1, _, rfl, rfl, by omega, by omega, by omega, by simp [harr], htop, o4, x3.trans x4 (fun _ _ h => h)⟩
  .have d2 : decide (ps[i] < 0) = false := by simp; omega
   rw [if_neg hp] at hng htop
   unfold Ae
   simp (disch := omega) only [aD, aN, aLt, bN, fF, aQ, bJ, aA, bG, dS, c1, aH, gC, aR, d1, hZ, aLs, bO, g1, d2, c6, aE, aG]
   exact ⟨ps.length - (i + 1), by omega, i + 1, hg, ar, rfl, rfl, by omega, by omega, by omega, harr, htop, o3, x3⟩
 .have d1 : decide ((i : Int) < (ps.length : Int)) = false := by simp; omega
  rw [aNf (by omega), aeA] at htop
  obtain ⟨rfl, rfl⟩ : hg = high /\ ar = arr' := by simpa using htop
  simp (disch := omega) only [aD, aN, aLt, bN, fF, aQ, aA, bG, dS, c1, aH, gC, aR, d1, aE]
  exact hR _ o3 x3
theorem aEv {log N high cc p1 p6 b : Nat} {ps : List Int} {sv t2 : aNY} {arr : List Int} {rest : List aNY} {w0 w : aNX} (hm : May log ps) (hs : Sl w0 sv (ps.map (Value.int .i64))) (hx : aW w0 w eS)
 (hN1 : 32 <= N) (hN2 : N <= 32768) (hcc : N <= cc) (harr : arr.length = N) (hhigh : (tI ps 0).length = high) (hhN : high <= N) (hlo : w0.heap.size <= b) (hne : p1 ≠ b /\ p6 ≠ b)
 (o1 : eM w p1 [.int .i64 log, sv]) (o6 : eM w p6 [.int .i64 log, .slice (some ⟨b, 0, none⟩) N cc]) (ob : eM w b (fe .i64 (m3 arr) ++ rest))
 {k4 : aNY -> aNY -> aNY -> aNY -> aNX -> Prop}
 (hR : ∀ w', eM w' b (fe .i64 (m3 (place N high (tI ps 0) 0 arr)) ++ rest) -> aW w w' (fun y => y = b) -> k4 (.pointer (some ⟨p1, 0, none⟩)) t2 (.int .i64 N) (.pointer (some ⟨p6, 0, none⟩)) w') :
 DH k4 (.pointer (some ⟨p1, 0, none⟩)) t2 (.int .i64 N) (.pointer (some ⟨p6, 0, none⟩)) (.int .i64 ((high : Int) - 1)) (.int .i64 0) (.int .i64 0) w := by
 have hlen := hm.len256
 obtain ⟨a, c, rfl, hc⟩ := hs.lenI
 unfold DH
 refine cR.rule (fun m t w' => ∃ (s j : Nat) (ar : List Int), m = ps.length - s /\ t = (.int .i64 (pos N j : Nat), .int .i64 s) /\ s <= ps.length /\ ar.length = N /\ place N high (tI (ps.drop s) s) (pos N j) ar = place N high (tI ps 0) 0 arr /\ (tI (ps.drop s) s).length <= high /\ eM w' b (fe .i64 (m3 ar) ++ rest) /\ aW w w' (fun y => y = b)) ps.length
  ⟨0, 0, arr, rfl, by rw [V3] <;> rfl, by omega, harr, by rw [V3, aLy], by rw [aLy, hhigh]; exact aLF _, ob, aW.refl _ _⟩ ?_
 rintro m t w4 ⟨s, j, ar, rfl, rfl, hs4, har, hpl, hrl, o4, x4⟩
 have c1 := (o1.ext x4 hne.1).cell (off := 1)
 simp only [aLq, aLr] at c1
 unfold DB KY
 by_cases hlt : s < ps.length
 .have d1 : decide ((s : Int) < (ps.length : Int)) = true := by simp; omega
  obtain ⟨q, hq⟩ : ∃ q, q = ps[s].toNat := ⟨_, rfl⟩
  rw [aAM hlt, <- hq] at hpl hrl
  have hqN : q <= N := by simp at hrl; omega
  simp (disch := omega) only [aD, aN, aLt, aA, dS, c1, aH, gC, aR, d1, aG]
  unfold LS JO Uu JM Kd J6
  refine cR.rule (fun m t w' => ∃ (k j : Nat) (ar : List Int), m = q - k /\ t = (.int .i64 (pos N j : Nat), .int .i64 k) /\ k <= q /\ ar.length = N /\ place N high (List.replicate (q - k) s ++ tI (ps.drop (s + 1)) (s + 1)) (pos N j) ar = place N high (tI ps 0) 0 arr /\ eM w' b (fe .i64 (m3 ar) ++ rest) /\ aW w w' (fun y => y = b)) q
   ⟨0, j, ar, rfl, rfl, by omega, har, hpl, o4, x4⟩ ?_
  rintro m t w5 ⟨k, j5, ar5, rfl, rfl, hk, har5, hpl5, o5, x5⟩
  have c15 := (o1.ext x5 hne.1).cell (off := 1)
  have c65 := (o6.ext x5 hne.2).cell (off := 1)
  simp only [aLq, aLr] at c15 c65
  obtain ⟨b', off', c', e, _, hcell⟩ := (hs.ext (hx.new x5 hlo) (bY _)).openI (by omega)
  cases e
  have g1 := hcell s hlt
  unfold C2 Lm
  by_cases hkq : k < q
  .have d2 : decide ((k : Int) < ps[s]) = true := by simp; omega
   have hp := axH (n := N) (by omega) j5
   have hhg : 0 < high := by simp at hrl; omega
   simp (disch := omega) only [aD, aN, aLt, aA, dS, c15, aH, hZ, aLs, bO, g1, aR, d2, aG]
   unfold KP JE UM LB
   simp (disch := omega) only [aD, bN, aLt, oY, aA, bJ, rL, bG, c65, aH, bT, aLs, bU]
   refine pH o5 rfl (by rw [aLz, qC]; simp [m3]; omega) fun w6 o6' x6 s6 => ?_
   rw [aAI (by omega)] at o6'
   have e1 : (N : Int).tdiv 2 = ((N / 2 : Nat) : Int) := by rw [aLK (by omega)]; omega
   have e3 : (N : Int).tdiv 8 = ((N / 8 : Nat) : Int) := by rw [aLK (by omega)]; omega
   have e4 : (((pos N j5 : Nat) : Int) + ((N / 2 : Nat) : Int) + ((N / 8 : Nat) : Int) + 3).tmod (N : Int) = ((pos N (j5 + 1) : Nat) : Int) := by
    rw [aLU (by omega), <- ME]
    unfold adv
    simp
   simp (disch := omega) only [e1, aQ, e3, e4]
   unfold KX
   rw [show q - k = (q - (k + 1)) + 1 from by omega, aMc, aMp, azR, ME] at hpl5
   obtain ⟨d, _, hd2, hd3⟩ := XY (n := N) (high := high) (by omega) hhg (j5 + 1)
   refine aGo (by omega) hN2 hhg hhN ?_
   rw [hd3] at hpl5 ⊢
   unfold Dc
   simp (disch := omega) only [aD, bJ, aQ, aA]
   exact ⟨q - (k + 1), by omega, k + 1, j5 + 1 + d, _, rfl, rfl, by omega, by simp [har5], hpl5, o6', x5.trans x6 (fun _ _ h => h)⟩
  .have d2 : decide ((k : Int) < ps[s]) = false := by simp; omega
   rw [show q - k = 0 from by omega, List.replicate_zero, aMM] at hpl5
   unfold De
   simp (disch := omega) only [aD, aN, aLt, bJ, aQ, aA, dS, c15, aH, hZ, aLs, bO, g1, aR, d2, aE]
   exact ⟨ps.length - (s + 1), by omega, s + 1, j5, ar5, rfl, rfl, by omega, har5, hpl5, by simp at hrl; omega, o5, x5⟩
 .have d1 : decide ((s : Int) < (ps.length : Int)) = false := by simp; omega
  rw [aNf (by omega), tI, place] at hpl
  simp (disch := omega) only [aD, aN, aLt, aA, dS, c1, aH, gC, aR, d1, aE]
  exact hR _ (by rw [<- hpl]; exact o4) x4
theorem aF0 {log N p6 : Nat} {c1 t2 : aNY} {w : aNX} (hN1 : 32 <= N) (hN2 : N <= 32768) (o6 : eM w p6 [.int .i64 log, .slice none 0 0])
 {k0 : aNY -> aNY -> aNY -> aNY -> aNX -> Prop}
 (hR : ∀ w' b cc rest, eM w' p6 [.int .i64 log, .slice (some ⟨b, 0, none⟩) N cc] -> eM w' b (fe .i64 (m3 (List.replicate N (-1))) ++ rest) -> N <= cc -> w.heap.size <= b -> aW w w' (fun y => y = p6 ∨ w.heap.size <= y) -> k0 c1 t2 (.int .i64 N) (.pointer (some ⟨p6, 0, none⟩)) w') :
 Dp k0 c1 t2 (.int .i64 N) (.pointer (some ⟨p6, 0, none⟩)) (.int .i64 0) w := by
 have l6 := o6.lt
 unfold Dp
 refine cR.rule (fun m t w' => ∃ (i : Nat) (v : aNY), m = N - i /\ t = .int .i64 i /\ i <= N /\ eM w' p6 [.int .i64 log, v] /\ tE w' w.heap.size 3 v i (fe .i64 (m3 (List.replicate i (-1)))) /\ aW w w' (fun y => y = p6 ∨ w.heap.size <= y)) N
  ⟨0, _, rfl, rfl, by omega, o6, tE.nil _ _ _, aW.refl _ _⟩ ?_
 rintro m t w1 ⟨i, v, rfl, rfl, hi, o1, os, x1⟩
 have c1' := o1.cell (off := 1)
 simp only [aLq, aLr] at c1'
 unfold Dx
 by_cases hlt : i < N
 .have d1 : decide ((i : Int) < (N : Int)) = true := by simp only [decide_eq_true_eq]; omega
  simp (disch := omega) only [aD, aR, d1, bN, aLt, eI, bJ, aQ, aA, bG, c1', aH, aG]
  refine S1 (cells := #[.int .i64 (-1), .int .i64 0, .int .i64 0]) (by decide) (by decide) (by kernel_rfl) fun w2 o2 x2 s2 => ?_
  refine yL (os.ext x2 (fun _ _ h => h)) (o2.cl (off := 0) (l := [.int .i64 (-1), .int .i64 0, .int .i64 0]) rfl (fun i hi => by rw [aLt])) (by simp [one]) (aMy x1.size x2.size) (by omega) fun v3 w3 o3 x3 => ?_
  have o13 := (o1.ext x2 (fun h => h)).ext x3 (by omega)
  refine SS o13 ?_ (by simp) fun w4 o4 x4 s4 => ?_
  .obtain ⟨a, c, e⟩ := o3.len
   rw [e] <;> rfl
  simp only [aLw, aLv] at o4
  refine ⟨N - (i + 1), by omega, i + 1, v3, rfl, rfl, by omega, o4, ?_, ?_⟩
  .have e : fe .i64 (m3 (List.replicate (i + 1) (-1))) = fe .i64 (m3 (List.replicate i (-1))) ++ [.int .i64 (-1), .int .i64 0, .int .i64 0] := by
    rw [aNm]; unfold m3; rw [aLS, aAG] <;> rfl
   rw [e]
   exact o3.ext x4 (fun b hb h => by omega)
  .exact ((x1.seq (x2.mono fun _ _ h => h.elim)).seq (x3.mono fun _ _ h => .inr h)).seq (x4.mono fun _ _ h => .inl h)
 .have d1 : decide ((i : Int) < (N : Int)) = false := by simp only [decide_eq_false_iff_not]; omega
  have : i = N := by omega
  subst this
  simp (disch := omega) only [aD, aR, d1, bN, aLt, eI, bJ, aQ, aA, bG, aE]
  rcases os.2 with ⟨_, h⟩ | ⟨b, c, rest, rfl, h2, h3, h4, h5⟩
  .omega
  .exact hR _ b c rest o1 h3 h5 h2 x1
theorem aG6 {k : IntKind} {L : List T3} {rest : List aNY} {i : Nat} (h : i < L.length) (x : Int) : (fe k L ++ rest).set (i * 3 + 1) (.int .i64 x) = fe k (L.set i (L[i].1, x, L[i].2.2)) ++ rest := by
 rw [aMI _ _ (by rw [qC]; omega), (aoH k L i h x).2.1]
theorem aHs {k : IntKind} {L : List T3} {rest : List aNY} {i : Nat} (h : i < L.length) (x : Int) : (fe k L ++ rest).set (i * 3 + 2) (.int .i64 x) = fe k (L.set i (L[i].1, L[i].2.1, x)) ++ rest := by
 rw [aMI _ _ (by rw [qC]; omega), (aoH k L i h x).2.2]
theorem aGf {log N cc p1 p6 b ns : Nat} {ps S : List Int} {sv t2 : aNY} {rest : List aNY} {w0 w : aNX} (hm : May log ps) (L : Lay log ps S) (hN : 2 ^ log = N) (hs : Sl w0 sv (ps.map (Value.int .i64))) (hx : aW w0 w eS) (hcc : N <= cc)
 {i : Nat} (hlt : i < N) (hne : p1 ≠ b /\ p6 ≠ b /\ ns ≠ b /\ p1 ≠ ns /\ p6 ≠ ns)
 (o1 : eM w p1 [.int .i64 log, sv]) (o6 : eM w p6 [.int .i64 log, .slice (some ⟨b, 0, none⟩) N cc]) (ob : eM w b (fe .i64 (Es log ps S i) ++ rest)) (os : eM w ns ((cn S i).map (Value.int .i64)))
 {kn : aNY -> aNY -> aNY -> aNY -> aNY -> aNY -> aNX -> Prop} {R : aNY -> aNX -> Prop}
 (hR : ∀ w', eM w' b (fe .i64 (Es log ps S (i + 1)) ++ rest) -> eM w' ns ((cn S (i + 1)).map (Value.int .i64)) -> aW w w' (fun y => y = ns ∨ y = b) →
  kn (.pointer (some ⟨p1, 0, none⟩)) t2 (.int .i64 N) (.pointer (some ⟨p6, 0, none⟩)) (.pointer (some ⟨ns, 0, none⟩)) (.int .i64 ((i + 1 : Nat) : Int)) w') :
 Dh kn R (.pointer (some ⟨p1, 0, none⟩)) t2 (.int .i64 N) (.pointer (some ⟨p6, 0, none⟩)) (.pointer (some ⟨ns, 0, none⟩)) (.int .i64 i) w := by
 have h15 := hm.log15
 have hlen := hm.len256
 have hN2 : 2 ^ log <= 2 ^ 15 := aLC (by omega) h15
 have hSl : S.length = 2 ^ log := L.len
 obtain ⟨a, c, rfl, hc⟩ := hs.lenI
 have c1 := o1.cell (off := 1)
 have c6 := o6.cell (off := 1)
 simp only [aLq, aLr] at c1 c6
 have hltN : i < 2 ^ log := by omega
 obtain ⟨s, hsl, hsS, hp1, hp2, hk', hcnt⟩ := axI hm L hltN
 obtain ⟨k, hkk⟩ : ∃ k, k = kAt ps S i := ⟨_, rfl⟩
 rw [<- hkk] at hk'
 have hk2 : k < 2 ^ (log + 1) := by rw [aL6]; omega
 have hel : i < (Es log ps S i).length := by rw [Ic]; exact hltN
 have hE0 : (Es log ps S i)[i]'hel = ((s : Int), 0, 0) := by rw [aHX hltN, hsS]
 have g0 := ob.cell (off := i * 3)
 rw [aLR (by rw [qC]; omega), (W6 .i64 (Es log ps S i) i hel).1, hE0] at g0
 simp only at g0
 obtain ⟨b', off', c', e, _, hcell⟩ := (hs.ext hx (bY _)).openI (by omega)
 cases e
 have g1 := hcell s hsl
 have hlow := hm.low _ (aMf hsl)
 have hSi : S[i]'(by omega) = (s : Int) := by rw [<- hsS, aLE, aLA (by omega)] <;> rfl
 have gs := os.cell (off := s)
 rw [aLZ, aLA (by rw [aoM]; omega), aEK (by omega)] at gs
 simp only [aMh] at gs
 have hcs := aJF (S := S) (i := i) (s := s) (by omega) (by omega) hSi
 have d1 : decide ((s : Int) < 0) = false := by simp
 have d2 : decide ((ps.length : Int) <= (s : Int)) = false := by simp; omega
 unfold Dh J2 Uw JP
 simp (disch := omega) only [aD, bN, aLt, aN, aA, fB, bG, c6, aH, bT, aLs, bU, bO, g0, aR, d1, cW, bF, aLu, if_false, bL, dS, c1, gC, nJ, d2, aE]
 have hpn := sU hlow
 have hcl : (S.take i).count (s : Int) <= i := by
  have := List.count_le_length (a := (s : Int)) (l := S.take i)
  rw [aLG] at this; omega
 have c10 := o1.cell (off := 0)
 simp only [aLq] at c10
 have ek : (((S.take i).count (s : Int) : Nat) : Int) + iU ps[s] = (k : Int) := by rw [hk']; omega
 have h9 : GG (fun cB t2 iB t6 dB nY w => BG kn cB t2 iB t6 dB nY w) (.pointer (some ⟨p1, 0, none⟩)) t2 (.int .i64 N) (.pointer (some ⟨p6, 0, none⟩)) (.pointer (some ⟨ns, 0, none⟩)) (.int .i64 i) (.int .i64 (s : Int)) (.int .i64 (iU ps[s])) w := by
  unfold GG NC
  simp (disch := omega) only [aD, mX, aLs, aLt, bB, aA, bO, gs, aH, bJ, ek, aQ]
  refine pH os rfl (by rw [aLD, aoM]; omega) fun w2 os2 x2 s2 => ?_
  rw [<- aNN, hcs] at os2
  have o12 := o1.ext x2 (by omega)
  have o62 := o6.ext x2 (by omega)
  have ob2 := ob.ext x2 (by omega)
  have c12 := o12.cell (off := 0)
  have c62 := o62.cell (off := 1)
  simp only [aLq, aLr] at c12 c62
  simp (disch := omega) only [c12, aH, aA]
  unfold Pa PI
  refine aGa (w0 := w0) h15 (by omega) hk2 o12 ?_
  unfold Fi
  obtain ⟨nbits, hnbits⟩ : ∃ x, x = log + 1 - bl k := ⟨_, rfl⟩
  obtain ⟨eb1, eb2, eb3, eb4⟩ := aBD (log := log) (k := k) (by omega) hk2
  rw [<- hnbits] at eb1 eb2 ⊢
  have hent : UZ log ps S i = EW log (s : Int) k := by unfold UZ; rw [hsS, <- hkk]
  have hes := aHZ (log := log) (ps := ps) (S := S) (i := i) hltN
  rw [hent] at hes
  simp (disch := omega) only [aD, bN, aLt, jH, Result.ok.injEq, Next.value.injEq, and_true, true_and, aA, bG, c62, aH, bT, aLs, cM]
  refine pH ob2 rfl (by rw [aLz, qC, Ic]; omega) fun w3 ob3 x3 s3 => ?_
  rw [aG6 hel, hE0] at ob3
  have o63 := kB (o62.ext x3 (by omega))
  have ob3 := kB ob3
  have c63 := o63.cell (off := 1)
  simp only [aLq, aLr] at c63
  simp (disch := omega) only [c63, aH, aA, bT, aLs, aLt, dD, true_and]
  refine (IG nbits (by omega) _).mono ?_
  rintro r w4 ⟨rfl, rfl⟩
  have hA := aMy (aMy (aLY (2 ^ nbits) (show k <= k + 1 by omega)) eb2) (aLC (show 0 < 2 by omega) (show log + 1 <= 16 by omega))
  have hpw : ((2 ^ nbits : Nat) : Int) = (2 : Int) ^ nbits := by simp
  rw [<- hpw]
  have em : (k : Int) * ((2 ^ nbits : Nat) : Int) = ((k * 2 ^ nbits : Nat) : Int) := by simp
  have e5 : (((k * 2 ^ nbits : Nat) : Int) - (N : Int)) = (EW log (s : Int) k).2.2 := by
   unfold EW
   simp only
   rw [<- hnbits, <- hN]
   simp
  have e7 : (EW log (s : Int) k) = ((s : Int), (nbits : Int), (EW log (s : Int) k).2.2) := by unfold EW; rw [hnbits]
  generalize hq : k * 2 ^ nbits = q at *
  have e6 : IntKind.i64.wrap ((q : Int) - (N : Int)) = (q : Int) - (N : Int) := aQ (by omega) (by omega)
  have ew : IntKind.i64.wrap (q : Int) = (q : Int) := aQ (by omega) (by omega)
  generalize hbase : (EW log (s : Int) k).2.2 = base at *
  rw [e5] at e6
  simp (disch := omega) only [c63, aH, oS, em, ew, aA, fF, e5, e6, true_and]
  have hel5 : i < ((Es log ps S i).set i ((s : Int), (nbits : Int), 0)).length := by simpa using hel
  refine pH ob3 rfl (by rw [aLz, qC]; simp [Ic]; omega) fun w5 ob5 x5 s5 => ?_
  rw [aHs hel5] at ob5
  simp only [aNy, List.set_set] at ob5
  rw [<- e7, hes] at ob5
  unfold BG
  simp (disch := omega) only [aD, bJ, aQ, aA]
  refine hR _ ob5 ((kB (os2.ext x3 (by omega))).ext x5 (by omega)) ?_
  exact (((x2.mono fun _ _ h => .inl h : aW w w2 (fun y => y = ns ∨ y = b)).seq (x3.mono fun _ _ h => .inr h)).seq (aW.dr _ _)).seq (x5.mono fun _ _ h => .inr h)
 unfold KT LM
 by_cases hneg : ps[s] < 0
 .have d3 : decide (ps[s] < 0) = true := by simpa using hneg
  have ep : iU ps[s] = 1 := by unfold iU; rw [if_pos hneg]
  rw [ep] at h9
  simp (disch := omega) only [aD, aN, aLt, aA, dS, c1, aH, hZ, aLs, bO, g1, aR, d3, aG]
  exact h9
 .have d3 : decide (ps[s] < 0) = false := by simpa using hneg
  have ep : iU ps[s] = ps[s] := by unfold iU; rw [if_neg hneg]
  rw [ep] at h9
  simp (disch := omega) only [aD, aN, aLt, aA, dS, c1, aH, hZ, aLs, bO, g1, aR, d3, aE]
  exact h9
theorem aFW {log N cc p1 p2 p6 b : Nat} {ps S : List Int} {sv : aNY} {rest : List aNY} {w0 w : aNX} (hm : May log ps) (L : Lay log ps S) (hN : 2 ^ log = N) (hs : Sl w0 sv (ps.map (Value.int .i64))) (hx : aW w0 w eS) (hcc : N <= cc)
 (hne : p1 ≠ b /\ p6 ≠ b /\ p2 ≠ b /\ p2 ≠ p6 /\ p1 ≠ p2) (hlo : w0.heap.size <= b /\ w0.heap.size <= p2)
 (o1 : eM w p1 [.int .i64 log, sv]) (o2 : eM w p2 [.int .i64 0, .slice none 0 0]) (o6 : eM w p6 [.int .i64 log, .slice (some ⟨b, 0, none⟩) N cc]) (ob : eM w b (fe .i64 (m3 S) ++ rest)) {R : aNY -> aNX -> Prop}
 (hR : ∀ w', eM w' b (fe .i64 (Es log ps S N) ++ rest) -> aW w0 w' eS -> R (.tuple #[.agg #[.int .i64 log, .slice (some ⟨b, 0, none⟩) N cc], .int .i64 0]) w') :
 Dw R (.pointer (some ⟨p1, 0, none⟩)) (.pointer (some ⟨p2, 0, none⟩)) (.int .i64 N) (.pointer (some ⟨p6, 0, none⟩)) w := by
 have hN2 : 2 ^ log <= 2 ^ 15 := aLC (by omega) hm.log15
 unfold Dw Lv
 refine aBC fun w1 os x1 s1 => ?_
 obtain ⟨cs, hcs, os⟩ : ∃ cs, cs = List.replicate 256 (Value.int .i64 0) /\ eM w1 w.heap.size cs := ⟨_, by kernel_rfl, os⟩
 rw [hcs] at os
 have os : eM w1 w.heap.size ((cn S 0).map (Value.int .i64)) := by rw [aIQ, aNO]; exact os
 have l1 := o1.lt
 have l2 := o2.lt
 have l6 := o6.lt
 have lb := ob.lt
 have hxs := hx.size
 have o1 := o1.ext x1 (fun h => h)
 have o2 := o2.ext x1 (fun h => h)
 have o6 := o6.ext x1 (fun h => h)
 have ob := ob.ext x1 (fun h => h)
 have x01 := hx.seq x1
 generalize w.heap.size = ns at *
 have ob : eM w1 b (fe .i64 (Es log ps S 0) ++ rest) := by rw [aFe L.len]; exact ob
 unfold J7 KS KH Lx Kc
 refine cR.rule (fun m t w' => ∃ i : Nat, m = N - i /\ t = .int .i64 i /\ i <= N /\ eM w' b (fe .i64 (Es log ps S i) ++ rest) /\ eM w' ns ((cn S i).map (Value.int .i64)) /\ aW w1 w' (fun y => y = ns ∨ y = b)) N ⟨0, rfl, rfl, by omega, ob, os, aW.refl _ _⟩ ?_
 rintro m t w2 ⟨i, rfl, rfl, hi, ob2, os2, x2⟩
 have x02 : aW w0 w2 eS := x01.trans x2 (fun y hy hh => by omega)
 have o62 := o6.ext x2 (by omega)
 unfold DP KJ
 by_cases hlt : i < N
 .have d1 : decide ((i : Int) < (N : Int)) = true := by simp only [decide_eq_true_eq]; omega
  simp (disch := omega) only [aD, aR, d1, aA, aG]
  refine aGf hm L hN hs x02 hcc hlt (by omega) (o1.ext x2 (by omega)) o62 ob2 os2 fun w3 ob3 os3 x3 => ?_
  exact ⟨N - (i + 1), by omega, i + 1, rfl, rfl, by omega, ob3, os3, x2.trans x3 (fun _ _ h => h)⟩
 .have d1 : decide ((i : Int) < (N : Int)) = false := by simp only [decide_eq_false_iff_not]; omega
  have : i = N := by omega
  subst this
  have l4 := vQ (off := 0) o62 (by simp)
  simp only [aLy, aLx, aLB] at l4
  simp (disch := omega) only [aD, aR, d1, aA, aE]
  unfold Gk
  simp (disch := omega) only [aD, l4, aA]
  refine AA (o2.ext x2 (by omega)) rfl (by simp [one]) (by simp) fun w5 o25 x5 s5 => ?_
  refine Vo o25 (by simp [bM]) ?_
  simp only [bM, aLw, aLv, aLy, aLx, aLB]
  exact hR _ (ob2.ext x5 (by omega)) (x02.new x5 hlo.2)
theorem aEV {log : Nat} {sv : aNY} {ps : List Int} {w : aNX} (hm : May log ps) (hs : Sl w sv (ps.map (Value.int .i64))) :
 aS pg I6 #[.agg #[.int .i64 log, sv]] w (fun r w' => ∃ b cc rest, r = .tuple #[.agg #[.int .i64 log, .slice (some ⟨b, 0, none⟩) (2 ^ log) cc], .int .i64 0] /\ w.heap.size <= b /\ eM w' b (fe .i64 (xF log ps) ++ rest) /\ aW w w' eS) := by
 refine arR ?_
 have hlen := hm.len256
 have h15 := hm.log15
 have hN2 : 2 ^ log <= 2 ^ 15 := aLC (by omega) h15
 have hN1 : 2 ^ 5 <= 2 ^ log := aLC (by omega) hm.log5
 unfold atE LK Lj
 refine nR fun w1 o1 x1 s1 => ?_
 refine BX fun w2 o2 x2 s2 => ?_
 have o1 := o1.ext x2 (fun h => h)
 have l1 := qA (off := 0) o1 (by simp [Value.cells])
 simp only [Value.cells, aLy, aLx, aLB] at l1
 simp (disch := omega) only [aD, l1, fB, aA, bB, bO]
 refine (aDT (most := 15) ((hs.ext x1 (bY _)).ext x2 (bY _)) (by omega)).mono ?_
 rintro r w3 ⟨rfl, x3⟩
 have hce := aE1 (most := 15) hm hm.log15
 rw [show (((15 : Nat) : Int)) = 15 from rfl] at hce
 rw [hce]
 have e0 : ((0 : Int) != 0) = false := rfl
 have o1 := o1.ext x3 (fun h => h)
 have o2 := o2.ext x3 (fun h => h)
 have c0 := o1.cell (off := 0)
 simp only [Value.cells, aLq] at c0
 simp (disch := omega) only [cY, e0, aA, c0, aH, aE]
 refine (IG log (by omega) _).mono ?_
 rintro r w4 ⟨rfl, rfl⟩
 have hpow : ((2 ^ log : Nat) : Int) = (2 : Int) ^ log := by simp
 rw [<- hpow]
 simp (disch := omega) only [c0, aH, aA, fD]
 refine BX fun w5 o5 x5 s5 => ?_
 refine AA o5 rfl (by simp [one]) (by simp) fun w6 o6 x6 s6 => ?_
 simp only [bM, aLw, aLv] at o6
 have l1 := o1.lt
 have l2 := o2.lt
 have l6 := o6.lt
 have z1 := x1.size
 have z2 := x2.size
 have z3 := x3.size
 have z5 := x5.size
 have z6 := x6.size
 have o1 := (o1.ext x5 (fun h => h)).ext x6 (by omega)
 have o2 := (o2.ext x5 (fun h => h)).ext x6 (by omega)
 have x06 : aW w w6 eS := ((((x1.seq x2).seq x3).seq x5)).new x6 (by omega)
 have hne : w.heap.size ≠ w1.heap.size /\ w.heap.size ≠ w4.heap.size /\ w1.heap.size ≠ w4.heap.size := by omega
 have hp12 : w.heap.size <= w1.heap.size /\ w1.heap.size <= w4.heap.size := by omega
 obtain ⟨p1, hp1⟩ : ∃ p1, p1 = w.heap.size := ⟨_, rfl⟩
 generalize w1.heap.size = p2 at *
 generalize w4.heap.size = p6 at *
 rw [<- hp1] at o1 ⊢
 obtain ⟨arr, ht, harr, hneg, hsp⟩ := atM hm (-1)
 have hlay := Ok hm (-1)
 have hEs := aG1 log ps
 rw [aFS hm 0 (-1)] at hEs
 rw [hsp] at hlay hEs
 generalize hN : 2 ^ log = N at *
 unfold KV Lb Lz JX
 refine aF0 (by omega) (by omega) o6 fun w7 b cc rest o67 ob hcc hb x7 => ?_
 have o17 := o1.ext x7 (by omega)
 have o27 := o2.ext x7 (by omega)
 have x07 : aW w w7 eS := x06.trans x7 (fun y hy hh => by omega)
 unfold LU JY
 simp (disch := omega) only [aD, fF, aQ, aA]
 unfold J1 J0 KG LL
 refine aF1 hm hs x07 (by omega) hcc (by simp) (by omega) ht (by omega) (by omega) o17 o67 ob fun w8 ob8 x8 => ?_
 have x08 := x07.new x8 (by omega)
 have o18 := o17.ext x8 (by omega)
 have o28 := o27.ext x8 (by omega)
 have o68 := o67.ext x8 (by omega)
 unfold J9 LG Lr LD Ko Kq
 refine aEv hm hs x08 (by omega) (by omega) hcc harr rfl (by omega) (by omega) (by omega) o18 o68 ob8 fun w9 ob9 x9 => ?_
 have x09 := x08.new x9 (by omega)
 refine aFW hm hlay hN hs x09 hcc (by omega) (by omega) (o18.ext x9 (by omega)) (o28.ext x9 (by omega)) (o68.ext x9 (by omega)) ob9 fun w10 ob10 x10 => ?_
 rw [hEs] at ob10
 exact ⟨b, cc, rest, rfl, by omega, ob10, x10⟩
theorem aGq {log : Nat} {ps : List Int} (hm : May log ps) : ∀ e ∈ xF log ps, 0 <= e.1 /\ e.1 < 256 := by
 intro e he
 obtain ⟨i, hi, rfl⟩ := aMX he
 have h2 : i < 2 ^ log := by rw [xE] at hi; exact hi
 rw [aEp log ps h2]
 obtain ⟨s, hs, e, _⟩ := axI hm (Ok hm 0) h2
 have := hm.len256
 rw [e]; omega
end Go.Proofs.YtgpimhlgaokobaaGreat
namespace Go.Proofs.YtgpimhlgaokobaaGreat
open Go Go.En Go.Pu
theorem akM : ((⟨#[]⟩ : ByteArray).toList == (⟨#[]⟩ : ByteArray).toList) = true := by simp
theorem apJ {x : ByteArray} (h : 0 < x.size) : (x.toList == (⟨#[]⟩ : ByteArray).toList) = false := by
 rw [ByteArray.toList_eq, ByteArray.toList_eq]
 have hl := eU x
 unfold fU at hl
 cases hx : x.data.toList with
 | nil => rw [hx] at hl; simp at hl; omega
 | cons a l => rfl
theorem ajV (x : ByteArray) : (x.toList == x.toList) = true := by simp
end Go.Proofs.YtgpimhlgaokobaaGreat
namespace Go.Proofs.YtgpimhlgaokobaaGreat
open Go Go.En Go.Pu
set_option maxRecDepth 4000
theorem AtI.mono {v : aNY} {lo hi lo' hi' : Nat} (h : AtI v lo hi) (h1 : lo' <= lo) (h2 : hi <= hi') : AtI v lo' hi' := fun M hM => h M fun b hb hh => hM b (by omega) (by omega)
theorem ayR {x : ByteArray} {w : aNX} (he : Yt (fU x) = none) (hl : x.size <= 1000000) :
 aS pg EC #[.string x] w (fun r w' => r = .tuple #[.agg #[.slice none 0 0, .int .i64 0], .int .i64 11] /\ aW w w' eS) := by
 refine XI ?_
 have hll := eU x
 unfold anJ MB MF
 refine jV fun w1 o1 x1 s1 => ?_
 rcases aMO x.size with h0 | h0
 .have hx : x = ⟨#[]⟩ := X4 (aL4.1 (by rw [hll, h0]))
  subst hx
  simp (disch := omega) only [aD, AJ, akM, dY, aA, iT, bF, if_true, aG, cV]
  refine cL o1 rfl (by simp [one]) (by simp) fun w6 o6 x6 s6 => ?_
  refine mA o6 (by simp [bM]) ⟨rfl, ?_⟩
  exact x1.new x6 (aLF _)
 .rw [MP (by omega)] at he
  have hg : (x[x.size - 1]'(by omega)).toNat = 0 := by
   rw [MD]
   simp only [hll] at he
   split at he
   .assumption
   .cases he
  have e1 : (x.size : Int) - 1 = ((x.size - 1 : Nat) : Int) := by omega
  have d2 : (((0 : Nat) : Int) == 0) = true := rfl
  have hne := apJ h0
  simp (disch := omega) only [aD, AJ, hne, dY, aA, cW, bF, aLu, if_false, bL, dL, fF, e1, aQ, iS, aLs, hg, dV, d2, aG]
  refine cL o1 rfl (by simp [one]) (by simp) fun w6 o6 x6 s6 => ?_
  refine mA o6 (by simp [bM]) ⟨rfl, ?_⟩
  exact x1.new x6 (aLF _)
def RB (w : aNX) (lo hi : Nat) (b : aNY) (L : List Bool) (lack : Nat) : Prop := ∃ v, b = .agg #[v, .int .i64 lack] /\ Bl w v L /\ AtI v lo hi
theorem RB.ext {w w' : aNX} {lo hi lack : Nat} {b : aNY} {L : List Bool} {M : Nat -> Prop} (h : RB w lo hi b L lack) (hx : aW w w' M) (hM : ∀ b, lo <= b -> b < hi -> ¬ M b) : RB w' lo hi b L lack := by
 obtain ⟨v, h1, h2, h3⟩ := h
 exact ⟨v, h1, h2.ext hx (h3 M hM), h3⟩
theorem aA9 {x : ByteArray} {k : Nat} {w : aNX} (he : Yt (fU x) = some k) (hl : x.size <= 1000000) :
 aS pg EC #[.string x] w (fun r w' => ∃ b hi, r = .tuple #[b, .int .i64 0] /\ hi <= w'.heap.size /\ RB w' w.heap.size hi b ((aZ (fU x)).take k) 0 /\ aW w w' eS) := by
 refine XI ?_
 have hll := eU x
 obtain ⟨h0, hk1, hk2, htop, hoff⟩ := H9 he
 unfold anJ MB MF
 refine jV fun w1 o1 x1 s1 => ?_
 rw [MP (by omega)] at he
 have hg : (x[x.size - 1]'(by omega)).toNat ≠ 0 := by
  rw [MD]
  simp only [hll] at he
  split at he
  .cases he
  .assumption
 have e1 : (x.size : Int) - 1 = ((x.size - 1 : Nat) : Int) := by omega
 have hne := apJ (show 0 < x.size by omega)
 have d2 : (((x[x.size - 1]'(by omega)).toNat : Int) == 0) = false := by simpa using hg
 simp (disch := omega) only [aD, AJ, hne, dY, aA, cW, bF, aLu, if_false, bL, dL, fF, e1, aQ, iS, aLs, dV, d2, aE]
 refine (axP hl).mono ?_
 rintro r w2 ⟨o2, x2⟩
 have hat := tE.atI o2
 have hs := o2.sl
 have hbl := lZ (fU x)
 obtain ⟨a, c, rfl⟩ := o2.len
 have o12 := o1.ext x2 (fun h => h)
 simp (disch := omega) only [lL, aA, fF, aQ]
 unfold TI Tz Ue
 refine cR.rule (fun m (t : aNY) w' => t = .int .i64 m /\ k <= m /\ m < 8 * x.size /\ w' = w2) (8 * x.size - 1)
  ⟨by have : ((8 * x.size : Nat) : Int) - 1 = ((8 * x.size - 1 : Nat) : Int) := by omega
      rw [this], by omega, by omega, rfl⟩ ?_
 rintro m t w3 ⟨rfl, hm1, hm2, rfl⟩
 unfold My
 obtain ⟨b, off, c', e, _, hcell⟩ := aGU hs (by omega)
 rw [hbl, hll] at e
 cases e
 have hgm : (aZ (fU x))[m]? = some (decide (m = k)) := by
  by_cases h : m = k
  .subst h; simpa using htop
  .rw [hoff m (by omega) (by omega)]; simp [h]
 have g := hcell m (by omega)
 rw [aLA (by omega)] at hgm
 rw [aLT hgm] at g
 by_cases h : m = k
 .subst h
  have d3 : decide (m = m) = true := by simp
  have hsl := hs.take' (k := m) (by omega)
  have hsub : AtI (.slice (mZ (some ⟨b, off, none⟩) c 0 1) (m - 0) (c - 0)) w1.heap.size w3.heap.size := AtI.sub hat (by omega)
  rw [<- aNi] at hsl
  unfold Mi
  simp (disch := omega) only [aD, nQ, aLs, fF, aQ, aA, lM, fE, uK, g, aH, pL, and_true]
  refine cL o12 rfl (by simp [one]) (by simp) fun w6 o6 x6 s6 => ?_
  refine mA o6 (by simp [bM]) ?_
  simp only [bM, aLw, aLv, aLy, aLx, aLB]
  have z1 := x1.size
  have z2 := x2.size
  refine ⟨_, w3.heap.size, rfl, by have := x6.size; omega, ⟨_, rfl, hsl.ext x6 (hsub _ fun b hb hh => by omega), AtI.mono hsub (by omega) (by omega)⟩, ?_⟩
  exact (x1.seq x2).new x6 (by omega)
 .have d3 : decide (m = k) = false := by simpa using h
  have e2 : (m : Int) - 1 = ((m - 1 : Nat) : Int) := by omega
  simp (disch := omega) only [aD, nQ, aLs, fF, e2, aQ, aA, uK, g, d3, aH, pL, aLX, and_true, aG]
  exact ⟨m - 1, by omega, rfl, by omega, by omega⟩
theorem aqG {lo hi lack n : Nat} {b : aNY} {L : List Bool} {w : aNX} (h : RB w lo hi b L lack) (hn : n <= 56) (hL : L.length <= 10000000) (hk : lack <= 1000000000) :
 aS pg zE #[b, .int .i64 n] w (fun r w' => ∃ b', r = .tuple #[b', .int .u64 (qL L n : Nat)] /\ RB w' lo hi b' (L.take (L.length - min n L.length)) (lack + (n - min n L.length)) /\ aW w w' eS) := by
 refine avI ?_
 obtain ⟨RR, hRR⟩ : ∃ RR : aNY -> aNX -> Prop, RR = fun r w' => ∃ b', r = .tuple #[b', .int .u64 (qL L n : Nat)] /\ RB w' lo hi b' (L.take (L.length - min n L.length)) (lack + (n - min n L.length)) /\ aW w w' eS := ⟨_, rfl⟩
 rw [<- hRR]
 obtain ⟨v, rfl, hs, hat⟩ := h
 obtain ⟨a, c, rfl, hc⟩ := Ff hs
 unfold awH NH Pe
 refine nR fun w1 o1 x1 s1 => ?_
 refine jV fun w2 o2 x2 s2 => ?_
 simp only [Value.cells] at o1
 have o1 := o1.ext x2 (fun h => h)
 have c0 := o1.cell (off := 0)
 simp only [aLq, aLr] at c0
 have x02 : aW w w2 eS := x1.seq x2
 have hne : w.heap.size ≠ w1.heap.size := by omega
 obtain ⟨p1, hp1⟩ : ∃ p1, p1 = w.heap.size := ⟨_, rfl⟩
 obtain ⟨p2, hp2⟩ : ∃ p2, p2 = w1.heap.size := ⟨_, rfl⟩
 rw [<- hp1, <- hp2] at hne
 rw [<- hp1] at o1 c0 ⊢
 rw [<- hp2] at o2 ⊢
 have hw1 : w.heap.size <= p1 := by omega
 have hw2 : w.heap.size <= p2 := by omega
 have fin : ∀ (v : aNY) (l : Nat) (w' : aNX) (xx : Nat), eM w' p1 [v, .int .i64 l] -> one v = true -> eM w' p2 [.slice none 0 0, .int .i64 0] -> aW w w' eS →
     (∀ w'', aW w w'' eS -> RR (.tuple #[.agg #[v, .int .i64 l], .int .u64 xx]) w'') -> aD pg (aL 133 (.pointer (some ⟨p1, 0, none⟩))) w' fun t15 w => aD pg (aT 133 (.pointer (some ⟨p2, 0, none⟩)) t15) w fun _u w => Ac pg 133 (.pointer (some ⟨p2, 0, none⟩)) w fun r0 => RR (.tuple #[r0, .int .u64 xx]) w := by
  intro v l w' xx q1 qv q2 qx qk
  have l1 := fM (off := 0) q1 (by simp)
  simp only [aLy, aLx, aLB] at l1
  simp (disch := omega) only [aD, l1, aA]
  refine cL q2 rfl (by simp [one]; exact qv) (by simp) fun w6 o6 x6 s6 => ?_
  refine mA o6 (by simp [bM]) ?_
  simp only [bM, aLw, aLv, aLy, aLx, aLB]
  exact qk _ (qx.new x6 hw2)
 by_cases hn0 : n = 0
 .subst hn0
  have d1 : decide (((0 : Nat) : Int) < 1) = true := rfl
  simp (disch := omega) only [aD, aR, d1, cJ, aA, lX, iT, bF, if_true, aG, cV]
  refine fin _ lack w2 0 o1 rfl o2 x02 fun w' x => ?_
  rw [hRR]
  refine ⟨.agg #[.slice a L.length c, .int .i64 lack], ?_, ⟨_, rfl, ?_, hat⟩, x⟩
  .have h0 : qL L 0 = 0 := by
    have := sX L 0
    rw [Nat.pow_zero] at this; omega
   rw [h0]
  .have : L.take (L.length - min 0 L.length) = L := aL0 (by omega)
   rw [this]
   exact hs.ext x (bY _)
 have d1 : decide ((n : Int) < 1) = false := by simp; omega
 have d2 : decide ((56 : Int) < (n : Int)) = false := by simp; omega
 have hlt := sX L n
 have hp : 2 ^ n <= 2 ^ 56 := aLC (by omega) hn
 have tail : ∀ k : Nat, k = min n L.length -> IT RR
     (.int .i64 n) (.pointer (some ⟨p1, 0, none⟩)) (.pointer (some ⟨p2, 0, none⟩)) (.int .i64 k) w2 := by
  intro k hk0
  rw [<- hk0] at hRR
  have hsd := (hs.ext x02 (bY _)).drop' (k := L.length - k) (by omega)
  rw [<- aNc] at hsd
  have hval : qL L n = wN (L.drop (L.length - k)) * 2 ^ (n - k) := by unfold qL; rw [<- hk0]
  have e1 : (L.length : Int) - (k : Int) = ((L.length - k : Nat) : Int) := by omega
  unfold IT Q9
  simp (disch := omega) only [aD, cJ, aA, lX, c0, aH, lL, fF, e1, aQ, mF, aLs]
  refine (asK hsd (by rw [aLM]; omega)).mono ?_
  rintro r w3 ⟨rfl, rfl⟩
  generalize wN (L.drop (L.length - k)) = x0 at *
  unfold RO RX R6 QV Rk
  refine cR.rule (fun m (t : aNY × aNY) w' => ∃ i : Nat, m = n - i /\ t = (.int .u64 (x0 * 2 ^ (i - k) : Nat), .int .i64 i) /\ k <= i /\ i <= n /\ eM w' p1 [.slice a L.length c, .int .i64 (lack + (i - k) : Nat)] /\ aW w3 w' (fun y => y = p1)) (n - k)
   ⟨k, rfl, by simp, by omega, by omega, by simpa using o1, aW.refl _ _⟩ ?_
  rintro m t w4 ⟨i, rfl, rfl, hi1, hi2, o4, x4⟩
  have c14 := o4.cell (off := 1)
  have c04 := o4.cell (off := 0)
  simp only [aLq, aLr] at c14 c04
  unfold IY
  by_cases hlt2 : i < n
  .have d3 : decide ((i : Int) < (n : Int)) = true := by simp; omega
   have hle : x0 * 2 ^ (i + 1 - k) <= qL L n := by
    rw [hval]; exact Nat.mul_le_mul_left _ (aLC (by omega) (by omega))
   have hsu : x0 * 2 ^ (i + 1 - k) = x0 * 2 ^ (i - k) * 2 := by rw [show i + 1 - k = i - k + 1 from by omega, aL6, aNE]
   generalize x0 * 2 ^ (i - k) = y at *
   have e2 : ((lack + (i - k) : Nat) : Int) + 1 = ((lack + (i + 1 - k) : Nat) : Int) := by omega
   have e3 : (y : Int) * 2 = ((y * 2 : Nat) : Int) := by omega
   simp (disch := omega) only [aD, aR, d3, oS, e3, kV, cN, aLt, bJ, aQ, aA, bO, c14, aH, e2, aG]
   refine pH o4 rfl (by simp) fun w5 o5 x5 s5 => ?_
   simp only [aLw, aLv] at o5
   exact ⟨n - (i + 1), by omega, i + 1, by omega, by rw [hsu]; simp, by omega, by omega, o5, x4.seq x5⟩
  .have d3 : decide ((i : Int) < (n : Int)) = false := by simp; omega
   obtain rfl : i = n := by omega
   rw [<- hval]
   unfold Ja
   simp (disch := omega) only [aD, aR, d3, oS, kV, cN, aLt, bJ, aQ, aA, bO, cJ, lX, c04, aH, lL, fF, e1, lM, aLs, aE]
   refine aEa o4 rfl (by simp) fun w5 o5 x5 s5 => ?_
   simp only [aLw, aLv] at o5
   have x35 := x4.seq x5
   refine fin _ _ w5 _ o5 rfl (o2.ext x35 (by omega)) (x02.new x35 hw1) fun w' x => ?_
   rw [hRR]
   refine ⟨_, rfl, ⟨_, rfl, ?_, AtI.sub hat (by omega)⟩, x⟩
   have hst := hs.take' (k := L.length - k) (by omega)
   rw [<- aNi] at hst
   exact hst.ext x (bY _)
 by_cases hgt : L.length < n
 .have d3 : decide ((L.length : Int) < (n : Int)) = true := by simp; omega
  simp (disch := omega) only [aD, aR, d1, cJ, aA, lX, cW, bF, aLu, if_false, bL, cX, d2, c0, aH, lL, d3, aG, aE]
  exact tail _ (by omega)
 .have d3 : decide ((L.length : Int) < (n : Int)) = false := by simp; omega
  simp (disch := omega) only [aD, aR, d1, cJ, aA, lX, cW, bF, aLu, if_false, bL, cX, d2, c0, aH, lL, d3, aE]
  exact tail _ (by omega)
theorem aoG {lo hi lack : Nat} {b : aNY} {L : List Bool} {w : aNX} (h : RB w lo hi b L lack) (hL : L.length <= 10000000) (hk : lack <= 1000000000) :
 aS pg Ci #[b] w (fun r w' => r = .int .i64 ((L.length : Int) - lack) /\ aW w w' eS) := by
 refine auF ?_
 obtain ⟨v, rfl, hs, hat⟩ := h
 obtain ⟨a, c, rfl, hc⟩ := Ff hs
 unfold ayT Q0
 refine nR fun w1 o1 x1 s1 => ?_
 simp only [Value.cells] at o1
 have c0 := o1.cell (off := 0)
 have c1 := o1.cell (off := 1)
 simp only [aLq, aLr] at c0 c1
 simp (disch := omega) only [aD, cJ, cN, aLt, aA, bO, lX, c0, aH, lL, c1, fF, aQ, true_and]
 exact x1
def lD (L : List T3) (s : Int) : Nat := if 0 <= s then (match L[s.toNat]? with | some e => e.2.1.toNat | none => 0) else 0
def uW (L : List T3) (s : Int) (x : Nat) : Int := if 0 <= s then (match L[s.toNat]? with | some e => e.2.2 + x | none => 0) else 0
theorem aA5 {L : List T3} (h : Low L) (s : Int) : lD L s <= 20 := by
 unfold lD
 split
 .split
  .rename_i e he
   obtain ⟨n, h1, h2, _⟩ := h _ (aMz he)
   rw [h1]; simpa using h2
  .omega
 .omega
theorem awN {log lo hi : Nat} {a : Option Addr} {k c : Nat} {l : List UInt8} {left : Int} {w : aNX} (h : Bwd w lo hi l left) (hlh : lo <= hi) (hhi : hi < w.heap.size) (hn : log <= 20) (h1 : left <= 8 * l.length) (h2 : -100000000 <= left) (hl : l.length <= 1000000) :
 aS pg Qy #[.agg #[.int .i64 log, .slice a k c], .pointer (some ⟨hi, 0, none⟩)] w (fun r w' => r = .int .i64 (qL ((aZ l).take left.toNat) log : Nat) /\ Bwd w' lo hi l (left - log) /\ aW w w' (fun y => y = hi)) := by
 refine aAd ?_
 unfold aBk T0
 refine nR fun w1 o1 x1 s1 => ?_
 simp only [Value.cells] at o1
 have c0 := o1.cell (off := 0)
 simp only [aLq, aLr] at c0
 simp (disch := omega) only [aD, jR, aA, bO, c0, aH]
 refine (aqC (h.ext x1 (fun _ _ _ h => h) hlh) hlh (by omega) h1 (by omega) hl).mono ?_
 rintro r w2 ⟨rfl, b2, x2⟩
 have hlt := sX ((aZ l).take left.toNat) log
 have hp : 2 ^ log <= 2 ^ 20 := aLC (by omega) hn
 generalize qL ((aZ l).take left.toNat) log = x at *
 simp (disch := omega) only [bX, aQ, aA, true_and]
 exact ⟨b2, (x1.mono fun _ _ h => h.elim).seq x2⟩
theorem aGh {log base b lo hi : Nat} {L : List T3} {v : aNY} {s : Int} {l : List UInt8} {left : Int} {w : aNX} (ht : Tbl w base b log L v) (hL : Low L) (hlen : L.length <= 1000000) (h : Bwd w lo hi l left) (hlh : lo <= hi) (hhi : hi < w.heap.size) (hb : b ≠ hi) (h1 : left <= 8 * l.length) (h2 : -100000000 <= left) (hl : l.length <= 1000000) :
 aS pg Un #[v, .int .i64 s, .pointer (some ⟨hi, 0, none⟩)] w (fun r w' => r = .int .i64 (uW L s (qL ((aZ l).take left.toNat) (lD L s))) /\ Bwd w' lo hi l (left - lD L s) /\ aW w w' (fun y => y = hi)) := by
 refine aAt ?_
 obtain ⟨rfl, hb0, ob⟩ := ht
 unfold aCr Xi
 refine nR fun w1 o1 x1 s1 => ?_
 simp only [Value.cells] at o1
 have c1 := o1.cell (off := 1)
 simp only [aLq, aLr] at c1
 have hbw := h.ext x1 (fun _ _ _ h => h) hlh
 by_cases hs0 : s < 0
 .have d1 : decide (s < 0) = true := by simpa using hs0
  have e1 : lD L s = 0 := by unfold lD; rw [if_neg (by omega)]
  have e2 : ∀ x, uW L s x = 0 := fun x => by unfold uW; rw [if_neg (by omega)]
  rw [e1]
  simp (disch := omega) only [aD, aR, d1, cT, aLt, aA, jH, and_true, true_and, gB, iT, bF, if_true, aG, cV]
  exact ⟨by rw [e2], by simpa using hbw, x1.mono fun _ _ h => h.elim⟩
 have d1 : decide (s < 0) = false := by simpa using hs0
 obtain ⟨i, rfl⟩ : ∃ i : Nat, s = i := ⟨s.toNat, by omega⟩
 by_cases hge : L.length <= i
 .have d2 : decide ((L.length : Int) <= (i : Int)) = true := by simp; omega
  have hnone : L[i]? = none := aLH hge
  have e1 : lD L i = 0 := by unfold lD; simp [hnone]
  have e2 : ∀ x, uW L i x = 0 := fun x => by unfold uW; simp [hnone]
  rw [e1]
  simp (disch := omega) only [aD, aR, d1, cT, aLt, aA, jH, and_true, true_and, gB, cW, bF, aLu, if_false, bL, c1, aH, iP, nJ, d2, aG]
  exact ⟨by rw [e2], by simpa using hbw, x1.mono fun _ _ h => h.elim⟩
 have d2 : decide ((L.length : Int) <= (i : Int)) = false := by simp; omega
 have hlt : i < L.length := by omega
 have l1 := Zv (off := i * 3) (ob.ext x1 (fun h => h)) (by rw [qC]; omega)
 rw [aB5 hlt] at l1
 obtain ⟨n, hn, hn2, hb0', hb1⟩ := hL _ (aMf hlt)
 have hsome : L[i]? = some L[i] := aLA hlt
 have e1 : lD L i = n := by unfold lD; simp [hsome, hn]
 have e2 : ∀ x : Nat, uW L i x = L[i].2.2 + x := fun x => by unfold uW; simp [hsome]
 generalize L[i] = e at *
 obtain ⟨e0, en, eb⟩ := e
 simp only at hn hb0' hb1 l1 e2
 subst hn
 rw [e1, e2]
 simp (disch := omega) only [aD, aR, d1, cT, aLt, aA, jH, and_true, true_and, gB, cW, bF, aLu, if_false, bL, c1, aH, iP, nJ, d2, gV, aLs, l1, aE]
 refine amB fun w3 o3 x3 s3 => ?_
 refine ZA o3 rfl (by simp [one]) (by simp) fun w4 o4 x4 s4 => ?_
 simp only [bM, aLw, aLv] at o4
 have x14 : aW w1 w4 eS := x3.new x4 (by omega)
 have od := kB o4
 have k1 := o4.cell (off := 1)
 have k2 := o4.cell (off := 2)
 have k1d := od.cell (off := 1)
 have k2d := od.cell (off := 2)
 simp only [aLq, aLr] at k1 k2 k1d k2d
 simp (disch := omega) only [iK, aLt, gP, Result.ok.injEq, Next.value.injEq, and_true, aA, bO, k1d, aH, true_and, k2d]
 have z3 := x3.size
 refine (aqC ((hbw.ext x14 (fun _ _ _ h => h) hlh).ext (aW.dr _ eS) (fun _ _ _ h => h) hlh) hlh (by omega) h1 (by omega) hl).mono ?_
 rintro r w5 ⟨rfl, b5, x5⟩
 have x45 : aW w4 w5 (fun y => y = hi) := (aW.dr _ _).seq x5
 have k2e := (o4.ext x45 (by omega)).cell (off := 2)
 simp only [aLq, aLr] at k2e
 have hlt := sX ((aZ l).take left.toNat) n
 have hp : 2 ^ n <= 2 ^ 20 := aLC (by omega) hn2
 generalize qL ((aZ l).take left.toNat) n = x at *
 simp (disch := omega) only [k2e, aH, bX, aQ, aA, bJ, true_and]
 exact ⟨b5, ((x1.seq x14).mono fun _ _ h => h.elim).seq x45⟩
def RT (w : aNX) (b log : Nat) (L : List T3) (v : aNY) : Prop := ∃ cc rest, v = .agg #[.int .i64 log, .slice (some ⟨b, 0, none⟩) L.length cc] /\ eM w b (fe .i64 L ++ rest)
theorem RT.ext {w w' : aNX} {b log : Nat} {L : List T3} {v : aNY} {M : Nat -> Prop} (h : RT w b log L v) (hx : aW w w' M) (hM : ¬ M b) : RT w' b log L v := by
 obtain ⟨cc, rest, h1, h2⟩ := h
 exact ⟨cc, rest, h1, h2.ext hx hM⟩
end Go.Proofs.YtgpimhlgaokobaaGreat
